/- Part D1 of the proof. -/
import Derived.Test.YtjdklngopfpjgaaGreatDoorX7
import Derived.Test.YtjdklngopfpjgaaGreatDoorProg
import Derived.KernelRfl
open Go Go.AX Go.Proofs
namespace Q
noncomputable section
set_option maxRecDepth 100000
set_option linter.unusedVariables false
abbrev z0:Ty:=.pair (.int .i64) (.int .i64)
abbrev z1:Ty:=.list z0
abbrev z2:Ty:=.pair (.int .i64) z0
abbrev z3:Ty:=.list (.pair .str (.pair .bool (.list (.int .i64))))
abbrev z4:Ty:=.list z2
abbrev z5:Ty:=.pair (.int .i64) z2
abbrev z6:Ty:=.list (.pair (.int .i64) z5)
abbrev d0:Type:=List (Int)
abbrev d1:Type:=List ((Int×Int))
abbrev d2:Type:=List ((Int×(Int×Int)))
abbrev d3:Type:=List ((List UInt8×(Bool×d0)))
abbrev d4:Type:=List ((Int×(Int×(Int×(Int×Int)))))
def types:List Nat:=[3,9,4,27,22,36,34,23,71,24,57,25,47,0,87,91,89,130,30,5,31,131,45,78,80,82,200,226,216,225,218,20,217,215,2,199,203,83,64,118,43,111,112,110,1,38,113,114,188,115,116,198,68,60,67,65,124,153,135,194,121,109,149,55,72,77,75,74,166,167,170,52,207,125,161,49,107,61,39]
def tt:TT:=[(3,(.mk (.int .i64) 1 8 (.some [(.a (.val (.int .i64) ((0:Int):Int)))]) false)),(9,(.mk .str 1 16 (.some [(.a (.val .str (([]:List UInt8):List UInt8)))]) false)),(4,(.mk .bool 1 1 (.some [(.a (.val .bool (false:Bool)))]) false)),(27,(.mk (.struct [(0,(1,9)),(1,(1,22)),(2,(1,23)),(3,(1,24)),(4,(1,25))]) 5 112 (.some [(.a (.val .str (([]:List UInt8):List UInt8))),(.a .nilsl),(.a .nilsl),(.a .nilsl),(.a .nilsl)]) true)),(22,(.mk (.slice 36) 1 24 (.some [(.a .nilsl)]) false)),(36,(.mk (.struct [(0,(1,9)),(1,(1,4)),(2,(1,34))]) 3 48 (.some [(.a (.val .str (([]:List UInt8):List UInt8))),(.a (.val .bool (false:Bool))),(.a .nilsl)]) true)),(34,(.mk (.slice 3) 1 24 (.some [(.a .nilsl)]) false)),(23,(.mk (.slice 71) 1 24 (.some [(.a .nilsl)]) false)),(71,(.mk (.struct [(0,(1,3)),(1,(1,3))]) 2 16 (.some [(.a (.val (.int .i64) ((0:Int):Int))),(.a (.val (.int .i64) ((0:Int):Int)))]) true)),(24,(.mk (.slice 57) 1 24 (.some [(.a .nilsl)]) false)),(57,(.mk (.struct [(0,(1,3)),(1,(1,3)),(2,(1,3))]) 3 24 (.some [(.a (.val (.int .i64) ((0:Int):Int))),(.a (.val (.int .i64) ((0:Int):Int))),(.a (.val (.int .i64) ((0:Int):Int)))]) true)),(25,(.mk (.slice 47) 1 24 (.some [(.a .nilsl)]) false)),(47,(.mk (.struct [(0,(1,3)),(1,(1,3)),(2,(1,3)),(3,(1,3)),(4,(1,3))]) 5 40 (.some [(.a (.val (.int .i64) ((0:Int):Int))),(.a (.val (.int .i64) ((0:Int):Int))),(.a (.val (.int .i64) ((0:Int):Int))),(.a (.val (.int .i64) ((0:Int):Int))),(.a (.val (.int .i64) ((0:Int):Int)))]) true)),(0,(.mk .other 1 0 (.some [(.a .undef)]) false)),(87,(.mk (.slice 91) 1 24 (.some [(.a .nilsl)]) false)),(91,(.mk (.struct [(0,(1,3)),(1,(1,3)),(2,(1,3))]) 3 24 (.some [(.a (.val (.int .i64) ((0:Int):Int))),(.a (.val (.int .i64) ((0:Int):Int))),(.a (.val (.int .i64) ((0:Int):Int)))]) true)),(89,(.mk (.struct [(0,(1,9)),(1,(1,22)),(2,(1,87)),(3,(1,23)),(4,(1,3)),(5,(1,3))]) 6 104 (.some [(.a (.val .str (([]:List UInt8):List UInt8))),(.a .nilsl),(.a .nilsl),(.a .nilsl),(.a (.val (.int .i64) ((0:Int):Int))),(.a (.val (.int .i64) ((0:Int):Int)))]) true)),(130,(.mk (.struct [(0,(1,34)),(1,(1,34))]) 2 48 (.some [(.a .nilsl),(.a .nilsl)]) true)),(30,(.mk (.int .i64) 1 8 (.some [(.a (.val (.int .i64) ((0:Int):Int)))]) false)),(5,(.mk (.int .u8) 1 1 (.some [(.a (.val (.int .u8) ((0:Int):Int)))]) false)),(31,(.mk .other 1 0 (.some [(.a .undef)]) false)),(131,(.mk .other 1 0 (.some [(.a .undef)]) false)),(45,(.mk (.slice 5) 1 24 (.some [(.a .nilsl)]) false)),(78,(.mk (.ptr 80) 1 8 (.some [(.a .nilptr)]) false)),(80,(.mk (.struct [(0,(1,78)),(1,(1,45))]) 2 32 (.some [(.a .nilptr),(.a .nilsl)]) true)),(82,(.mk .iface 1 16 (.some [(.a .nilif)]) false)),(200,(.mk (.int .u64) 1 8 (.some [(.a (.val (.int .u64) ((0:Int):Int)))]) false)),(226,(.mk (.arr 64 5) 64 64 (.some [(.a (.val (.int .u8) ((0:Int):Int))),(.a (.val (.int .u8) ((0:Int):Int))),(.a (.val (.int .u8) ((0:Int):Int))),(.a (.val (.int .u8) ((0:Int):Int))),(.a (.val (.int .u8) ((0:Int):Int))),(.a (.val (.int .u8) ((0:Int):Int))),(.a (.val (.int .u8) ((0:Int):Int))),(.a (.val (.int .u8) ((0:Int):Int))),(.a (.val (.int .u8) ((0:Int):Int))),(.a (.val (.int .u8) ((0:Int):Int))),(.a (.val (.int .u8) ((0:Int):Int))),(.a (.val (.int .u8) ((0:Int):Int))),(.a (.val (.int .u8) ((0:Int):Int))),(.a (.val (.int .u8) ((0:Int):Int))),(.a (.val (.int .u8) ((0:Int):Int))),(.a (.val (.int .u8) ((0:Int):Int))),(.a (.val (.int .u8) ((0:Int):Int))),(.a (.val (.int .u8) ((0:Int):Int))),(.a (.val (.int .u8) ((0:Int):Int))),(.a (.val (.int .u8) ((0:Int):Int))),(.a (.val (.int .u8) ((0:Int):Int))),(.a (.val (.int .u8) ((0:Int):Int))),(.a (.val (.int .u8) ((0:Int):Int))),(.a (.val (.int .u8) ((0:Int):Int))),(.a (.val (.int .u8) ((0:Int):Int))),(.a (.val (.int .u8) ((0:Int):Int))),(.a (.val (.int .u8) ((0:Int):Int))),(.a (.val (.int .u8) ((0:Int):Int))),(.a (.val (.int .u8) ((0:Int):Int))),(.a (.val (.int .u8) ((0:Int):Int))),(.a (.val (.int .u8) ((0:Int):Int))),(.a (.val (.int .u8) ((0:Int):Int))),(.a (.val (.int .u8) ((0:Int):Int))),(.a (.val (.int .u8) ((0:Int):Int))),(.a (.val (.int .u8) ((0:Int):Int))),(.a (.val (.int .u8) ((0:Int):Int))),(.a (.val (.int .u8) ((0:Int):Int))),(.a (.val (.int .u8) ((0:Int):Int))),(.a (.val (.int .u8) ((0:Int):Int))),(.a (.val (.int .u8) ((0:Int):Int))),(.a (.val (.int .u8) ((0:Int):Int))),(.a (.val (.int .u8) ((0:Int):Int))),(.a (.val (.int .u8) ((0:Int):Int))),(.a (.val (.int .u8) ((0:Int):Int))),(.a (.val (.int .u8) ((0:Int):Int))),(.a (.val (.int .u8) ((0:Int):Int))),(.a (.val (.int .u8) ((0:Int):Int))),(.a (.val (.int .u8) ((0:Int):Int))),(.a (.val (.int .u8) ((0:Int):Int))),(.a (.val (.int .u8) ((0:Int):Int))),(.a (.val (.int .u8) ((0:Int):Int))),(.a (.val (.int .u8) ((0:Int):Int))),(.a (.val (.int .u8) ((0:Int):Int))),(.a (.val (.int .u8) ((0:Int):Int))),(.a (.val (.int .u8) ((0:Int):Int))),(.a (.val (.int .u8) ((0:Int):Int))),(.a (.val (.int .u8) ((0:Int):Int))),(.a (.val (.int .u8) ((0:Int):Int))),(.a (.val (.int .u8) ((0:Int):Int))),(.a (.val (.int .u8) ((0:Int):Int))),(.a (.val (.int .u8) ((0:Int):Int))),(.a (.val (.int .u8) ((0:Int):Int))),(.a (.val (.int .u8) ((0:Int):Int))),(.a (.val (.int .u8) ((0:Int):Int)))]) false)),(216,(.mk (.int .u32) 1 4 (.some [(.a (.val (.int .u32) ((0:Int):Int)))]) false)),(225,(.mk (.arr 32 5) 32 32 (.some [(.a (.val (.int .u8) ((0:Int):Int))),(.a (.val (.int .u8) ((0:Int):Int))),(.a (.val (.int .u8) ((0:Int):Int))),(.a (.val (.int .u8) ((0:Int):Int))),(.a (.val (.int .u8) ((0:Int):Int))),(.a (.val (.int .u8) ((0:Int):Int))),(.a (.val (.int .u8) ((0:Int):Int))),(.a (.val (.int .u8) ((0:Int):Int))),(.a (.val (.int .u8) ((0:Int):Int))),(.a (.val (.int .u8) ((0:Int):Int))),(.a (.val (.int .u8) ((0:Int):Int))),(.a (.val (.int .u8) ((0:Int):Int))),(.a (.val (.int .u8) ((0:Int):Int))),(.a (.val (.int .u8) ((0:Int):Int))),(.a (.val (.int .u8) ((0:Int):Int))),(.a (.val (.int .u8) ((0:Int):Int))),(.a (.val (.int .u8) ((0:Int):Int))),(.a (.val (.int .u8) ((0:Int):Int))),(.a (.val (.int .u8) ((0:Int):Int))),(.a (.val (.int .u8) ((0:Int):Int))),(.a (.val (.int .u8) ((0:Int):Int))),(.a (.val (.int .u8) ((0:Int):Int))),(.a (.val (.int .u8) ((0:Int):Int))),(.a (.val (.int .u8) ((0:Int):Int))),(.a (.val (.int .u8) ((0:Int):Int))),(.a (.val (.int .u8) ((0:Int):Int))),(.a (.val (.int .u8) ((0:Int):Int))),(.a (.val (.int .u8) ((0:Int):Int))),(.a (.val (.int .u8) ((0:Int):Int))),(.a (.val (.int .u8) ((0:Int):Int))),(.a (.val (.int .u8) ((0:Int):Int))),(.a (.val (.int .u8) ((0:Int):Int)))]) false)),(218,(.mk (.int .u64) 1 8 (.some [(.a (.val (.int .u64) ((0:Int):Int)))]) false)),(20,(.mk .iface 1 16 (.some [(.a .nilif)]) false)),(217,(.mk (.arr 65 5) 65 65 (.some [(.a (.val (.int .u8) ((0:Int):Int))),(.a (.val (.int .u8) ((0:Int):Int))),(.a (.val (.int .u8) ((0:Int):Int))),(.a (.val (.int .u8) ((0:Int):Int))),(.a (.val (.int .u8) ((0:Int):Int))),(.a (.val (.int .u8) ((0:Int):Int))),(.a (.val (.int .u8) ((0:Int):Int))),(.a (.val (.int .u8) ((0:Int):Int))),(.a (.val (.int .u8) ((0:Int):Int))),(.a (.val (.int .u8) ((0:Int):Int))),(.a (.val (.int .u8) ((0:Int):Int))),(.a (.val (.int .u8) ((0:Int):Int))),(.a (.val (.int .u8) ((0:Int):Int))),(.a (.val (.int .u8) ((0:Int):Int))),(.a (.val (.int .u8) ((0:Int):Int))),(.a (.val (.int .u8) ((0:Int):Int))),(.a (.val (.int .u8) ((0:Int):Int))),(.a (.val (.int .u8) ((0:Int):Int))),(.a (.val (.int .u8) ((0:Int):Int))),(.a (.val (.int .u8) ((0:Int):Int))),(.a (.val (.int .u8) ((0:Int):Int))),(.a (.val (.int .u8) ((0:Int):Int))),(.a (.val (.int .u8) ((0:Int):Int))),(.a (.val (.int .u8) ((0:Int):Int))),(.a (.val (.int .u8) ((0:Int):Int))),(.a (.val (.int .u8) ((0:Int):Int))),(.a (.val (.int .u8) ((0:Int):Int))),(.a (.val (.int .u8) ((0:Int):Int))),(.a (.val (.int .u8) ((0:Int):Int))),(.a (.val (.int .u8) ((0:Int):Int))),(.a (.val (.int .u8) ((0:Int):Int))),(.a (.val (.int .u8) ((0:Int):Int))),(.a (.val (.int .u8) ((0:Int):Int))),(.a (.val (.int .u8) ((0:Int):Int))),(.a (.val (.int .u8) ((0:Int):Int))),(.a (.val (.int .u8) ((0:Int):Int))),(.a (.val (.int .u8) ((0:Int):Int))),(.a (.val (.int .u8) ((0:Int):Int))),(.a (.val (.int .u8) ((0:Int):Int))),(.a (.val (.int .u8) ((0:Int):Int))),(.a (.val (.int .u8) ((0:Int):Int))),(.a (.val (.int .u8) ((0:Int):Int))),(.a (.val (.int .u8) ((0:Int):Int))),(.a (.val (.int .u8) ((0:Int):Int))),(.a (.val (.int .u8) ((0:Int):Int))),(.a (.val (.int .u8) ((0:Int):Int))),(.a (.val (.int .u8) ((0:Int):Int))),(.a (.val (.int .u8) ((0:Int):Int))),(.a (.val (.int .u8) ((0:Int):Int))),(.a (.val (.int .u8) ((0:Int):Int))),(.a (.val (.int .u8) ((0:Int):Int))),(.a (.val (.int .u8) ((0:Int):Int))),(.a (.val (.int .u8) ((0:Int):Int))),(.a (.val (.int .u8) ((0:Int):Int))),(.a (.val (.int .u8) ((0:Int):Int))),(.a (.val (.int .u8) ((0:Int):Int))),(.a (.val (.int .u8) ((0:Int):Int))),(.a (.val (.int .u8) ((0:Int):Int))),(.a (.val (.int .u8) ((0:Int):Int))),(.a (.val (.int .u8) ((0:Int):Int))),(.a (.val (.int .u8) ((0:Int):Int))),(.a (.val (.int .u8) ((0:Int):Int))),(.a (.val (.int .u8) ((0:Int):Int))),(.a (.val (.int .u8) ((0:Int):Int))),(.a (.val (.int .u8) ((0:Int):Int)))]) false)),(215,(.mk (.arr 20 200) 20 160 (.some [(.a (.val (.int .u64) ((0:Int):Int))),(.a (.val (.int .u64) ((0:Int):Int))),(.a (.val (.int .u64) ((0:Int):Int))),(.a (.val (.int .u64) ((0:Int):Int))),(.a (.val (.int .u64) ((0:Int):Int))),(.a (.val (.int .u64) ((0:Int):Int))),(.a (.val (.int .u64) ((0:Int):Int))),(.a (.val (.int .u64) ((0:Int):Int))),(.a (.val (.int .u64) ((0:Int):Int))),(.a (.val (.int .u64) ((0:Int):Int))),(.a (.val (.int .u64) ((0:Int):Int))),(.a (.val (.int .u64) ((0:Int):Int))),(.a (.val (.int .u64) ((0:Int):Int))),(.a (.val (.int .u64) ((0:Int):Int))),(.a (.val (.int .u64) ((0:Int):Int))),(.a (.val (.int .u64) ((0:Int):Int))),(.a (.val (.int .u64) ((0:Int):Int))),(.a (.val (.int .u64) ((0:Int):Int))),(.a (.val (.int .u64) ((0:Int):Int))),(.a (.val (.int .u64) ((0:Int):Int)))]) false)),(2,(.mk (.int .i64) 1 8 (.some [(.a (.val (.int .i64) ((0:Int):Int)))]) false)),(199,(.mk (.arr 24 5) 24 24 (.some [(.a (.val (.int .u8) ((0:Int):Int))),(.a (.val (.int .u8) ((0:Int):Int))),(.a (.val (.int .u8) ((0:Int):Int))),(.a (.val (.int .u8) ((0:Int):Int))),(.a (.val (.int .u8) ((0:Int):Int))),(.a (.val (.int .u8) ((0:Int):Int))),(.a (.val (.int .u8) ((0:Int):Int))),(.a (.val (.int .u8) ((0:Int):Int))),(.a (.val (.int .u8) ((0:Int):Int))),(.a (.val (.int .u8) ((0:Int):Int))),(.a (.val (.int .u8) ((0:Int):Int))),(.a (.val (.int .u8) ((0:Int):Int))),(.a (.val (.int .u8) ((0:Int):Int))),(.a (.val (.int .u8) ((0:Int):Int))),(.a (.val (.int .u8) ((0:Int):Int))),(.a (.val (.int .u8) ((0:Int):Int))),(.a (.val (.int .u8) ((0:Int):Int))),(.a (.val (.int .u8) ((0:Int):Int))),(.a (.val (.int .u8) ((0:Int):Int))),(.a (.val (.int .u8) ((0:Int):Int))),(.a (.val (.int .u8) ((0:Int):Int))),(.a (.val (.int .u8) ((0:Int):Int))),(.a (.val (.int .u8) ((0:Int):Int))),(.a (.val (.int .u8) ((0:Int):Int)))]) false)),(203,(.mk .other 1 0 (.some [(.a .undef)]) false)),(83,(.mk .other 1 0 (.some [(.a .undef)]) false)),(64,(.mk (.ptr 118) 1 8 (.some [(.a .nilptr)]) false)),(118,(.mk (.struct [(0,(2,43)),(2,(1,111)),(3,(1,3)),(4,(1,3)),(5,(1,24)),(6,(1,112)),(7,(1,110)),(8,(1,1)),(9,(1,45)),(10,(1,4)),(11,(5,38)),(16,(1,3)),(17,(1,34)),(18,(1,113)),(19,(1,9)),(20,(1,3)),(21,(1,114)),(22,(1,115)),(23,(1,116)),(24,(1,34))]) 25 296 (.some [(.a (.val (.int .i64) ((0:Int):Int))),(.a (.val .bool (false:Bool))),(.a .nilptr),(.a (.val (.int .i64) ((0:Int):Int))),(.a (.val (.int .i64) ((0:Int):Int))),(.a .nilsl),(.a .nilfn),(.a .nilfn),(.a .nilfn),(.a .nilsl),(.a (.val .bool (false:Bool))),(.a (.val .str (([]:List UInt8):List UInt8))),(.a (.val (.int .i64) ((0:Int):Int))),(.a (.val (.int .i64) ((0:Int):Int))),(.a (.val (.int .i64) ((0:Int):Int))),(.a (.val (.int .i64) ((0:Int):Int))),(.a (.val (.int .i64) ((0:Int):Int))),(.a .nilsl),(.a .nilmap),(.a (.val .str (([]:List UInt8):List UInt8))),(.a (.val (.int .i64) ((0:Int):Int))),(.a .nilptr),(.a .nilmap),(.a .nilsl),(.a .nilsl)]) true)),(43,(.mk (.struct [(0,(1,3)),(1,(1,4))]) 2 16 (.some [(.a (.val (.int .i64) ((0:Int):Int))),(.a (.val .bool (false:Bool)))]) true)),(111,(.mk (.ptr 197) 1 8 (.some [(.a .nilptr)]) false)),(112,(.mk .func 1 8 (.some [(.a .nilfn)]) false)),(110,(.mk .func 1 8 (.some [(.a .nilfn)]) false)),(1,(.mk .func 1 8 (.some [(.a .nilfn)]) false)),(38,(.mk (.struct [(0,(1,9)),(1,(1,3)),(2,(1,3)),(3,(1,30)),(4,(1,3))]) 5 48 (.some [(.a (.val .str (([]:List UInt8):List UInt8))),(.a (.val (.int .i64) ((0:Int):Int))),(.a (.val (.int .i64) ((0:Int):Int))),(.a (.val (.int .i64) ((0:Int):Int))),(.a (.val (.int .i64) ((0:Int):Int)))]) true)),(113,(.mk (.map 3 3) 1 8 (.some [(.a .nilmap)]) false)),(114,(.mk (.ptr 188) 1 8 (.some [(.a .nilptr)]) false)),(188,(.mk (.struct [(0,(1,3)),(1,(1,3)),(2,(1,3)),(3,(1,4)),(4,(1,4)),(5,(1,3)),(6,(1,3)),(7,(1,3)),(8,(1,114))]) 9 64 (.some [(.a (.val (.int .i64) ((0:Int):Int))),(.a (.val (.int .i64) ((0:Int):Int))),(.a (.val (.int .i64) ((0:Int):Int))),(.a (.val .bool (false:Bool))),(.a (.val .bool (false:Bool))),(.a (.val (.int .i64) ((0:Int):Int))),(.a (.val (.int .i64) ((0:Int):Int))),(.a (.val (.int .i64) ((0:Int):Int))),(.a .nilptr)]) true)),(115,(.mk (.map 3 114) 1 8 (.some [(.a .nilmap)]) false)),(116,(.mk (.slice 198) 1 24 (.some [(.a .nilsl)]) false)),(198,(.mk .func 1 8 (.some [(.a .nilfn)]) false)),(68,(.mk .func 1 8 (.some [(.a .nilfn)]) false)),(60,(.mk (.ptr 67) 1 8 (.some [(.a .nilptr)]) false)),(67,(.mk (.struct [(0,(1,64)),(1,(1,25)),(2,(1,3)),(3,(1,3)),(4,(1,65))]) 5 56 (.some [(.a .nilptr),(.a .nilsl),(.a (.val (.int .i64) ((0:Int):Int))),(.a (.val (.int .i64) ((0:Int):Int))),(.a .nilmap)]) true)),(65,(.mk (.map 3 124) 1 8 (.some [(.a .nilmap)]) false)),(124,(.mk .func 1 8 (.some [(.a .nilfn)]) false)),(153,(.mk .func 1 8 (.some [(.a .nilfn)]) false)),(135,(.mk .func 1 8 (.some [(.a .nilfn)]) false)),(194,(.mk .other 1 0 (.some [(.a .undef)]) false)),(121,(.mk .other 1 0 (.some [(.a .undef)]) false)),(109,(.mk .func 1 8 (.some [(.a .nilfn)]) false)),(149,(.mk .other 1 0 (.some [(.a .undef)]) false)),(55,(.mk .func 1 8 (.some [(.a .nilfn)]) false)),(72,(.mk (.ptr 77) 1 8 (.some [(.a .nilptr)]) false)),(77,(.mk (.struct [(0,(5,27)),(5,(1,75))]) 6 120 (.some [(.a (.val .str (([]:List UInt8):List UInt8))),(.a .nilsl),(.a .nilsl),(.a .nilsl),(.a .nilsl),(.a .nilmap)]) true)),(75,(.mk (.map 3 74) 1 8 (.some [(.a .nilmap)]) false)),(74,(.mk .func 1 8 (.some [(.a .nilfn)]) false)),(166,(.mk (.struct [(0,(1,9)),(1,(1,3)),(2,(1,3)),(3,(1,3))]) 4 40 (.some [(.a (.val .str (([]:List UInt8):List UInt8))),(.a (.val (.int .i64) ((0:Int):Int))),(.a (.val (.int .i64) ((0:Int):Int))),(.a (.val (.int .i64) ((0:Int):Int)))]) true)),(167,(.mk (.arr 31 166) 124 1240 (.some [(.a (.val .str (([]:List UInt8):List UInt8))),(.a (.val (.int .i64) ((0:Int):Int))),(.a (.val (.int .i64) ((0:Int):Int))),(.a (.val (.int .i64) ((0:Int):Int))),(.a (.val .str (([]:List UInt8):List UInt8))),(.a (.val (.int .i64) ((0:Int):Int))),(.a (.val (.int .i64) ((0:Int):Int))),(.a (.val (.int .i64) ((0:Int):Int))),(.a (.val .str (([]:List UInt8):List UInt8))),(.a (.val (.int .i64) ((0:Int):Int))),(.a (.val (.int .i64) ((0:Int):Int))),(.a (.val (.int .i64) ((0:Int):Int))),(.a (.val .str (([]:List UInt8):List UInt8))),(.a (.val (.int .i64) ((0:Int):Int))),(.a (.val (.int .i64) ((0:Int):Int))),(.a (.val (.int .i64) ((0:Int):Int))),(.a (.val .str (([]:List UInt8):List UInt8))),(.a (.val (.int .i64) ((0:Int):Int))),(.a (.val (.int .i64) ((0:Int):Int))),(.a (.val (.int .i64) ((0:Int):Int))),(.a (.val .str (([]:List UInt8):List UInt8))),(.a (.val (.int .i64) ((0:Int):Int))),(.a (.val (.int .i64) ((0:Int):Int))),(.a (.val (.int .i64) ((0:Int):Int))),(.a (.val .str (([]:List UInt8):List UInt8))),(.a (.val (.int .i64) ((0:Int):Int))),(.a (.val (.int .i64) ((0:Int):Int))),(.a (.val (.int .i64) ((0:Int):Int))),(.a (.val .str (([]:List UInt8):List UInt8))),(.a (.val (.int .i64) ((0:Int):Int))),(.a (.val (.int .i64) ((0:Int):Int))),(.a (.val (.int .i64) ((0:Int):Int))),(.a (.val .str (([]:List UInt8):List UInt8))),(.a (.val (.int .i64) ((0:Int):Int))),(.a (.val (.int .i64) ((0:Int):Int))),(.a (.val (.int .i64) ((0:Int):Int))),(.a (.val .str (([]:List UInt8):List UInt8))),(.a (.val (.int .i64) ((0:Int):Int))),(.a (.val (.int .i64) ((0:Int):Int))),(.a (.val (.int .i64) ((0:Int):Int))),(.a (.val .str (([]:List UInt8):List UInt8))),(.a (.val (.int .i64) ((0:Int):Int))),(.a (.val (.int .i64) ((0:Int):Int))),(.a (.val (.int .i64) ((0:Int):Int))),(.a (.val .str (([]:List UInt8):List UInt8))),(.a (.val (.int .i64) ((0:Int):Int))),(.a (.val (.int .i64) ((0:Int):Int))),(.a (.val (.int .i64) ((0:Int):Int))),(.a (.val .str (([]:List UInt8):List UInt8))),(.a (.val (.int .i64) ((0:Int):Int))),(.a (.val (.int .i64) ((0:Int):Int))),(.a (.val (.int .i64) ((0:Int):Int))),(.a (.val .str (([]:List UInt8):List UInt8))),(.a (.val (.int .i64) ((0:Int):Int))),(.a (.val (.int .i64) ((0:Int):Int))),(.a (.val (.int .i64) ((0:Int):Int))),(.a (.val .str (([]:List UInt8):List UInt8))),(.a (.val (.int .i64) ((0:Int):Int))),(.a (.val (.int .i64) ((0:Int):Int))),(.a (.val (.int .i64) ((0:Int):Int))),(.a (.val .str (([]:List UInt8):List UInt8))),(.a (.val (.int .i64) ((0:Int):Int))),(.a (.val (.int .i64) ((0:Int):Int))),(.a (.val (.int .i64) ((0:Int):Int))),(.a (.val .str (([]:List UInt8):List UInt8))),(.a (.val (.int .i64) ((0:Int):Int))),(.a (.val (.int .i64) ((0:Int):Int))),(.a (.val (.int .i64) ((0:Int):Int))),(.a (.val .str (([]:List UInt8):List UInt8))),(.a (.val (.int .i64) ((0:Int):Int))),(.a (.val (.int .i64) ((0:Int):Int))),(.a (.val (.int .i64) ((0:Int):Int))),(.a (.val .str (([]:List UInt8):List UInt8))),(.a (.val (.int .i64) ((0:Int):Int))),(.a (.val (.int .i64) ((0:Int):Int))),(.a (.val (.int .i64) ((0:Int):Int))),(.a (.val .str (([]:List UInt8):List UInt8))),(.a (.val (.int .i64) ((0:Int):Int))),(.a (.val (.int .i64) ((0:Int):Int))),(.a (.val (.int .i64) ((0:Int):Int))),(.a (.val .str (([]:List UInt8):List UInt8))),(.a (.val (.int .i64) ((0:Int):Int))),(.a (.val (.int .i64) ((0:Int):Int))),(.a (.val (.int .i64) ((0:Int):Int))),(.a (.val .str (([]:List UInt8):List UInt8))),(.a (.val (.int .i64) ((0:Int):Int))),(.a (.val (.int .i64) ((0:Int):Int))),(.a (.val (.int .i64) ((0:Int):Int))),(.a (.val .str (([]:List UInt8):List UInt8))),(.a (.val (.int .i64) ((0:Int):Int))),(.a (.val (.int .i64) ((0:Int):Int))),(.a (.val (.int .i64) ((0:Int):Int))),(.a (.val .str (([]:List UInt8):List UInt8))),(.a (.val (.int .i64) ((0:Int):Int))),(.a (.val (.int .i64) ((0:Int):Int))),(.a (.val (.int .i64) ((0:Int):Int))),(.a (.val .str (([]:List UInt8):List UInt8))),(.a (.val (.int .i64) ((0:Int):Int))),(.a (.val (.int .i64) ((0:Int):Int))),(.a (.val (.int .i64) ((0:Int):Int))),(.a (.val .str (([]:List UInt8):List UInt8))),(.a (.val (.int .i64) ((0:Int):Int))),(.a (.val (.int .i64) ((0:Int):Int))),(.a (.val (.int .i64) ((0:Int):Int))),(.a (.val .str (([]:List UInt8):List UInt8))),(.a (.val (.int .i64) ((0:Int):Int))),(.a (.val (.int .i64) ((0:Int):Int))),(.a (.val (.int .i64) ((0:Int):Int))),(.a (.val .str (([]:List UInt8):List UInt8))),(.a (.val (.int .i64) ((0:Int):Int))),(.a (.val (.int .i64) ((0:Int):Int))),(.a (.val (.int .i64) ((0:Int):Int))),(.a (.val .str (([]:List UInt8):List UInt8))),(.a (.val (.int .i64) ((0:Int):Int))),(.a (.val (.int .i64) ((0:Int):Int))),(.a (.val (.int .i64) ((0:Int):Int))),(.a (.val .str (([]:List UInt8):List UInt8))),(.a (.val (.int .i64) ((0:Int):Int))),(.a (.val (.int .i64) ((0:Int):Int))),(.a (.val (.int .i64) ((0:Int):Int))),(.a (.val .str (([]:List UInt8):List UInt8))),(.a (.val (.int .i64) ((0:Int):Int))),(.a (.val (.int .i64) ((0:Int):Int))),(.a (.val (.int .i64) ((0:Int):Int)))]) false)),(170,(.mk .other 1 0 (.some [(.a .undef)]) false)),(52,(.mk .func 1 8 (.some [(.a .nilfn)]) false)),(207,(.mk (.map 3 4) 1 8 (.some [(.a .nilmap)]) false)),(125,(.mk (.ptr 5) 1 8 (.some [(.a .nilptr)]) false)),(161,(.mk .other 1 8 (.some [(.a .nilptr)]) false)),(49,(.mk .other 1 0 (.some [(.a .undef)]) false)),(107,(.mk .other 1 0 (.some [(.a .undef)]) false)),(61,(.mk .other 1 0 (.some [(.a .undef)]) false)),(39,(.mk .other 1 0 (.some [(.a .undef)]) false))]
abbrev nK (R:Type):ASt→(Ex→ASt→Option R)→Option R:=fun _ _=>none
abbrev wq0:Ali:=(.val (.int .i64))
abbrev wq1:Nat×Acc:=(0,.one (.ptr 0))
abbrev wq2:Nat×Acc:=(1,.one (.ptr 0))
abbrev wq3:Nat×Acc:=(3,.one (.fn 53))
abbrev wq4:Nat×Acc:=(1,.one (.ptr 32))
abbrev wq5:Nat×Acc:=(3,.one (.ptr 32))
abbrev wq6:Nat×Acc:=(4,.one (.ptr 32))
abbrev wq7:Nat×Acc:=(0,.one (.val z4))
abbrev wq8:Nat×Acc:=(6,.one (.ptr 33))
abbrev wq9:Nat×Acc:=(5,.one (.ptr 32))
abbrev Bwv:Nat×Acc:=(0,.one (.val z6))
abbrev Bkh:Nat×Acc:=(3,.one (.ptr 33))
abbrev A2w:Nat×Acc:=(2,.one (.ptr 32))
abbrev Cdo:Nat×Acc:=(2,.one (.ptr 33))
abbrev Cdp:Nat×Acc:=(4,.one (.ptr 34))
abbrev Cm2:Nat×Acc:=(5,.one (.slf 33))
abbrev Ctx:List Ali:=[(.ptr 0),(.slf 1)]
abbrev Cm3:Nat×Acc:=(80,.one (.val z4))
abbrev Crw:Nat×Acc:=(10,.one (.val z6))
abbrev B3z:Nat×Acc:=(0,.one (.val .str))
abbrev Cdq:List (Nat×Acc):=[wq4]
abbrev Bww:List (Nat×Acc):=[wq5]
abbrev Cm4:List (Nat×Acc):=[wq9]
abbrev Crx:Nat×Acc:=(0,.one (.val .bool))
abbrev Cm5:Nat×Aer:=(1,.row 5 (.int .u8))
abbrev Cty:List Ali:=[(.ptr 32),(.slf 33)]
abbrev Cii:Nat×Acc:=(7,.one (.val .bool))
abbrev Cm6:Nat×Acc:=(6,.one (.val .bool))
abbrev Cry:Nat×Acc:=(2,.one (.val .bool))
abbrev Cdr:Nat×Acc:=(4,.one (.val .bool))
abbrev Cm7:Nat×Acc:=(5,.one (.val .bool))
abbrev Cm8:Nat×Acc:=(3,.one (.val .bool))
abbrev Crz:Nat×Acc:=(8,.one (.val .bool))
abbrev Ctz:List Ali:=[(.slf 35),(.slf 36)]
abbrev Ct0:List Ali:=[(.slf 37),(.slf 38)]
abbrev Ct1:List Ali:=[(.slf 33),(.slf 34)]
abbrev Cij:Nat×Acc:=(1,.one (.fnp 49 [0]))
abbrev Cik:Nat×Acc:=(2,.one (.fnp 51 [0]))
abbrev Cil:Nat×Aer:=(33,.row 5 (.int .u8))
abbrev Cm9:List (Nat×Acc):=[B3z]
abbrev Ah6:List (Nat×Acc):=[Crx]
abbrev Cim:List (Nat×Acc):=[Cm6]
abbrev A09:List (Nat×Acc):=[Cry]
abbrev B30:Nat×Aer:=(33,.row 3 (.int .i64))
abbrev Cds:Nat×Aer:=(34,.row 3 (.int .i64))
abbrev Cr0:Nat×Aer:=(32,.row 3 (.int .i64))
abbrev A79:List (Nat×Acc):=[Cdr]
abbrev Brf:List (Nat×Acc):=[Crz]
abbrev Cr1:Nat×Aer:=(35,.row 3 (.int .i64))
abbrev Cr2:Nat×Aer:=(36,.row 3 (.int .i64))
abbrev Cr3:Nat×Aer:=(37,.row 3 (.int .i64))
abbrev Ct2:Nat×Aer:=(38,.row 3 (.int .i64))
abbrev Ct3:Nat×Aer:=(2,.cells 72 [(.ptr 0)])
abbrev Ct4:Nat×Aer:=(0,.cells 72 [(.ptr 1)])
abbrev Bwx:Ali:=(.val (.list (.int .i64)))
abbrev A1a:Nat×Acc:=(3,.one wq0)
abbrev A1b:Nat×Acc:=(4,.one wq0)
abbrev Ama:Nat×Acc:=(1,.one wq0)
abbrev B31:Nat×Acc:=(0,.one wq0)
abbrev A5e:Nat×Acc:=(2,.one wq0)
abbrev Bbl:Nat×Acc:=(5,.one wq0)
abbrev A2x:Nat×Acc:=(6,.one wq0)
abbrev B32:Nat×Acc:=(9,.one wq0)
abbrev Bn1:Nat×Acc:=(7,.one wq0)
abbrev Cdt:Nat×Acc:=(8,.one wq0)
abbrev Cdu:Nat×Acc:=(10,.one wq0)
abbrev B33:Nat×Acc:=(11,.one wq0)
abbrev Cna:Nat×Acc:=(12,.one wq0)
abbrev Cin:Nat×Acc:=(13,.one wq0)
abbrev Cnb:Nat×Acc:=(81,.one wq0)
abbrev Cnc:Nat×Acc:=(82,.one wq0)
abbrev Cio:Nat×Acc:=(40,.one wq0)
abbrev Cnd:Nat×Acc:=(24,.one wq0)
abbrev Cne:List (Nat×Acc):=[A1a]
abbrev A1c:List (Nat×Acc):=[B31]
abbrev Cip:List (Nat×Acc):=[A1b]
abbrev Bbm:List (Nat×Acc):=[A5e]
abbrev Ciq:List (Nat×Acc):=[Ama]
abbrev Ct5:Nat×Aer:=(3,.cells 74 [(.fnp 92 [2])])
abbrev Ct6:Nat×Aer:=(3,.cells 74 [(.fnp 92 [0])])
abbrev Ct7:Nat×Aer:=(0,.cells 80 Ctx)
abbrev Cnf:Nat×Acc:=(0,.one Bwx)
abbrev Ct8:Nat×Aer:=(32,.cells 80 Cty)
abbrev Ct9:Nat×Aer:=(33,.cells 130 Ctz)
abbrev Cua:Nat×Aer:=(34,.cells 130 Ct0)
abbrev Cub:Nat×Aer:=(32,.cells 130 Ct1)
abbrev Cir:List (Nat×Acc):=[A2w,Bkh]
abbrev Cng:List (Nat×Acc):=[A2w,Cm8]
abbrev Cnh:List (Nat×Acc):=[wq7,A1a]
abbrev B34:List (Nat×Acc):=[wq7,Ama]
abbrev Cni:List (Nat×Acc):=[wq4,A1a]
abbrev Cdv:List (Nat×Aer):=[Cr0,B30]
abbrev Cis:List (Nat×Acc):=[B3z,Ama]
abbrev Cnj:List Ali:=[(.val .str),(.val z3),(.val z1),(.val z4),(.val z6)]
abbrev Cdw:List Ali:=[wq0,wq0,wq0]
abbrev B35:List (Nat×Aer):=[Ct7,Cm5]
abbrev Bwy:List (Nat×Aer):=[Ct8,Cil]
abbrev Cuc:List Ali:=[(.val .str),(.val z3),(.val z1),(.val z4),(.val z6),(.mp 1)]
abbrev Cud:List Ali:=[(.val .str),(.val z3),(.val z1),(.val z4),(.val z6),(.mp 2)]
abbrev B36:Nat×Acc:=(0,.agg Cnj)
abbrev Bn2:List (Nat×Acc):=[B36]
abbrev Bts:Nat×Acc:=(0,.agg Cdw)
abbrev Cbn:Nat×Aer:=(0,.cells 27 Cnj)
abbrev Cbo:List (Nat×Acc):=[Bts]
abbrev A9t:Nat×Aer:=(32,.cells 27 Cnj)
abbrev Cit:List Ali:=[(.val .str),wq0,wq0,wq0]
abbrev Bik:List (Nat×Aer):=[Cbn]
abbrev A19:List (Nat×Aer):=[A9t]
abbrev Ciu:Nat×Aer:=(32,.cells 91 Cdw)
abbrev Cte:Nat×Aer:=(33,.cells 91 Cdw)
abbrev A2a:List (Nat×Aer):=[Ciu]
abbrev Ctf:Nat×Aer:=(0,.cells 77 Cuc)
abbrev Ctg:Nat×Aer:=(1,.cells 77 Cud)
abbrev Civ:Nat×Acc:=(2,.agg Cit)
abbrev Cth:List Ali:=[(.val .str),(.val z3),(.slf 34),(.val z1),wq0,wq0]
abbrev Cbp:List Ali:=[(.val .str),(.val z3),(.val z4),(.val z1),wq0,wq0]
abbrev Ciw:List (Nat×Acc):=[B31,Ama,A5e]
abbrev Cti:Nat×Aer:=(33,.cells 166 Cit)
abbrev Cix:List (Nat×Aer):=[Cub,B30,Cds]
abbrev Ciy:Nat×Acc:=(0,.agg Cbp)
abbrev A5f:List (Nat×Acc):=[Ciy]
abbrev Cbq:List Ali:=[wq0,wq0,wq0,wq0,wq0]
abbrev Ciz:Nat×Aer:=(33,.cells 89 Cth)
abbrev A5g:Nat×Aer:=(32,.cells 89 Cbp)
abbrev Asz:List (Nat×Aer):=[A5g]
abbrev Cn3:Nat×Acc:=(0,.agg Cbq)
abbrev Ci0:List (Nat×Acc):=[Cn3]
abbrev Ctj:Nat×Aer:=(33,.cells 47 Cbq)
abbrev Ci1:List (Nat×Acc):=[wq4,Cdo,Cdp,A2x,Bn1]
abbrev Ci2:List (Nat×Acc):=[wq4,Cm2,A2x,(8,.one (.slf 34)),B32]
abbrev Ci3:List (Nat×Aer):=[A9t,Cil,Cds]
abbrev B01:List (Nat×Acc):=[Cn3,wq2]
abbrev Ci4:List (Nat×Acc):=[Ama,wq9,Crw,B33,Cna]
abbrev Ci5:List (Nat×Acc):=[wq4,A1a,A1b,Bbl,A2x]
abbrev Ci6:List (Nat×Aer):=[Ciu,Cti]
abbrev Btt:List (Nat×Aer):=[A5g,Cte]
abbrev Bil:List (Nat×Aer):=[A9t,Ctj]
abbrev Bn3:List (Nat×Aer):=[A5g,Ct9,Cua,Cr1,Cr2,Cr3,Ct2]
abbrev Cbr:List (Nat×Aer):=[Ctf,(1,.fmap 75 .i64 [(3:Int),(4:Int),(5:Int),(13:Int),(38:Int),(39:Int),(1:Int),(6:Int),(7:Int),(8:Int),(21:Int),(22:Int),(23:Int),(24:Int),(25:Int),(26:Int),(27:Int),(28:Int),(29:Int),(30:Int),(31:Int),(32:Int),(33:Int),(34:Int),(35:Int),(36:Int),(37:Int),(9:Int),(10:Int),(11:Int),(2:Int),(12:Int),(14:Int),(15:Int)] [(.fn 91),(.fn 91),(.fn 91),(.fn 91),(.fn 91),(.fn 91),(.fnp 92 [2]),(.fnp 92 [2]),(.fnp 92 [2]),(.fnp 92 [2]),(.fnp 92 [2]),(.fnp 92 [2]),(.fnp 92 [2]),(.fnp 92 [2]),(.fnp 92 [2]),(.fnp 92 [2]),(.fnp 92 [2]),(.fnp 92 [2]),(.fnp 92 [2]),(.fnp 92 [2]),(.fnp 92 [2]),(.fnp 92 [2]),(.fnp 92 [2]),(.fnp 92 [2]),(.fnp 92 [2]),(.fnp 92 [2]),(.fnp 92 [2]),(.fnp 94 [2]),(.fnp 94 [2]),(.fnp 94 [2]),(.fnp 96 [3]),(.fn 97),(.fnp 98 [2]),(.fnp 99 [2])]),Ct3,Ct5]
abbrev Bim:List (Nat×Aer):=[Ct4,Ctg,(2,.fmap 75 .i64 [(3:Int),(4:Int),(5:Int),(13:Int),(38:Int),(39:Int),(1:Int),(6:Int),(7:Int),(8:Int),(21:Int),(22:Int),(23:Int),(24:Int),(25:Int),(26:Int),(27:Int),(28:Int),(29:Int),(30:Int),(31:Int),(32:Int),(33:Int),(34:Int),(35:Int),(36:Int),(37:Int),(9:Int),(10:Int),(11:Int),(2:Int),(12:Int),(14:Int),(15:Int)] [(.fn 91),(.fn 91),(.fn 91),(.fn 91),(.fn 91),(.fn 91),(.fnp 92 [0]),(.fnp 92 [0]),(.fnp 92 [0]),(.fnp 92 [0]),(.fnp 92 [0]),(.fnp 92 [0]),(.fnp 92 [0]),(.fnp 92 [0]),(.fnp 92 [0]),(.fnp 92 [0]),(.fnp 92 [0]),(.fnp 92 [0]),(.fnp 92 [0]),(.fnp 92 [0]),(.fnp 92 [0]),(.fnp 92 [0]),(.fnp 92 [0]),(.fnp 92 [0]),(.fnp 92 [0]),(.fnp 92 [0]),(.fnp 92 [0]),(.fnp 94 [0]),(.fnp 94 [0]),(.fnp 94 [0]),(.fnp 96 [3]),(.fn 97),(.fnp 98 [0]),(.fnp 99 [0])]),Ct6]
def Bdq:Code:=Tryz.f3.body.getD .skip
def Aoq:Code:=Tryz.f6.body.getD .skip
def Aiq:Aac:=⟨[wq4,A1a,A1b],A19⟩
def Aq9:Aac:=⟨Cne,[]⟩
def Bfc:Ac4:=.cons (.exit 0) Aq9 (.nil)
abbrev A2y (R:Type):=Int->Int->(List UInt8)->d3->d1->d2->d4->(Int->Option R)->Option R
abbrev Bfd (R:Type):=Int->Int->(List UInt8)->d3->d1->d2->d4->Option R
abbrev Aun:={R:Type}→Nat→Nat→A2y R
def Auo {R:Type} (N:Nat) (rc:Bfd R):A2y R:=fun c a d b e f g h=>if ((decide (a<(len b)))=true) then (if (0≤a∧a<len b) then (if (0≤a∧a<len b) then (rc (wi (c+(wi ((((List.length (b.getD a.toNat (([]:List UInt8),(false,([]:List Int)))).2.2):Nat):Int)+(((List.length (b.getD a.toNat (([]:List UInt8),(false,([]:List Int)))).1):Nat):Int))))) (wi (a+1)) d b e f g) else none) else none) else h c
def Aeb {R:Type} (N:Nat):Nat→A2y R
 | 0=>fun _ _ _ _ _ _ _ _=>none
 | k+1=>fun a b c d e f g h=>Auo N (fun a b c d e f g=>Aeb N k a b c d e f g h) a b c d e f g h
def A2z (Aeb:Aun) (N k:Nat):Aas Aiq:=fun R x K=>Aeb N k x.1.2.1 x.1.2.2.1 x.2.1.1 x.2.1.2.1 x.2.1.2.2.1 x.2.1.2.2.2.1 x.2.1.2.2.2.2.1 (fun y0=>K (.exit 0) (Aab Aq9 ((y0,()),(()))))
def A20 (N k:Nat):Aas Aiq:=A2z @Aeb N k
def Bbn:Aac:=⟨Bn2,[]⟩
def Axe:Aac:=⟨Ah6,[]⟩
abbrev B8p (R:Type):=(List UInt8)->d3->d1->d2->d4->(Bool->Option R)->Option R
abbrev Awa:={R:Type}→Nat→B8p R
def Bbo (Aeb:Aun):Awa:=fun {R} N b c d e f a=>if ((decide ((len f) > 33000))=true) then (a true) else if ((decide ((len e) > 300))=true) then (a true) else if ((decide ((len c) > 2100))=true) then (a true) else if ((decide ((len d) > 300))=true) then (a true) else if ((decide ((len b) > 1000))=true) then (a true) else Aeb N N 0 0 b c d e f fun g=>a (decide (g > 20000))
def Ajl:Awa:=@Bbo @Aeb
def Cp6 (N:Nat):Abn Bbn [Axe]:=fun R x C=>Ajl N x.1.1.1 x.1.1.2.1 x.1.1.2.2.1 x.1.1.2.2.2.1 x.1.1.2.2.2.2.1 (fun y0=>C.1 ((y0,()),(())))
def Boi (Ajl:Awa) (N:Nat):Go.AX.Aaj:=Acr [true] [] false 1 0 Bbn [Axe] (fun R x C=>Ajl N x.1.1.1 x.1.1.2.1 x.1.1.2.2.1 x.1.1.2.2.2.1 x.1.1.2.2.2.2.1 (fun y0=>C.1 ((y0,()),(()))))
def Boj (N:Nat):Go.AX.Aaj:=Boi @Ajl N
def Cp7 (N:Nat):List (Nat×Acp):=[(11,Aaa Aiq (A20 N N))]
def B8q (N:Nat):List (Nat×Go.AX.Aaj):=[]
def Bbp (N:Nat):Go.AX.Aaj:=Bnn
def Bvy:Code:=Tryz.f8.body.getD .skip
def Apw:Code:=Tryz.f22.body.getD .skip
def Aja:Code:=Tryz.f27.body.getD .skip
def Aij:Aac:=⟨[Cij,Cik,wq5,(8,.one (.ptr 33)),(34,.one wq0),(35,.one wq0)],[Cbn,A9t,Ciz,(34,.row 91 z2)]⟩
def As0:Aac:=⟨[Cij,Cik,wq5,(8,.one (.ptr 33))],[Cbn,A9t,Ciz,(34,.row 91 z2)]⟩
def Bin:Ac4:=.cons (.exit 0) As0 (.nil)
abbrev A5h (R:Type):=Int->Int->(List UInt8)->d3->d1->d2->d4->(List UInt8)->d3->d1->d2->d4->(List UInt8)->d3->d1->Int->Int->d2->((List UInt8)->d3->d1->d2->d4->(List UInt8)->d3->d1->d2->d4->(List UInt8)->d3->d1->Int->Int->d2->Option R)->Option R
abbrev Bio (R:Type):=Int->Int->(List UInt8)->d3->d1->d2->d4->(List UInt8)->d3->d1->d2->d4->(List UInt8)->d3->d1->Int->Int->d2->Option R
abbrev Ara:={R:Type}→Nat→Nat→A5h R
def Axf {R:Type} (N:Nat) (rc:Bio R):A5h R:=fun c d e f g h i j l m n o p q r s t a u=>if ((decide (d<c))=true) then (let b:=(wi (d+1));if ((((List.length a)+(List.length ((24,(b,0))::[(26,(0,0))])))*(24:Nat))≤(70368744177664:Nat)) then (rc c b e f g h i j l m n o p q r s t (a++((24,(b,0))::[(26,(0,0))]))) else none) else u e f g h i j l m n o p q r s t a
def Adu {R:Type} (N:Nat):Nat→A5h R
 | 0=>fun _ _ _ _ _ _ _ _ _ _ _ _ _ _ _ _ _ _ _=>none
 | k+1=>fun a b c d e f g h i j l m n o p q r s t=>Axf N (fun a b c d e f g h i j l m n o p q r s=>Adu N k a b c d e f g h i j l m n o p q r s t) a b c d e f g h i j l m n o p q r s t
def Axg (Adu:Ara) (N k:Nat):Aas Aij:=fun R x K=>Adu N k x.1.2.2.2.2.1 x.1.2.2.2.2.2.1 x.2.1.1 x.2.1.2.1 x.2.1.2.2.1 x.2.1.2.2.2.1 x.2.1.2.2.2.2.1 x.2.2.1.1 x.2.2.1.2.1 x.2.2.1.2.2.1 x.2.2.1.2.2.2.1 x.2.2.1.2.2.2.2.1 x.2.2.2.1.1 x.2.2.2.1.2.1 x.2.2.2.1.2.2.2.1 x.2.2.2.1.2.2.2.2.1 x.2.2.2.1.2.2.2.2.2.1 x.2.2.2.2.1 (fun y0 y1 y2 y3 y4 y5 y6 y7 y8 y9 y10 y11 y12 y13 y14 y15=>K (.exit 0) (Aab As0 (((),(),(),(),()),((y0,y1,y2,y3,y4,()),(y5,y6,y7,y8,y9,()),(y10,y11,(),y12,y13,y14,()),y15,()))))
def A5i (N k:Nat):Aas Aij:=Axg @Adu N k
def Bok:Code:=Tryz.f62.body.getD .skip
def Aor:Code:=Tryz.f103.body.getD .skip
def Air:Aac:=⟨[A1a,(27,.one (.val z3)),(28,.one wq0),(29,.one wq0)],[]⟩
def Arb:Aac:=⟨Cne,[]⟩
def Bfe:Ac4:=.cons (.exit 0) Arb (.nil)
abbrev A21 (R:Type):=Int->d3->Int->Int->(Int->Option R)->Option R
abbrev Bff (R:Type):=Int->d3->Int->Int->Option R
abbrev Aup:={R:Type}→Nat→Nat→A21 R
def Auq {R:Type} (N:Nat) (rc:Bff R):A21 R:=fun d b c a f=>if ((decide (a<c))=true) then (if (0≤a∧a<len b) then (let e:=(wi (d+(((List.length (b.getD a.toNat (([]:List UInt8),(false,([]:List Int)))).2.2):Nat):Int)));if ((b.getD a.toNat (([]:List UInt8),(false,([]:List Int)))).2.1=true) then (rc (wi (e+(wi (Int.tdiv (wi ((((List.length (b.getD a.toNat (([]:List UInt8),(false,([]:List Int)))).1):Nat):Int)+2)) 2)))) b c (wi (a+1))) else rc e b c (wi (a+1))) else none) else f d
def Aec {R:Type} (N:Nat):Nat→A21 R
 | 0=>fun _ _ _ _ _=>none
 | k+1=>fun a b c d e=>Auq N (fun a b c d=>Aec N k a b c d e) a b c d e
def A22 (Aec:Aup) (N k:Nat):Aas Air:=fun R x K=>Aec N k x.1.1 x.1.2.1 x.1.2.2.1 x.1.2.2.2.1 (fun y0=>K (.exit 0) (Aab Arb ((y0,()),(()))))
def A23 (N k:Nat):Aas Air:=A22 @Aec N k
def Bbq:Aac:=⟨A5f,[]⟩
def Axh:Aac:=⟨Ah6,[]⟩
abbrev B8r (R:Type):=(List UInt8)->d3->d2->d1->Int->Int->(Bool->Option R)->Option R
abbrev Awb:={R:Type}→Nat→B8r R
def Bbr (Aec:Aup):Awb:=fun {R} N g b c h d e a=>if ((decide ((len c) > 40000))=true) then (a true) else if ((decide ((len b) > 2000))=true) then (a true) else if ((decide (d > 200))=true) then (a true) else if ((decide (e > 20000))=true) then (a true) else Aec N N 0 b (len b) 0 fun f=>a (decide (f > 7800))
def Ajm:Awb:=@Bbr @Aec
def Cp8 (N:Nat):Abn Bbq [Axh]:=fun R x C=>Ajm N x.1.1.1 x.1.1.2.1 x.1.1.2.2.1 x.1.1.2.2.2.1 x.1.1.2.2.2.2.1 x.1.1.2.2.2.2.2.1 (fun y0=>C.1 ((y0,()),(())))
def Bol (Ajm:Awb) (N:Nat):Go.AX.Aaj:=Acr [true] [] false 1 0 Bbq [Axh] (fun R x C=>Ajm N x.1.1.1 x.1.1.2.1 x.1.1.2.2.1 x.1.1.2.2.2.1 x.1.1.2.2.2.2.1 x.1.1.2.2.2.2.2.1 (fun y0=>C.1 ((y0,()),(()))))
def Bom (N:Nat):Go.AX.Aaj:=Bol @Ajm N
def Cp9 (N:Nat):List (Nat×Acp):=[(11,Aaa Air (A23 N N))]
def B8s (N:Nat):List (Nat×Go.AX.Aaj):=[]
def Af9:Code:=Tryz.f104.body.getD .skip
def Ast:Code:=Tryz.f160.body.getD .skip
def Ak9:Code:=Tryz.f56.body.getD .skip
def Ain (N:Nat):Go.AX.Aaj:=Bbk 80 5
def Ahb:Aac:=⟨[wq1,(1,.one (.val (.int .u8)))],[(0,.cells 80 [(.same .nilptr),(.slf 1)]),Cm5]⟩
def Aj1:Aac:=⟨[(0,.one (.same .nilif))],B35⟩
abbrev A99 (R:Type):=Int->d0->(d0->Option R)->Option R
abbrev Aio:={R:Type}→Nat→A99 R
def Abo:Aio:=fun {R} N a b c=>if ((((List.length b)+(List.length (a::([]:List Int))))*(1:Nat))≤(70368744177664:Nat)) then (c (b++(a::([]:List Int)))) else none
def Baa (N:Nat):Abn Ahb [Aj1]:=fun R x C=>Abo N x.1.2.1 x.2.2.1 (fun y0=>C.1 (((),()),(((),(),()),y0,())))
def An4 (Abo:Aio) (N:Nat):Go.AX.Aaj:=Acr [false,true] (List.replicate 32 true) true 2 2 Ahb [Aj1] (fun R x C=>Abo N x.1.2.1 x.2.2.1 (fun y0=>C.1 (((),()),(((),(),()),y0,()))))
def Aug (N:Nat):Go.AX.Aaj:=An4 @Abo N
def Bab (N:Nat):List (Nat×Acp):=[]
def Auh (N:Nat):List (Nat×Go.AX.Aaj):=[(100,Ain N)]
def Aqi (N:Nat):Go.AX.Aaj:=Bbj
def Amg:Aac:=⟨[wq1,(1,.one (.val (.int .u8)))],B35⟩
def Ais:Aac:=⟨[(0,.one (.same .nilif))],B35⟩
abbrev A5j (R:Type):=Int->d0->(d0->Option R)->Option R
abbrev Ab9:={R:Type}→Nat→A5j R
def Aad:Ab9:=fun {R} N a b c=>if ((((List.length b)+(List.length (a::([]:List Int))))*(1:Nat))≤(70368744177664:Nat)) then (c (b++(a::([]:List Int)))) else none
def A5k (N:Nat):Abn Amg [Ais]:=fun R x C=>Aad N x.1.2.1 x.2.2.1 (fun y0=>C.1 (((),()),(((),(),()),y0,())))
def Aey (Aad:Ab9) (N:Nat):Go.AX.Aaj:=Acr [false,true] (List.replicate 32 true) true 2 2 Amg [Ais] (fun R x C=>Aad N x.1.2.1 x.2.2.1 (fun y0=>C.1 (((),()),(((),(),()),y0,()))))
def Amh (N:Nat):Go.AX.Aaj:=Aey @Aad N
def A5l (N:Nat):List (Nat×Acp):=[]
def Arc (N:Nat):List (Nat×Go.AX.Aaj):=[(100,Ain N)]
def Alg:Aac:=⟨[B3z,wq6,Cdu,B33],Bwy⟩
def Axi:Aac:=⟨[(2,.one (.val .str)),A1a],[]⟩
def Axj:Aac:=⟨[B3z,wq6],Bwy⟩
def Bon:Ac4:=.cons .ret Axi (.cons (.exit 0) Axj (.nil))
abbrev Bbs (R:Type):=(List UInt8)->Int->Int->d0->((List UInt8)->Int->Option R)->((List UInt8)->d0->Option R)->Option R
abbrev Boo (R:Type):=(List UInt8)->Int->Int->d0->Option R
abbrev A2b:={R:Type}→Nat→Nat→Bbs R
def A2c (Aad:Ab9) {R:Type} (N:Nat) (rc:Boo R):Bbs R:=fun b e a f g h=>if ((decide (a<e))=true) then (if (0≤a∧a<len b) then (let c:=(((UInt8.toNat (b.getD a.toNat (0:UInt8))):Nat):Int);let d:=(Bk5 [(10:UInt8),(9:UInt8),(42:UInt8),(34:UInt8)] c);if ((decide (d≥0))=true) then (Aad N 42 f fun i=>if ((0≤d)∧(d<4)) then (Aad N (((UInt8.toNat (List.getD [(110:UInt8),(116:UInt8),(42:UInt8),(34:UInt8)] (Int.toNat d) (0:UInt8))):Nat):Int) i fun j=>rc b e (wi (a+1)) j) else none) else if ((decide (c<32))=true) then (g ([]:List UInt8) 3) else if ((decide (c > 126))=true) then (g ([]:List UInt8) 3) else Aad N c f fun l=>rc b e (wi (a+1)) l) else none) else h b f
def Af7 {R:Type} (N:Nat):Nat→Bbs R
 | 0=>fun _ _ _ _ _ _=>none
 | k+1=>fun a b c d e f=>A2c @Aad N (fun a b c d=>Af7 N k a b c d e f) a b c d e f
def Bbt (Af7:A2b) (N k:Nat):Aas Alg:=fun R x K=>Af7 N k x.1.1 x.1.2.2.1 x.1.2.2.2.1 x.2.2.1 (fun y0 y1=>K .ret (Aab Axi ((y0,y1,()),(())))) (fun y0 y1=>K (.exit 0) (Aab Axj ((y0,(),()),(((),(),()),y1,()))))
def Bbu (N k:Nat):Aas Alg:=Bbt @Af7 N k
def Aez (N:Nat):Go.AX.Aaj:=Bd7 80 5
def Bki:Aac:=⟨Cm9,[]⟩
def A2d:Aac:=⟨Cis,[]⟩
abbrev Cfi (R:Type):=(List UInt8)->((List UInt8)->Int->Option R)->Option R
abbrev Akn:={R:Type}→Nat→Cfi R
def Bkj (Abo:Aio) (Af7:A2b) (Aad:Ab9):Akn:=fun {R} N c b=>Abo N 34 ([]:List Int) fun d=>Af7 N N c (len c) 0 d (fun e f=>b e f) fun g h=>if ((decide ((len g) > 100))=true) then (b ([]:List UInt8) 2) else Aad N 34 h fun a=>if (((0:Nat)<(List.length a))∧(((List.length a)≤(70368744177664:Nat))∧((Ame a)=true))) then (b (Aw9 a) 0) else none
def Ac6:Akn:=@Bkj @Abo @Af7 @Aad
def Csx (N:Nat):Abn Bki [A2d]:=fun R x C=>Ac6 N x.1.1 (fun y0 y1=>C.1 ((y0,y1,()),(())))
def Apk (Ac6:Akn) (N:Nat):Go.AX.Aaj:=Acr [true] [] false 1 0 Bki [A2d] (fun R x C=>Ac6 N x.1.1 (fun y0 y1=>C.1 ((y0,y1,()),(()))))
def Bkk (N:Nat):Go.AX.Aaj:=Apk @Ac6 N
def Csy (N:Nat):List (Nat×Acp):=[(9,Aaa Alg (Bbu N N))]
def Cfj (N:Nat):List (Nat×Go.AX.Aaj):=[(56,Atw 2 Ahb (Aug N) (Amh N)),(222,Aqi N),(57,Aez N)]
def Bop:Code:=Tryz.f161.body.getD .skip
def Bbv:Aac:=⟨[],[]⟩
def Axk:Aac:=⟨[(0,.agg [(.val .str),wq0,wq0,wq0,(.val .str),wq0,wq0,wq0,(.val .str),wq0,wq0,wq0,(.val .str),wq0,wq0,wq0,(.val .str),wq0,wq0,wq0,(.val .str),wq0,wq0,wq0,(.val .str),wq0,wq0,wq0,(.val .str),wq0,wq0,wq0,(.val .str),wq0,wq0,wq0,(.val .str),wq0,wq0,wq0,(.val .str),wq0,wq0,wq0,(.val .str),wq0,wq0,wq0,(.val .str),wq0,wq0,wq0,(.val .str),wq0,wq0,wq0,(.val .str),wq0,wq0,wq0,(.val .str),wq0,wq0,wq0,(.val .str),wq0,wq0,wq0,(.val .str),wq0,wq0,wq0,(.val .str),wq0,wq0,wq0,(.val .str),wq0,wq0,wq0,(.val .str),wq0,wq0,wq0,(.val .str),wq0,wq0,wq0,(.val .str),wq0,wq0,wq0,(.val .str),wq0,wq0,wq0,(.val .str),wq0,wq0,wq0,(.val .str),wq0,wq0,wq0,(.val .str),wq0,wq0,wq0,(.val .str),wq0,wq0,wq0,(.val .str),wq0,wq0,wq0,(.val .str),wq0,wq0,wq0,(.val .str),wq0,wq0,wq0])],[]⟩
abbrev B8t (R:Type):=((List UInt8)->Int->Int->Int->(List UInt8)->Int->Int->Int->(List UInt8)->Int->Int->Int->(List UInt8)->Int->Int->Int->(List UInt8)->Int->Int->Int->(List UInt8)->Int->Int->Int->(List UInt8)->Int->Int->Int->(List UInt8)->Int->Int->Int->(List UInt8)->Int->Int->Int->(List UInt8)->Int->Int->Int->(List UInt8)->Int->Int->Int->(List UInt8)->Int->Int->Int->(List UInt8)->Int->Int->Int->(List UInt8)->Int->Int->Int->(List UInt8)->Int->Int->Int->(List UInt8)->Int->Int->Int->(List UInt8)->Int->Int->Int->(List UInt8)->Int->Int->Int->(List UInt8)->Int->Int->Int->(List UInt8)->Int->Int->Int->(List UInt8)->Int->Int->Int->(List UInt8)->Int->Int->Int->(List UInt8)->Int->Int->Int->(List UInt8)->Int->Int->Int->(List UInt8)->Int->Int->Int->(List UInt8)->Int->Int->Int->(List UInt8)->Int->Int->Int->(List UInt8)->Int->Int->Int->(List UInt8)->Int->Int->Int->(List UInt8)->Int->Int->Int->(List UInt8)->Int->Int->Int->Option R)->Option R
abbrev Ako:={R:Type}→Nat→B8t R
def Aco:Ako:=fun {R} N a=>a ([]:List UInt8) 0 0 0 ([(110:UInt8),(117:UInt8),(109:UInt8)]) 1 0 1 ([(108:UInt8),(111:UInt8),(99:UInt8),(97:UInt8),(108:UInt8)]) 2 0 1 ([(112:UInt8),(117:UInt8),(116:UInt8),(108:UInt8)]) 2 1 0 ([(97:UInt8),(100:UInt8),(100:UInt8),(114:UInt8),(108:UInt8)]) 2 0 1 ([(103:UInt8),(108:UInt8),(111:UInt8),(98:UInt8),(97:UInt8),(108:UInt8)]) 3 0 1 ([(112:UInt8),(117:UInt8),(116:UInt8),(103:UInt8)]) 3 1 0 ([(97:UInt8),(100:UInt8),(100:UInt8),(114:UInt8),(103:UInt8)]) 3 0 1 ([(115:UInt8),(116:UInt8),(97:UInt8),(116:UInt8),(105:UInt8),(99:UInt8)]) 4 0 1 ([(112:UInt8),(117:UInt8),(116:UInt8),(115:UInt8)]) 4 1 0 ([(97:UInt8),(100:UInt8),(100:UInt8),(114:UInt8),(115:UInt8)]) 4 0 1 ([(112:UInt8),(114:UInt8),(111:UInt8),(99:UInt8)]) 5 0 1 ([(108:UInt8),(111:UInt8),(97:UInt8),(100:UInt8)]) 0 1 1 ([(115:UInt8),(116:UInt8),(111:UInt8),(114:UInt8),(101:UInt8)]) 0 2 0 ([(103:UInt8),(101:UInt8),(116:UInt8),(98:UInt8)]) 0 2 1 ([(112:UInt8),(117:UInt8),(116:UInt8),(98:UInt8)]) 0 3 0 ([(98:UInt8),(105:UInt8),(110:UInt8)]) 7 2 1 ([(117:UInt8),(110:UInt8)]) 8 1 1 ([(115:UInt8),(116:UInt8),(97:UInt8),(99:UInt8),(107:UInt8)]) 2 0 0 ([(108:UInt8),(97:UInt8),(98:UInt8),(101:UInt8),(108:UInt8)]) 6 0 0 ([(106:UInt8),(117:UInt8),(109:UInt8),(112:UInt8)]) 6 0 0 ([(116:UInt8),(114:UInt8),(117:UInt8),(101:UInt8)]) 6 1 0 ([(102:UInt8),(97:UInt8),(108:UInt8),(115:UInt8),(101:UInt8)]) 6 1 0 ([(99:UInt8),(97:UInt8),(108:UInt8),(108:UInt8)]) 2 0 0 ([(101:UInt8),(110:UInt8),(116:UInt8),(101:UInt8),(114:UInt8)]) 5 0 0 ([(114:UInt8),(101:UInt8),(116:UInt8),(117:UInt8),(114:UInt8),(110:UInt8)]) 0 1 0 ([(98:UInt8),(97:UInt8),(99:UInt8),(107:UInt8)]) 0 0 0 ([(114:UInt8),(101:UInt8),(115:UInt8),(117:UInt8),(108:UInt8),(116:UInt8)]) 6 1 0 ([(116:UInt8),(97:UInt8),(107:UInt8),(101:UInt8)]) 2 0 0 ([(115:UInt8),(119:UInt8),(105:UInt8),(116:UInt8),(99:UInt8),(104:UInt8)]) 6 1 0 ([(99:UInt8),(97:UInt8),(115:UInt8),(101:UInt8)]) 1 0 0
def B8u (N:Nat):Abn Bbv [Axk]:=fun R x C=>Aco N  (fun y0 y1 y2 y3 y4 y5 y6 y7 y8 y9 y10 y11 y12 y13 y14 y15 y16 y17 y18 y19 y20 y21 y22 y23 y24 y25 y26 y27 y28 y29 y30 y31 y32 y33 y34 y35 y36 y37 y38 y39 y40 y41 y42 y43 y44 y45 y46 y47 y48 y49 y50 y51 y52 y53 y54 y55 y56 y57 y58 y59 y60 y61 y62 y63 y64 y65 y66 y67 y68 y69 y70 y71 y72 y73 y74 y75 y76 y77 y78 y79 y80 y81 y82 y83 y84 y85 y86 y87 y88 y89 y90 y91 y92 y93 y94 y95 y96 y97 y98 y99 y100 y101 y102 y103 y104 y105 y106 y107 y108 y109 y110 y111 y112 y113 y114 y115 y116 y117 y118 y119 y120 y121 y122 y123=>C.1 (((y0,y1,y2,y3,y4,y5,y6,y7,y8,y9,y10,y11,y12,y13,y14,y15,y16,y17,y18,y19,y20,y21,y22,y23,y24,y25,y26,y27,y28,y29,y30,y31,y32,y33,y34,y35,y36,y37,y38,y39,y40,y41,y42,y43,y44,y45,y46,y47,y48,y49,y50,y51,y52,y53,y54,y55,y56,y57,y58,y59,y60,y61,y62,y63,y64,y65,y66,y67,y68,y69,y70,y71,y72,y73,y74,y75,y76,y77,y78,y79,y80,y81,y82,y83,y84,y85,y86,y87,y88,y89,y90,y91,y92,y93,y94,y95,y96,y97,y98,y99,y100,y101,y102,y103,y104,y105,y106,y107,y108,y109,y110,y111,y112,y113,y114,y115,y116,y117,y118,y119,y120,y121,y122,y123,()),()),(())))
def Aos (Aco:Ako) (N:Nat):Go.AX.Aaj:=Acr [] [] false 0 0 Bbv [Axk] (fun R x C=>Aco N  (fun y0 y1 y2 y3 y4 y5 y6 y7 y8 y9 y10 y11 y12 y13 y14 y15 y16 y17 y18 y19 y20 y21 y22 y23 y24 y25 y26 y27 y28 y29 y30 y31 y32 y33 y34 y35 y36 y37 y38 y39 y40 y41 y42 y43 y44 y45 y46 y47 y48 y49 y50 y51 y52 y53 y54 y55 y56 y57 y58 y59 y60 y61 y62 y63 y64 y65 y66 y67 y68 y69 y70 y71 y72 y73 y74 y75 y76 y77 y78 y79 y80 y81 y82 y83 y84 y85 y86 y87 y88 y89 y90 y91 y92 y93 y94 y95 y96 y97 y98 y99 y100 y101 y102 y103 y104 y105 y106 y107 y108 y109 y110 y111 y112 y113 y114 y115 y116 y117 y118 y119 y120 y121 y122 y123=>C.1 (((y0,y1,y2,y3,y4,y5,y6,y7,y8,y9,y10,y11,y12,y13,y14,y15,y16,y17,y18,y19,y20,y21,y22,y23,y24,y25,y26,y27,y28,y29,y30,y31,y32,y33,y34,y35,y36,y37,y38,y39,y40,y41,y42,y43,y44,y45,y46,y47,y48,y49,y50,y51,y52,y53,y54,y55,y56,y57,y58,y59,y60,y61,y62,y63,y64,y65,y66,y67,y68,y69,y70,y71,y72,y73,y74,y75,y76,y77,y78,y79,y80,y81,y82,y83,y84,y85,y86,y87,y88,y89,y90,y91,y92,y93,y94,y95,y96,y97,y98,y99,y100,y101,y102,y103,y104,y105,y106,y107,y108,y109,y110,y111,y112,y113,y114,y115,y116,y117,y118,y119,y120,y121,y122,y123,()),()),(()))))
def Bbw (N:Nat):Go.AX.Aaj:=Aos @Aco N
def B8v (N:Nat):List (Nat×Acp):=[]
def Boq (N:Nat):List (Nat×Go.AX.Aaj):=[]
def Ard:Code:=Tryz.f162.body.getD .skip
def B02:Code:=Tryz.f224.body.getD .skip
def Bn4:Aac:=⟨Ciw,[]⟩
def A5m:Aac:=⟨Ah6,[]⟩
abbrev Ci7 (R:Type):=Int->Int->Int->(Bool->Option R)->Option R
abbrev Ah7:={R:Type}→Nat→Ci7 R
def Aa6:Ah7:=fun {R} N a c d b=>if ((decide (a≥c))=true) then (b (decide (a≤d))) else b false
def Ci8 (N:Nat):Abn Bn4 [A5m]:=fun R x C=>Aa6 N x.1.1 x.1.2.1 x.1.2.2.1 (fun y0=>C.1 ((y0,()),(())))
def An0 (Aa6:Ah7) (N:Nat):Go.AX.Aaj:=Acr [true,true,true] [] false 3 0 Bn4 [A5m] (fun R x C=>Aa6 N x.1.1 x.1.2.1 x.1.2.2.1 (fun y0=>C.1 ((y0,()),(()))))
def A5n (N:Nat):Go.AX.Aaj:=An0 @Aa6 N
def Ci9 (N:Nat):List (Nat×Acp):=[]
def B03 (N:Nat):List (Nat×Go.AX.Aaj):=[]
def Aj6:Aac:=⟨[wq5,(4,.one (.ptr 33)),Cii],[Ciu,(33,.cells 89 Cbp)]⟩
def Aur:Aac:=⟨Cim,[]⟩
def Bac:Ac4:=.cons .ret Aur (.nil)
abbrev Brg (R:Type):=Bool->Int->Int->Int->(List UInt8)->d3->d2->d1->Int->Int->(Bool->Option R)->Option R
abbrev Alv:={R:Type}→Nat→Brg R
def Ayt (Aa6:Ah7):Alv:=fun {R} N b d i c j l m n o e a=>if ((d==24)=true) then (if (b=true) then (Aa6 N c 0 8 fun f=>a f) else a false) else if ((d==29)=true) then (if (b=true) then (Aa6 N c 0 1000 fun g=>a g) else a false) else if ((d==30)=true) then (if (b=true) then (Aa6 N c 1 e fun h=>a h) else a false) else if (b=true) then (a (c==0)) else a false
def Abt:Alv:=@Ayt @Aa6
def Ayu (Abt:Alv) (N:Nat):Aas Aj6:=fun R x K=>Abt N x.1.2.2.1 x.2.1.1 x.2.1.2.1 x.2.1.2.2.1 x.2.2.1.1 x.2.2.1.2.1 x.2.2.1.2.2.1 x.2.2.1.2.2.2.1 x.2.2.1.2.2.2.2.1 x.2.2.1.2.2.2.2.2.1 (fun y0=>K .ret (Aab Aur ((y0,()),(()))))
def Bad (N:Nat):Aas Aj6:=Ayu @Abt N
def Brh:Code:=Tryz.f223.body.getD .skip
def Bfg:Aac:=⟨A1c,[]⟩
def A0r:Aac:=⟨Ah6,[]⟩
abbrev Cdx (R:Type):=Int->(Bool->Option R)->Option R
abbrev An5:={R:Type}→Nat→Cdx R
def Bfh (Aa6:Ah7):An5:=fun {R} N a b=>Aa6 N a (-2147483648) 2147483647 fun c=>b c
def Ae0:An5:=@Bfh @Aa6
def Cr4 (N:Nat):Abn Bfg [A0r]:=fun R x C=>Ae0 N x.1.1 (fun y0=>C.1 ((y0,()),(())))
def A5o (Ae0:An5) (N:Nat):Go.AX.Aaj:=Acr [true] [] false 1 0 Bfg [A0r] (fun R x C=>Ae0 N x.1.1 (fun y0=>C.1 ((y0,()),(()))))
def Bfi (N:Nat):Go.AX.Aaj:=A5o @Ae0 N
def Cr5 (N:Nat):List (Nat×Acp):=[]
def Cdy (N:Nat):List (Nat×Go.AX.Aaj):=[(224,A5n N)]
def A5p:Aac:=⟨[Bts,(1,.agg Cbp),Civ],[]⟩
def As1:Aac:=⟨Ah6,[]⟩
abbrev B04 (R:Type):=Int->Int->Int->(List UInt8)->d3->d2->d1->Int->Int->(List UInt8)->Int->Int->Int->(Bool->Option R)->Option R
abbrev Ala:={R:Type}→Nat→B04 R
def A5q (Abt:Alv) (Ae0:An5) (Aa6:Ah7):Ala:=fun {R} N e a f g b h i c d E l F G j=>if ((l==0)=true) then (Abt N (a==0) e a f g b h i c d fun m=>j m) else if ((l==1)=true) then (Ae0 N a fun n=>Abt N n e a f g b h i c d fun o=>j o) else if ((l==2)=true) then (Aa6 N a 0 4000 fun p=>Abt N p e a f g b h i c d fun q=>j q) else if ((l==3)=true) then (Aa6 N a 0 199 fun r=>Abt N r e a f g b h i c d fun s=>j s) else if ((l==4)=true) then (Aa6 N a 0 (wi ((len b)-1)) fun t=>Abt N t e a f g b h i c d fun u=>j u) else if ((l==5)=true) then (Aa6 N a 1 c fun v=>Abt N v e a f g b h i c d fun w=>j w) else if ((l==6)=true) then (Aa6 N a 1 d fun x=>Abt N x e a f g b h i c d fun y=>j y) else if ((l==7)=true) then (Aa6 N a 1 17 fun z=>Abt N z e a f g b h i c d fun A=>j A) else if ((l==8)=true) then (if ((a==18)=true) then (Abt N true e a f g b h i c d fun B=>j B) else Abt N (a==19) e a f g b h i c d fun C=>j C) else Abt N false e a f g b h i c d fun D=>j D
def Adl:Ala:=@A5q @Abt @Ae0 @Aa6
def Cn4 (N:Nat):Abn A5p [As1]:=fun R x C=>Adl N x.1.1.1 x.1.1.2.1 x.1.1.2.2.1 x.1.2.1.1 x.1.2.1.2.1 x.1.2.1.2.2.1 x.1.2.1.2.2.2.1 x.1.2.1.2.2.2.2.1 x.1.2.1.2.2.2.2.2.1 x.1.2.2.1.1 x.1.2.2.1.2.1 x.1.2.2.1.2.2.1 x.1.2.2.1.2.2.2.1 (fun y0=>C.1 ((y0,()),(())))
def Are (Adl:Ala) (N:Nat):Go.AX.Aaj:=Acr [true,true,true] [] false 3 0 A5p [As1] (fun R x C=>Adl N x.1.1.1 x.1.1.2.1 x.1.1.2.2.1 x.1.2.1.1 x.1.2.1.2.1 x.1.2.1.2.2.1 x.1.2.1.2.2.2.1 x.1.2.1.2.2.2.2.1 x.1.2.1.2.2.2.2.2.1 x.1.2.2.1.1 x.1.2.2.1.2.1 x.1.2.2.1.2.2.1 x.1.2.2.1.2.2.2.1 (fun y0=>C.1 ((y0,()),(()))))
def Bip (N:Nat):Go.AX.Aaj:=Are @Adl N
def Cn5 (N:Nat):List (Nat×Acp):=[(42,Aaa Aj6 (Bad N))]
def B05 (N:Nat):List (Nat×Go.AX.Aaj):=[(224,A5n N),(223,Bfi N)]
def Ag3:Aac:=⟨[wq4,(5,.one (.ptr 1000)),(35,.one (.val z4)),(36,.one wq0),(37,.one wq0)],[A5g,(1000,.row 167 (.pair .str z2))]⟩
def Arf:Aac:=⟨A09,[]⟩
def Arg:Aac:=⟨Cdq,Asz⟩
def Bfj:Ac4:=.cons .ret Arf (.cons (.exit 0) Arg (.nil))
abbrev A24 (R:Type):=d2->Int->Int->(List UInt8)->d3->d2->d1->Int->Int->(List ((List UInt8×(Int×(Int×Int)))))->(Bool->Option R)->((List UInt8)->d3->d2->d1->Int->Int->Option R)->Option R
abbrev Bfk (R:Type):=d2->Int->Int->(List UInt8)->d3->d2->d1->Int->Int->(List ((List UInt8×(Int×(Int×Int)))))->Option R
abbrev Am5:={R:Type}→Nat→Nat→A24 R
def A25 (Adl:Ala) {R:Type} (N:Nat) (rc:Bfk R):A24 R:=fun d m b e f g h i j c l n=>if ((decide (b<m))=true) then (if (0≤b∧b<len d) then (let a:=(d.getD b.toNat (0,(0,0))).1;if ((decide (a<1))=true) then (l false) else if ((decide (a≥31))=true) then (l false) else if ((0≤a)∧(a<31)) then (if (a<(len c)) then (Adl N a ((d.getD b.toNat (0,(0,0))).2.1) ((d.getD b.toNat (0,(0,0))).2.2) e f g h i j ((c.getD a.toNat (([]:List UInt8),(0,(0,0)))).1) ((c.getD a.toNat (([]:List UInt8),(0,(0,0)))).2.1) ((c.getD a.toNat (([]:List UInt8),(0,(0,0)))).2.2.1) ((c.getD a.toNat (([]:List UInt8),(0,(0,0)))).2.2.2) fun o=>if ((!o)=true) then (l false) else rc d m (wi (b+1)) e f g h i j c) else none) else none) else none) else n e f g h i j
def Ac5 {R:Type} (N:Nat):Nat→A24 R
 | 0=>fun _ _ _ _ _ _ _ _ _ _ _ _=>none
 | k+1=>fun a b c d e f g h i j l m=>A25 @Adl N (fun a b c d e f g h i j=>Ac5 N k a b c d e f g h i j l m) a b c d e f g h i j l m
def Apx (Ac5:Am5) (N k:Nat):Aas Ag3:=fun R x K=>Ac5 N k x.1.2.2.1 x.1.2.2.2.1 x.1.2.2.2.2.1 x.2.1.1 x.2.1.2.1 x.2.1.2.2.1 x.2.1.2.2.2.1 x.2.1.2.2.2.2.1 x.2.1.2.2.2.2.2.1 x.2.2.1 (fun y0=>K .ret (Aab Arf ((y0,()),(())))) (fun y0 y1 y2 y3 y4 y5=>K (.exit 0) (Aab Arg (((),()),((y0,y1,y2,y3,y4,y5,()),()))))
def A26 (N k:Nat):Aas Ag3:=Apx @Ac5 N k
def Am6:Code:=Tryz.f163.body.getD .skip
def Ait:Aac:=⟨[wq4,(2,.one (.slf 33)),(3,.one (.slf 34)),Bbl,A2x,(18,.one (.val z4)),(19,.one wq0),(20,.one wq0)],[A5g,B30,Cds]⟩
def Arh:Aac:=⟨[(2,.one (.slf 32)),(3,.one (.slf 33)),Cdr],Cdv⟩
def Ari:Aac:=⟨[wq4,(2,.one (.slf 33)),(3,.one (.slf 34)),Bbl,A2x],[A5g,B30,Cds]⟩
def Bfl:Ac4:=.cons .ret Arh (.cons (.exit 0) Ari (.nil))
abbrev A27 (R:Type):=Int->Int->d2->Int->Int->(List UInt8)->d3->d2->d1->Int->Int->d0->d0->(Bool->d0->d0->Option R)->(Int->Int->(List UInt8)->d3->d2->d1->Int->Int->d0->d0->Option R)->Option R
abbrev Bfm (R:Type):=Int->Int->d2->Int->Int->(List UInt8)->d3->d2->d1->Int->Int->d0->d0->Option R
abbrev Aus:={R:Type}→Nat→Nat→A27 R
def A28 {R:Type} (N:Nat) (rc:Bfm R):A27 R:=fun d f e h b i j l m n o g c p s=>if ((decide (b<h))=true) then (if (0≤b∧b<len e) then (let q:=(e.getD b.toNat (0,(0,0))).1;let a:=(e.getD b.toNat (0,(0,0))).2.1;if ((q==24)=true) then (let r:=(wi (d+1));if ((a != r)=true) then (p false ([]:List Int) ([]:List Int)) else rc r f e h (wi (b+1)) i j l m n o g c) else if ((q==19)=true) then (if (0≤a∧a<len c) then (if (((c.getD a.toNat 0) != 0)=true) then (p false ([]:List Int) ([]:List Int)) else if ((d==0)=true) then (p false ([]:List Int) ([]:List Int)) else if (0≤a∧a<len g) then (if (0≤a∧a<len c) then (rc d (if (a > f) then a else f) e h (wi (b+1)) i j l m n o (g.set a.toNat b) (c.set a.toNat d)) else none) else none) else none) else rc d f e h (wi (b+1)) i j l m n o g c) else none) else s d f i j l m n o g c
def Aes {R:Type} (N:Nat):Nat→A27 R
 | 0=>fun _ _ _ _ _ _ _ _ _ _ _ _ _ _ _=>none
 | k+1=>fun a b c d e f g h i j l m n o p=>A28 N (fun a b c d e f g h i j l m n=>Aes N k a b c d e f g h i j l m n o p) a b c d e f g h i j l m n o p
def A29 (Aes:Aus) (N k:Nat):Aas Ait:=fun R x K=>Aes N k x.1.2.2.2.1 x.1.2.2.2.2.1 x.1.2.2.2.2.2.1 x.1.2.2.2.2.2.2.1 x.1.2.2.2.2.2.2.2.1 x.2.1.1 x.2.1.2.1 x.2.1.2.2.1 x.2.1.2.2.2.1 x.2.1.2.2.2.2.1 x.2.1.2.2.2.2.2.1 x.2.2.1 x.2.2.2.1 (fun y0 y1 y2=>K .ret (Aab Arh (((),(),y0,()),(y1,y2,())))) (fun y0 y1 y2 y3 y4 y5 y6 y7 y8 y9=>K (.exit 0) (Aab Ari (((),(),(),y0,y1,()),((y2,y3,y4,y5,y6,y7,()),y8,y9,()))))
def A3a (N k:Nat):Aas Ait:=A29 @Aes N k
def A8a:Aac:=⟨A5f,[]⟩
def Aut:Aac:=⟨[(0,.one (.slf 32)),(1,.one (.slf 33)),Cry],Cdv⟩
abbrev B37 (R:Type):=(List UInt8)->d3->d2->d1->Int->Int->(Bool->d0->d0->Option R)->Option R
abbrev Aih:={R:Type}→Nat→B37 R
def A8b (Aes:Aus):Aih:=fun {R} N h i b j l d c=>let a:=(wi (d+1));if ((0≤a)∧((a≤a)∧((a*8)≤70368744177664))) then (let e:=(List.replicate (Int.toNat a) 0);if ((0≤a)∧((a≤a)∧((a*8)≤70368744177664))) then (Aes N N 0 0 b (len b) 0 h i b j l d e e (fun m n o=>c m n o) fun p q t u v w r s f g=>if ((p==r)=true) then (c (q==s) f g) else c false f g) else none) else none
def Abw:Aih:=@A8b @Aes
def Cpe (N:Nat):Abn A8a [Aut]:=fun R x C=>Abw N x.1.1.1 x.1.1.2.1 x.1.1.2.2.1 x.1.1.2.2.2.1 x.1.1.2.2.2.2.1 x.1.1.2.2.2.2.2.1 (fun y0 y1 y2=>C.1 (((),(),y0,()),(y1,y2,())))
def Am7 (Abw:Aih) (N:Nat):Go.AX.Aaj:=Acr [true] [] false 1 0 A8a [Aut] (fun R x C=>Abw N x.1.1.1 x.1.1.2.1 x.1.1.2.2.1 x.1.1.2.2.2.1 x.1.1.2.2.2.2.1 x.1.1.2.2.2.2.2.1 (fun y0 y1 y2=>C.1 (((),(),y0,()),(y1,y2,()))))
def A8c (N:Nat):Go.AX.Aaj:=Am7 @Abw N
def Cpf (N:Nat):List (Nat×Acp):=[(9,Aaa Ait (A3a N N))]
def B38 (N:Nat):List (Nat×Go.AX.Aaj):=[]
def Aga:Code:=Tryz.f164.body.getD .skip
def Ag4:Aac:=⟨[wq7,A1a,(28,.one wq0),(29,.one wq0)],[]⟩
def Arj:Aac:=⟨A09,[]⟩
def Ark:Aac:=⟨Cnh,[]⟩
def Bfn:Ac4:=.cons .ret Arj (.cons (.exit 3) Ark (.nil))
abbrev A3b (R:Type):=d2->Int->Int->Int->(Bool->Option R)->(d2->Int->Option R)->Option R
abbrev Bfo (R:Type):=d2->Int->Int->Int->Option R
abbrev Am8:={R:Type}→Nat→Nat→A3b R
def Auu {R:Type} (N:Nat) (rc:Bfo R):A3b R:=fun a c e d f g=>if ((decide (d<e))=true) then (let b:=(wi ((wi (c+1))+d));if ((decide (b≥(len a)))=true) then (f false) else if (0≤b∧b<len a) then (if (((a.getD b.toNat (0,(0,0))).1 != 30)=true) then (f false) else rc a c e (wi (d+1))) else none) else g a c
def Acw {R:Type} (N:Nat):Nat→A3b R
 | 0=>fun _ _ _ _ _ _=>none
 | k+1=>fun a b c d e f=>Auu N (fun a b c d=>Acw N k a b c d e f) a b c d e f
def Apy (Acw:Am8) (N k:Nat):Aas Ag4:=fun R x K=>Acw N k x.1.1 x.1.2.1 x.1.2.2.1 x.1.2.2.2.1 (fun y0=>K .ret (Aab Arj ((y0,()),(())))) (fun y0 y1=>K (.exit 3) (Aab Ark ((y0,y1,()),(()))))
def A3c (N k:Nat):Aas Ag4:=Apy @Acw N k
def Ayv:Code:=Tryz.f170.body.getD .skip
def Ami:Aac:=⟨[wq7,Ama,B32,(10,.one (.val .bool))],[]⟩
def A1d:Aac:=⟨A79,[]⟩
def A1e:Aac:=⟨[],[]⟩
def Biq:Ac4:=.cons .ret A1d (.cons .normal A1e (.nil))
abbrev B06 (R:Type):=d2->Int->Int->Bool->(Bool->Option R)->(Option R)->Option R
abbrev Arl:={R:Type}→Nat→B06 R
def Aeu:Arl:=fun {R} N a b e f c g=>if (f=true) then (c true) else if ((e==29)=true) then (if (0≤b∧b<len a) then (c ((a.getD b.toNat (0,(0,0))).2.2==0)) else none) else if ((e==30)=true) then (let d:=(wi (b+1));if ((d==(len a))=true) then (c true) else if (0≤d∧d<len a) then (c ((a.getD d.toNat (0,(0,0))).1 != 30)) else none) else g
def A5r (Aeu:Arl) (N:Nat):Aas Ami:=fun R x K=>Aeu N x.1.1 x.1.2.1 x.1.2.2.1 x.1.2.2.2.1 (fun y0=>K .ret (Aab A1d ((y0,()),(())))) (K .normal (Aab A1e ((()),(()))))
def Bir (N:Nat):Aas Ami:=A5r @Aeu N
def Bfp:Aac:=⟨B34,[]⟩
def A0s:Aac:=⟨Ah6,[]⟩
abbrev Cdz (R:Type):=d2->Int->(Bool->Option R)->Option R
abbrev Aj7:={R:Type}→Nat→Cdz R
def Bfq (Aeu:Arl):Aj7:=fun {R} N d c b=>if (0≤c∧c<len d) then (let a:=(d.getD c.toNat (0,(0,0))).1;if ((a==20)=true) then (Aeu N d c a (a==20) (fun e=>b e) (b false)) else if ((a==25)=true) then (Aeu N d c a (a==25) (fun f=>b f) (b false)) else if ((a==26)=true) then (Aeu N d c a (a==26) (fun g=>b g) (b false)) else Aeu N d c a (a==27) (fun h=>b h) (b false)) else none
def Abv:Aj7:=@Bfq @Aeu
def Cr6 (N:Nat):Abn Bfp [A0s]:=fun R x C=>Abv N x.1.1 x.1.2.1 (fun y0=>C.1 ((y0,()),(())))
def Apz (Abv:Aj7) (N:Nat):Go.AX.Aaj:=Acr [true,true] [] false 2 0 Bfp [A0s] (fun R x C=>Abv N x.1.1 x.1.2.1 (fun y0=>C.1 ((y0,()),(()))))
def Bfr (N:Nat):Go.AX.Aaj:=Apz @Abv N
def Cr7 (N:Nat):List (Nat×Acp):=[(12,Aaa Ami (Bir N))]
def Cd0 (N:Nat):List (Nat×Go.AX.Aaj):=[]
def Aiu:Aac:=⟨[wq7,A1a,Cdr],[]⟩
def Ayw:Aac:=⟨A09,[]⟩
def Ayx:Aac:=⟨Cnh,[]⟩
def Bfs:Ac4:=.cons .ret Ayw (.cons .normal Ayx (.nil))
abbrev Bwz (R:Type):=d2->Int->Bool->(Bool->Option R)->(d2->Int->Option R)->Option R
abbrev Aj8:={R:Type}→Nat→Bwz R
def A3d (Abv:Aj7):Aj8:=fun {R} N a b f e c=>if (f=true) then (Abv N a b fun g=>if ((!g)=true) then (e false) else c a b) else let d:=(wi (b+1));if (0≤d∧d<len a) then (if (((a.getD d.toNat (0,(0,0))).1==24)=true) then (Abv N a b fun h=>if ((!h)=true) then (e false) else c a b) else c a b) else none
def Abm:Aj8:=@A3d @Abv
def Ap0 (Abm:Aj8) (N:Nat):Aas Aiu:=fun R x K=>Abm N x.1.1 x.1.2.1 x.1.2.2.1 (fun y0=>K .ret (Aab Ayw ((y0,()),(())))) (fun y0 y1=>K .normal (Aab Ayx ((y0,y1,()),(()))))
def Bft (N:Nat):Aas Aiu:=Ap0 @Abm N
def Ahn:Aac:=⟨Cnh,[]⟩
def As2:Aac:=⟨A09,[]⟩
def As3:Aac:=⟨[wq7],[]⟩
def Bis:Ac4:=.cons .ret As2 (.cons (.exit 0) As3 (.nil))
abbrev A5s (R:Type):=d2->Int->(Bool->Option R)->(d2->Option R)->Option R
abbrev Bit (R:Type):=d2->Int->Option R
abbrev Aob:={R:Type}→Nat→Nat→A5s R
def A5t (Acw:Am8) (Abm:Aj8) {R:Type} (N:Nat) (rc:Bit R):A5s R:=fun a b d l=>if ((decide (b<(len a)))=true) then (let c:=(wi (b+1));if (0≤b∧b<len a) then (let h:=(a.getD b.toNat (0,(0,0))).1;if ((h==29)=true) then (if (0≤b∧b<len a) then (Acw N N a b ((a.getD b.toNat (0,(0,0))).2.2) 0 (fun m=>d m) fun e g=>if (0≤g∧g<len e) then (let i:=(wi (g+(e.getD g.toNat (0,(0,0))).2.2));let f:=(wi (i+1));if ((!(f==(len e)))=true) then (if (0≤f∧f<len e) then (if (((e.getD f.toNat (0,(0,0))).1==30)=true) then (d false) else Abm N e i (f==(len e)) (fun n=>d n) fun o p=>rc o (wi (p+1))) else none) else Abm N e i (f==(len e)) (fun q=>d q) fun r s=>rc r (wi (s+1))) else none) else none) else if ((h==30)=true) then (d false) else if ((h==19)=true) then (if ((c==(len a))=true) then (d false) else if (0≤c∧c<len a) then (let j:=(a.getD c.toNat (0,(0,0))).1;if ((j != 18)=true) then (if (0≤c∧c<len a) then (if ((j != 28)=true) then (if (0≤c∧c<len a) then (if ((j != 19)=true) then (d false) else Abm N a b (c==(len a)) (fun t=>d t) fun u v=>rc u (wi (v+1))) else none) else Abm N a b (c==(len a)) (fun w=>d w) fun x y=>rc x (wi (y+1))) else none) else Abm N a b (c==(len a)) (fun z=>d z) fun A B=>rc A (wi (B+1))) else none) else Abm N a b (c==(len a)) (fun C=>d C) fun D E=>rc D (wi (E+1))) else none) else l a
def Acl {R:Type} (N:Nat):Nat→A5s R
 | 0=>fun _ _ _ _=>none
 | k+1=>fun a b c d=>A5t @Acw @Abm N (fun a b=>Acl N k a b c d) a b c d
def Arm (Acl:Aob) (N k:Nat):Aas Ahn:=fun R x K=>Acl N k x.1.1 x.1.2.1 (fun y0=>K .ret (Aab As2 ((y0,()),(())))) (fun y0=>K (.exit 0) (Aab As3 ((y0,()),(()))))
def A5u (N k:Nat):Aas Ahn:=Arm @Acl N k
def Bbx:Aac:=⟨[wq7],[]⟩
def Axl:Aac:=⟨Ah6,[]⟩
abbrev B8w (R:Type):=d2->(Bool->Option R)->Option R
abbrev Amr:={R:Type}→Nat→B8w R
def Bby (Acl:Aob):Amr:=fun {R} N c a=>Acl N N c 0 (fun d=>a d) fun b=>if (((len b)==0)=true) then (a true) else if (((0 :Int)≤(0 :Int))∧(0<(len b))) then (a ((List.getD b (0:Nat) (0,(0,0))).1==24)) else none
def Aef:Amr:=@Bby @Acl
def Cqa (N:Nat):Abn Bbx [Axl]:=fun R x C=>Aef N x.1.1 (fun y0=>C.1 ((y0,()),(())))
def Awc (Aef:Amr) (N:Nat):Go.AX.Aaj:=Acr [true] [] false 1 0 Bbx [Axl] (fun R x C=>Aef N x.1.1 (fun y0=>C.1 ((y0,()),(()))))
def Bor (N:Nat):Go.AX.Aaj:=Awc @Aef N
def Cqb (N:Nat):List (Nat×Acp):=[(17,Aaa Ag4 (A3c N N)),(44,Aaa Aiu (Bft N)),(5,Aaa Ahn (A5u N N))]
def B8x (N:Nat):List (Nat×Go.AX.Aaj):=[(170,Bfr N)]
def Aid:Code:=Tryz.f165.body.getD .skip
def Asv:Code:=Tryz.f225.body.getD .skip
def Agb:Code:=Tryz.f240.body.getD .skip
def Biu:Code:=Tryz.f226.body.getD .skip
def A5v:Aac:=⟨A1c,[]⟩
def As4:Aac:=⟨Ah6,[]⟩
abbrev B07 (R:Type):=Int->(Bool->Option R)->Option R
abbrev Aoc:={R:Type}→Nat→B07 R
def A5w (Ae0:An5):Aoc:=fun {R} N a b=>Ae0 N a fun c=>b (!c)
def Afl:Aoc:=@A5w @Ae0
def Cn6 (N:Nat):Abn A5v [As4]:=fun R x C=>Afl N x.1.1 (fun y0=>C.1 ((y0,()),(())))
def A5x (Afl:Aoc) (N:Nat):Go.AX.Aaj:=Acr [true] [] false 1 0 A5v [As4] (fun R x C=>Afl N x.1.1 (fun y0=>C.1 ((y0,()),(()))))
def Biv (N:Nat):Go.AX.Aaj:=A5x @Afl N
def Cn7 (N:Nat):List (Nat×Acp):=[]
def B08 (N:Nat):List (Nat×Go.AX.Aaj):=[(223,Bfi N)]
def Adz:Aac:=⟨[Cnf,(1,.one (.fn 226)),Bn1,Cdt],[]⟩
def Ajt:Aac:=⟨Cip,[]⟩
def Aju:Aac:=⟨[],[]⟩
def Atz:Ac4:=.cons .ret Ajt (.cons (.exit 0) Aju (.nil))
abbrev Am9 (R:Type):=d0->Int->Int->(Int->Option R)->(Option R)->Option R
abbrev At0 (R:Type):=d0->Int->Int->Option R
abbrev Aks:={R:Type}→Nat→Nat→Am9 R
def Akt (Afl:Aoc) {R:Type} (N:Nat) (rc:At0 R):Am9 R:=fun b c a d e=>if ((decide (a<c))=true) then (if (0≤a∧a<len b) then (Afl N (b.getD a.toNat 0) fun f=>if (f=true) then (d a) else rc b c (wi (a+1))) else none) else e
def Aa8 {R:Type} (N:Nat):Nat→Am9 R
 | 0=>fun _ _ _ _ _=>none
 | k+1=>fun a b c d e=>Akt @Afl N (fun a b c=>Aa8 N k a b c d e) a b c d e
def Ana (Aa8:Aks) (N k:Nat):Aas Adz:=fun R x K=>Aa8 N k x.1.1 x.1.2.2.1 x.1.2.2.2.1 (fun y0=>K .ret (Aab Ajt ((y0,()),(())))) (K (.exit 0) (Aab Aju ((()),(()))))
def Anb (N k:Nat):Aas Adz:=Ana @Aa8 N k
def Aot:Aac:=⟨[Cnf,(1,.one (.fn 226))],[]⟩
def Aku:Aac:=⟨A1c,[]⟩
abbrev Bbz (R:Type):=d0->(Int->Option R)->Option R
abbrev Ajb:={R:Type}→Nat→Bbz R
def Aou (Aa8:Aks):Ajb:=fun {R} N a b=>Aa8 N N a (len a) 0 (fun c=>b c) (b (-1))
def Adh:Ajb:=@Aou @Aa8
def B8y (N:Nat):Abn Aot [Aku]:=fun R x C=>Adh N x.1.1 (fun y0=>C.1 ((y0,()),(())))
def Awd (Adh:Ajb) (N:Nat):Go.AX.Aaj:=Acr [true,true] [] false 2 0 Aot [Aku] (fun R x C=>Adh N x.1.1 (fun y0=>C.1 ((y0,()),(()))))
def Awe (N:Nat):Go.AX.Aaj:=Awd @Adh N
def B8z (N:Nat):List (Nat×Acp):=[(5,Aaa Adz (Anb N N))]
def Bb0 (N:Nat):List (Nat×Go.AX.Aaj):=[(226,Biv N)]
def Am0:Aac:=⟨[Cnf,(1,.one (.fn 226))],[]⟩
def Ajh:Aac:=⟨Ah6,[]⟩
abbrev A7m (R:Type):=d0->(Bool->Option R)->Option R
abbrev Ae8:={R:Type}→Nat→A7m R
def Am1 (Adh:Ajb):Ae8:=fun {R} N a b=>Adh N a fun c=>b (decide (c≥0))
def Aa1:Ae8:=@Am1 @Adh
def B23 (N:Nat):Abn Am0 [Ajh]:=fun R x C=>Aa1 N x.1.1 (fun y0=>C.1 ((y0,()),(())))
def Aj2 (Aa1:Ae8) (N:Nat):Go.AX.Aaj:=Acr [true,true] [] false 2 0 Am0 [Ajh] (fun R x C=>Aa1 N x.1.1 (fun y0=>C.1 ((y0,()),(()))))
def Asw (N:Nat):Go.AX.Aaj:=Aj2 @Aa1 N
def B24 (N:Nat):List (Nat×Acp):=[]
def A7n (N:Nat):List (Nat×Go.AX.Aaj):=[(240,Awe N)]
def Aik:Aac:=⟨[wq4,(11,.one (.val z3)),Cna,Cin],Asz⟩
def As5:Aac:=⟨A09,[]⟩
def As6:Aac:=⟨Cdq,Asz⟩
def Biw:Ac4:=.cons .ret As5 (.cons (.exit 0) As6 (.nil))
abbrev A5y (R:Type):=d3->Int->Int->(List UInt8)->d3->d2->d1->Int->Int->(Bool->Option R)->((List UInt8)->d3->d2->d1->Int->Int->Option R)->Option R
abbrev Bix (R:Type):=d3->Int->Int->(List UInt8)->d3->d2->d1->Int->Int->Option R
abbrev Arn:={R:Type}→Nat→Nat→A5y R
def Axm (Ac6:Akn) (Aa1:Ae8) {R:Type} (N:Nat) (rc:Bix R):A5y R:=fun b d a e f g h i j c n=>if ((decide (a<d))=true) then (if (0≤a∧a<len b) then (let m:=(b.getD a.toNat (([]:List UInt8),(false,([]:List Int)))).1;let l:=(b.getD a.toNat (([]:List UInt8),(false,([]:List Int)))).2.2;if ((b.getD a.toNat (([]:List UInt8),(false,([]:List Int)))).2.1=true) then (Ac6 N m fun q o=>if ((o != 0)=true) then (c false) else if ((decide ((len l) > 0))=true) then (c false) else rc b d (wi (a+1)) e f g h i j) else if ((!(m==([]:List UInt8)))=true) then (c false) else if (((len l)==0)=true) then (c false) else Aa1 N l fun p=>if (p=true) then (c false) else rc b d (wi (a+1)) e f g h i j) else none) else n e f g h i j
def Adv {R:Type} (N:Nat):Nat→A5y R
 | 0=>fun _ _ _ _ _ _ _ _ _ _ _=>none
 | k+1=>fun a b c d e f g h i j l=>Axm @Ac6 @Aa1 N (fun a b c d e f g h i=>Adv N k a b c d e f g h i j l) a b c d e f g h i j l
def Axn (Adv:Arn) (N k:Nat):Aas Aik:=fun R x K=>Adv N k x.1.2.1 x.1.2.2.1 x.1.2.2.2.1 x.2.1.1 x.2.1.2.1 x.2.1.2.2.1 x.2.1.2.2.2.1 x.2.1.2.2.2.2.1 x.2.1.2.2.2.2.2.1 (fun y0=>K .ret (Aab As5 ((y0,()),(())))) (fun y0 y1 y2 y3 y4 y5=>K (.exit 0) (Aab As6 (((),()),((y0,y1,y2,y3,y4,y5,()),()))))
def A5z (N k:Nat):Aas Aik:=Axn @Adv N k
def Ahy:Aac:=⟨[wq4,(7,.one (.mp 33)),(50,.one (.val z1)),(51,.one wq0),(52,.one wq0)],[A5g,(33,.amap 207 (.int .i64) .bool)]⟩
def Aro:Aac:=⟨A09,[]⟩
def Arp:Aac:=⟨[],[]⟩
def Bfu:Ac4:=.cons .ret Aro (.cons (.exit 2) Arp (.nil))
abbrev A3e (R:Type):=d1->Int->Int->(List UInt8)->d3->d2->d1->Int->Int->(List (Int×Bool))->(Bool->Option R)->(Option R)->Option R
abbrev Bfv (R:Type):=d1->Int->Int->(List UInt8)->d3->d2->d1->Int->Int->(List (Int×Bool))->Option R
abbrev Ap1:={R:Type}→Nat→Nat→A3e R
def Auv (Aa6:Ah7) {R:Type} (N:Nat) (rc:Bfv R):A3e R:=fun b e a h i j l f m g c n=>if ((decide (a<e))=true) then (if (0≤a∧a<len b) then (let d:=(b.getD a.toNat (0,0)).1;Aa6 N d 1 199 fun o=>if ((!o)=true) then (c false) else if ((Option.getD (A08 (kt:=(.int .i64)) (et:=.bool) d g) false)=true) then (c false) else Aa6 N ((b.getD a.toNat (0,0)).2) 1 f fun p=>if ((!p)=true) then (c false) else rc b e (wi (a+1)) h i j l f m (A2r (kt:=(.int .i64)) (et:=.bool) d true g)) else none) else n
def Ac9 {R:Type} (N:Nat):Nat→A3e R
 | 0=>fun _ _ _ _ _ _ _ _ _ _ _ _=>none
 | k+1=>fun a b c d e f g h i j l m=>Auv @Aa6 N (fun a b c d e f g h i j=>Ac9 N k a b c d e f g h i j l m) a b c d e f g h i j l m
def Auw (Ac9:Ap1) (N k:Nat):Aas Ahy:=fun R x K=>Ac9 N k x.1.2.2.1 x.1.2.2.2.1 x.1.2.2.2.2.1 x.2.1.1 x.2.1.2.1 x.2.1.2.2.1 x.2.1.2.2.2.1 x.2.1.2.2.2.2.1 x.2.1.2.2.2.2.2.1 x.2.2.1 (fun y0=>K .ret (Aab Aro ((y0,()),(())))) (K (.exit 2) (Aab Arp ((()),(()))))
def A3f (N k:Nat):Aas Ahy:=Auw @Ac9 N k
def Bb1:Aac:=⟨A5f,[]⟩
def Axo:Aac:=⟨Ah6,[]⟩
abbrev B80 (R:Type):=(List UInt8)->d3->d2->d1->Int->Int->(Bool->Option R)->Option R
abbrev Ams:={R:Type}→Nat→B80 R
def Bb2 (Adv:Arn) (Ac9:Ap1):Ams:=fun {R} N d a e f g h b=>Adv N N a (len a) 0 d a e f g h (fun i=>b i) fun j l m c n o=>Ac9 N N c (len c) 0 j l m c n o ([]:List (Int×Bool)) (fun p=>b p) (b true)
def Aeg:Ams:=@Bb2 @Adv @Ac9
def Cqc (N:Nat):Abn Bb1 [Axo]:=fun R x C=>Aeg N x.1.1.1 x.1.1.2.1 x.1.1.2.2.1 x.1.1.2.2.2.1 x.1.1.2.2.2.2.1 x.1.1.2.2.2.2.2.1 (fun y0=>C.1 ((y0,()),(())))
def Awf (Aeg:Ams) (N:Nat):Go.AX.Aaj:=Acr [true] [] false 1 0 Bb1 [Axo] (fun R x C=>Aeg N x.1.1.1 x.1.1.2.1 x.1.1.2.2.1 x.1.1.2.2.2.1 x.1.1.2.2.2.2.1 x.1.1.2.2.2.2.2.1 (fun y0=>C.1 ((y0,()),(()))))
def Bos (N:Nat):Go.AX.Aaj:=Awf @Aeg N
def Cqd (N:Nat):List (Nat×Acp):=[(5,Aaa Aik (A5z N N)),(27,Aaa Ahy (A3f N N))]
def B81 (N:Nat):List (Nat×Go.AX.Aaj):=[(160,Bkk N),(225,Asw N),(224,A5n N)]
def Awg:Code:=Tryz.f166.body.getD .skip
def Alj:Aac:=⟨[wq4,A1b,Cm7],A2a⟩
def Ayy:Aac:=⟨Bbm,[]⟩
def Ayz:Aac:=⟨[],[]⟩
def Bfw:Ac4:=.cons .ret Ayy (.cons .normal Ayz (.nil))
abbrev Bw0 (R:Type):=Int->Bool->Int->Int->Int->(Int->Option R)->(Option R)->Option R
abbrev Ap2:={R:Type}→Nat→Bw0 R
def Ad0:Ap2:=fun {R} N b c g d e a f=>if (c=true) then (a d) else if ((b==30)=true) then (a e) else f
def A3g (Ad0:Ap2) (N:Nat):Aas Alj:=fun R x K=>Ad0 N x.1.2.1 x.1.2.2.1 x.2.1.1 x.2.1.2.1 x.2.1.2.2.1 (fun y0=>K .ret (Aab Ayy ((y0,()),(())))) (K .normal (Aab Ayz ((()),(()))))
def Bfx (N:Nat):Aas Alj:=A3g @Ad0 N
def Bb3:Aac:=⟨Cbo,[]⟩
def Axp:Aac:=⟨A1c,[]⟩
abbrev B82 (R:Type):=Int->Int->Int->(Int->Option R)->Option R
abbrev Ajc:={R:Type}→Nat→B82 R
def Bb4 (Ad0:Ap2):Ajc:=fun {R} N a c d b=>if ((a==20)=true) then (Ad0 N a (a==20) a c d (fun e=>b e) (b 0)) else if ((a==21)=true) then (Ad0 N a (a==21) a c d (fun f=>b f) (b 0)) else if ((a==22)=true) then (Ad0 N a (a==22) a c d (fun g=>b g) (b 0)) else if ((a==27)=true) then (Ad0 N a (a==27) a c d (fun h=>b h) (b 0)) else Ad0 N a (a==29) a c d (fun i=>b i) (b 0)
def Ab2:Ajc:=@Bb4 @Ad0
def Cqe (N:Nat):Abn Bb3 [Axp]:=fun R x C=>Ab2 N x.1.1.1 x.1.1.2.1 x.1.1.2.2.1 (fun y0=>C.1 ((y0,()),(())))
def Aov (Ab2:Ajc) (N:Nat):Go.AX.Aaj:=Acr [true] [] false 1 0 Bb3 [Axp] (fun R x C=>Ab2 N x.1.1.1 x.1.1.2.1 x.1.1.2.2.1 (fun y0=>C.1 ((y0,()),(()))))
def Bb5 (N:Nat):Go.AX.Aaj:=Aov @Ab2 N
def Cqf (N:Nat):List (Nat×Acp):=[(14,Aaa Alj (Bfx N))]
def B83 (N:Nat):List (Nat×Go.AX.Aaj):=[]
def Aiv:Aac:=⟨[(8,.one (.slf 32)),(9,.one (.slf 33)),B33,(13,.one (.ptr 34)),Cm3,Cnb,Cnc],[Cr0,B30,(34,.cells 91 Cdw)]⟩
def Ay0:Aac:=⟨A09,[]⟩
def Ay1:Aac:=⟨[(8,.one (.slf 32)),(9,.one (.slf 33)),B33,Cm3,Cnb,Cnc],Cdv⟩
def Bfy:Ac4:=.cons .ret Ay0 (.cons .normal Ay1 (.nil))
abbrev Bw1 (R:Type):=Int->d2->Int->Int->d0->d0->Int->Int->Int->(Bool->Option R)->(Int->d2->Int->Int->d0->d0->Option R)->Option R
abbrev Aj9:={R:Type}→Nat→Bw1 R
def A3h (Ab2:Ajc):Aj9:=fun {R} N d e f g b c j l m h i=>Ab2 N j l m fun a=>if ((decide (a > 0))=true) then (if (0≤a∧a<len c) then (if (((c.getD a.toNat 0) != d)=true) then (h false) else if (0≤a∧a<len b) then (if (((b.getD a.toNat 0)==0)=true) then (h false) else i d e f g b c) else none) else none) else i d e f g b c
def Ada:Aj9:=@A3h @Ab2
def Ap3 (Ada:Aj9) (N:Nat):Aas Aiv:=fun R x K=>Ada N x.1.2.2.1 x.1.2.2.2.2.1 x.1.2.2.2.2.2.1 x.1.2.2.2.2.2.2.1 x.2.1 x.2.2.1 x.2.2.2.1.1 x.2.2.2.1.2.1 x.2.2.2.1.2.2.1 (fun y0=>K .ret (Aab Ay0 ((y0,()),(())))) (fun y0 y1 y2 y3 y4 y5=>K .normal (Aab Ay1 (((),(),y0,y1,y2,y3,()),(y4,y5,()))))
def Bfz (N:Nat):Aas Aiv:=Ap3 @Ada N
def Ag5:Aac:=⟨[(8,.one (.slf 32)),(9,.one (.slf 33)),B33,Cm3,Cnb,Cnc],Cdv⟩
def Arq:Aac:=⟨A09,[]⟩
def Arr:Aac:=⟨[],[]⟩
def Bf0:Ac4:=.cons .ret Arq (.cons (.exit 2) Arr (.nil))
abbrev A3i (R:Type):=Int->d2->Int->Int->d0->d0->(Bool->Option R)->(Option R)->Option R
abbrev Bf1 (R:Type):=Int->d2->Int->Int->d0->d0->Option R
abbrev Anc:={R:Type}→Nat→Nat→A3i R
def A3j (Ada:Aj9) {R:Type} (N:Nat) (rc:Bf1 R):A3i R:=fun j b c a f g h l=>if ((decide (a<c))=true) then (if (0≤a∧a<len b) then (let d:=(b.getD a.toNat (0,(0,0))).1;let e:=(b.getD a.toNat (0,(0,0))).2.1;let i:=(b.getD a.toNat (0,(0,0))).2.2;if ((d==24)=true) then (Ada N e b c a f g d e i (fun m=>h m) fun n o p q r s=>rc n o p (wi (q+1)) r s) else Ada N j b c a f g d e i (fun t=>h t) fun u v w x y z=>rc u v w (wi (x+1)) y z) else none) else l
def Acx {R:Type} (N:Nat):Nat→A3i R
 | 0=>fun _ _ _ _ _ _ _ _=>none
 | k+1=>fun a b c d e f g h=>A3j @Ada N (fun a b c d e f=>Acx N k a b c d e f g h) a b c d e f g h
def Ap4 (Acx:Anc) (N k:Nat):Aas Ag5:=fun R x K=>Acx N k x.1.2.2.1 x.1.2.2.2.1 x.1.2.2.2.2.1 x.1.2.2.2.2.2.1 x.2.1 x.2.2.1 (fun y0=>K .ret (Aab Arq ((y0,()),(())))) (K (.exit 2) (Aab Arr ((()),(()))))
def A3k (N k:Nat):Aas Ag5:=Ap4 @Acx N k
def Bb6:Aac:=⟨A5f,[]⟩
def Axq:Aac:=⟨Ah6,[]⟩
abbrev B84 (R:Type):=(List UInt8)->d3->d2->d1->Int->Int->(Bool->Option R)->Option R
abbrev Awh:={R:Type}→Nat→B84 R
def Bb7 (Ac6:Akn) (Aco:Ako) (Ac5:Am5) (Abw:Aih) (Aef:Amr) (Aeg:Ams) (Acx:Anc):Awh:=fun {R} N d m c n e f a=>Ac6 N d fun y0 o=>if ((o != 0)=true) then (a false) else if ((decide (e<0))=true) then (a false) else if ((decide (f<0))=true) then (a false) else Aco N fun p q r s t u v w x y z A B C D E F G H I J L M O P Q S T U V W X Y Z aa ab ac ad ae af ag ah ai aj ak al am an ao ap aq ar au av aw ax ay az ba bb bc bd be bf bg bh bi bj bk bl bm bn bo bp bq br bs bt bu bv bw bx bz ca cb cc cd ce cf cg ch ci cj ck cl cm cn co cp cq cr cs ct cu cv cw cx cy cz da db dc dd de df dg dh di dj dk dl dm dn dp=>Ac5 N N c (len c) 0 d m c n e f ((p,(q,(r,s)))::((t,(u,(v,w)))::((x,(y,(z,A)))::((B,(C,(D,E)))::((F,(G,(H,I)))::((J,(L,(M,O)))::((P,(Q,(S,T)))::((U,(V,(W,X)))::((Y,(Z,(aa,ab)))::((ac,(ad,(ae,af)))::((ag,(ah,(ai,aj)))::((ak,(al,(am,an)))::((ao,(ap,(aq,ar)))::((au,(av,(aw,ax)))::((ay,(az,(ba,bb)))::((bc,(bd,(be,bf)))::((bg,(bh,(bi,bj)))::((bk,(bl,(bm,bn)))::((bo,(bp,(bq,br)))::((bs,(bt,(bu,bv)))::((bw,(bx,(bz,ca)))::((cb,(cc,(cd,ce)))::((cf,(cg,(ch,ci)))::((cj,(ck,(cl,cm)))::((cn,(co,(cp,cq)))::((cr,(cs,(ct,cu)))::((cv,(cw,(cx,cy)))::((cz,(da,(db,dc)))::((dd,(de,(df,dg)))::((dh,(di,(dj,dk)))::((dl,(dm,(dn,dp)))::([]:List (List UInt8×Int×Int×Int))))))))))))))))))))))))))))))))) (fun dq=>a dq) fun g h b i j l=>Abw N g h b i j l fun dr ds dt=>if ((!dr)=true) then (a false) else Aef N b fun du=>if ((!du)=true) then (a false) else Aeg N g h b i j l fun dv=>if ((!dv)=true) then (a false) else Acx N N 0 b (len b) 0 ds dt (fun dw=>a dw) (a true)
def Ajn:Awh:=@Bb7 @Ac6 @Aco @Ac5 @Abw @Aef @Aeg @Acx
def Cqg (N:Nat):Abn Bb6 [Axq]:=fun R x C=>Ajn N x.1.1.1 x.1.1.2.1 x.1.1.2.2.1 x.1.1.2.2.2.1 x.1.1.2.2.2.2.1 x.1.1.2.2.2.2.2.1 (fun y0=>C.1 ((y0,()),(())))
def Bot (Ajn:Awh) (N:Nat):Go.AX.Aaj:=Acr [true] [] false 1 0 Bb6 [Axq] (fun R x C=>Ajn N x.1.1.1 x.1.1.2.1 x.1.1.2.2.1 x.1.1.2.2.2.1 x.1.1.2.2.2.2.1 x.1.1.2.2.2.2.2.1 (fun y0=>C.1 ((y0,()),(()))))
def Bou (N:Nat):Go.AX.Aaj:=Bot @Ajn N
def Cqh (N:Nat):List (Nat×Acp):=[(13,Aaa Ag3 (A26 N N)),(40,Aaa Aiv (Bfz N)),(33,Aaa Ag5 (A3k N N))]
def B85 (N:Nat):List (Nat×Go.AX.Aaj):=[(160,Bkk N),(161,Bbw N),(162,Bip N),(163,A8c N),(164,Bor N),(165,Bos N),(166,Bb5 N)]
def Amj:Code:=Tryz.f105.body.getD .skip
def An6:Code:=Tryz.f167.body.getD .skip
def Alw:Aac:=⟨[Ama,Cm8,wq6,wq8,Cdu,(11,.one (.val .bool))],Ci6⟩
def A3l:Aac:=⟨Brf,[]⟩
def A3m:Aac:=⟨[Ama,wq6,wq8],Ci6⟩
def Blm:Ac4:=.cons .ret A3l (.cons .normal A3m (.nil))
abbrev B39 (R:Type):=Int->Bool->Int->Bool->Int->Int->Int->(List UInt8)->Int->Int->Int->(Bool->Option R)->(Int->Int->Int->Int->(List UInt8)->Int->Int->Int->Option R)->Option R
abbrev Ane:={R:Type}→Nat→B39 R
def A8d (Aa6:Ah7):Ane:=fun {R} N b m l n c a d e f g h j i=>if (n=true) then (Aa6 N a 2 (wi (b-1)) fun o=>if ((!o)=true) then (j false) else i b c a d e f g h) else if ((l==4)=true) then (if ((decide (a<2))=true) then (j false) else i b c a d e f g h) else if ((l==23)=true) then (Aa6 N a 2 (wi (b-3)) fun p=>if ((!p)=true) then (j false) else i b c a d e f g h) else if ((l==18)=true) then (if ((!m)=true) then (if ((decide (a > (wi ((wi (b+2000))+2))))=true) then (j false) else i b c a d e f g h) else i b c a d e f g h) else i b c a d e f g h
def Aff:Ane:=@A8d @Aa6
def A0t (Aff:Ane) (N:Nat):Aas Alw:=fun R x K=>Aff N x.1.1 x.1.2.1 x.1.2.2.2.2.1 x.1.2.2.2.2.2.1 x.2.1.1 x.2.1.2.1 x.2.1.2.2.1 x.2.2.1.1 x.2.2.1.2.1 x.2.2.1.2.2.1 x.2.2.1.2.2.2.1 (fun y0=>K .ret (Aab A3l ((y0,()),(())))) (fun y0 y1 y2 y3 y4 y5 y6 y7=>K .normal (Aab A3m ((y0,(),(),()),((y1,y2,y3,()),(y4,y5,y6,y7,()),()))))
def Bln (N:Nat):Aas Alw:=A0t @Aff N
def Alb:Aac:=⟨[Ama,wq6,wq8],Ci6⟩
def A1f:Aac:=⟨Brf,[]⟩
def Biy:Ac4:=.cons .ret A1f (.nil)
abbrev B09 (R:Type):=Int->Int->Int->Int->(List UInt8)->Int->Int->Int->(Bool->Option R)->Option R
abbrev Aod:={R:Type}→Nat→B09 R
def Ael:Aod:=fun {R} N b c e f g h d i a=>if ((c==24)=true) then (a true) else a (decide ((wi (b-d))≥2))
def Axr (Ael:Aod) (N:Nat):Aas Alb:=fun R x K=>Ael N x.1.1 x.2.1.1 x.2.1.2.1 x.2.1.2.2.1 x.2.2.1.1 x.2.2.1.2.1 x.2.2.1.2.2.1 x.2.2.1.2.2.2.1 (fun y0=>K .ret (Aab A1f ((y0,()),(()))))
def Biz (N:Nat):Aas Alb:=Axr @Ael N
def Bf2:Aac:=⟨[Bts,Ama,Civ,Cm8],[]⟩
def A0u:Aac:=⟨Ah6,[]⟩
abbrev Cd1 (R:Type):=Int->Int->Int->Int->(List UInt8)->Int->Int->Int->Bool->(Bool->Option R)->Option R
abbrev At1:={R:Type}→Nat→Cd1 R
def Bf3 (Aff:Ane) (Ael:Aod):At1:=fun {R} N a c d e f g h i j b=>if ((a==2)=true) then (Aff N e j a (a==2) a c d f g h i (fun l=>b l) fun m n o p q r s t=>Ael N m n o p q r s t fun u=>b u) else Aff N e j a (a==3) a c d f g h i (fun v=>b v) fun w x y z A B C D=>Ael N w x y z A B C D fun E=>b E
def Af6:At1:=@Bf3 @Aff @Ael
def Cr8 (N:Nat):Abn Bf2 [A0u]:=fun R x C=>Af6 N x.1.1.1 x.1.1.2.1 x.1.1.2.2.1 x.1.2.1 x.1.2.2.1.1 x.1.2.2.1.2.1 x.1.2.2.1.2.2.1 x.1.2.2.1.2.2.2.1 x.1.2.2.2.1 (fun y0=>C.1 ((y0,()),(())))
def Bf4 (Af6:At1) (N:Nat):Go.AX.Aaj:=Acr [true,true,true,true] [] false 4 0 Bf2 [A0u] (fun R x C=>Af6 N x.1.1.1 x.1.1.2.1 x.1.1.2.2.1 x.1.2.1 x.1.2.2.1.1 x.1.2.2.1.2.1 x.1.2.2.1.2.2.1 x.1.2.2.1.2.2.2.1 x.1.2.2.2.1 (fun y0=>C.1 ((y0,()),(()))))
def Bri (N:Nat):Go.AX.Aaj:=Bf4 @Af6 N
def Cr9 (N:Nat):List (Nat×Acp):=[(8,Aaa Alw (Bln N)),(30,Aaa Alb (Biz N))]
def Cd2 (N:Nat):List (Nat×Go.AX.Aaj):=[(224,A5n N)]
def Amt:Code:=Tryz.f168.body.getD .skip
def Aka:Aac:=⟨Bww,A2a⟩
def Ay2:Aac:=⟨[A2x],[]⟩
def Bf5:Ac4:=.cons .ret Ay2 (.nil)
abbrev Bw2 (R:Type):=Int->Int->Int->(Int->Option R)->Option R
abbrev Anf:={R:Type}→Nat→Bw2 R
def Ad1:Anf:=fun {R} N c a d b=>b (wi (a+1))
def Aux (Ad1:Anf) (N:Nat):Aas Aka:=fun R x K=>Ad1 N x.2.1.1 x.2.1.2.1 x.2.1.2.2.1 (fun y0=>K .ret (Aab Ay2 ((y0,()),(()))))
def Bf6 (N:Nat):Aas Aka:=Aux @Ad1 N
def Akb:Aac:=⟨[Ama,wq9],[(32,.cells 166 Cit)]⟩
def Ay3:Aac:=⟨[A2x],[]⟩
def Bf7:Ac4:=.cons .ret Ay3 (.nil)
abbrev Bw3 (R:Type):=Int->(List UInt8)->Int->Int->Int->(Int->Option R)->Option R
abbrev Ang:={R:Type}→Nat→Bw3 R
def Aed:Ang:=fun {R} N a e f b c d=>d (wi ((wi (a-b))+c))
def Auy (Aed:Ang) (N:Nat):Aas Akb:=fun R x K=>Aed N x.1.1 x.2.1.1 x.2.1.2.1 x.2.1.2.2.1 x.2.1.2.2.2.1 (fun y0=>K .ret (Aab Ay3 ((y0,()),(()))))
def Bf8 (N:Nat):Aas Akb:=Auy @Aed N
def Bb8:Aac:=⟨[Bts,Ama,Civ],[]⟩
def Axs:Aac:=⟨A1c,[]⟩
abbrev B86 (R:Type):=Int->Int->Int->Int->(List UInt8)->Int->Int->Int->(Int->Option R)->Option R
abbrev Aqs:={R:Type}→Nat→B86 R
def Bb9 (Ad1:Anf) (Aed:Ang):Aqs:=fun {R} N a c d e f g h i b=>if ((a==18)=true) then (b c) else if ((a==24)=true) then (b (wi (2+d))) else if ((a==23)=true) then (Ad1 N a c d fun j=>b j) else if ((a==28)=true) then (Ad1 N a c d fun l=>b l) else Aed N e f g h i fun m=>b m
def Afq:Aqs:=@Bb9 @Ad1 @Aed
def Cqi (N:Nat):Abn Bb8 [Axs]:=fun R x C=>Afq N x.1.1.1 x.1.1.2.1 x.1.1.2.2.1 x.1.2.1 x.1.2.2.1.1 x.1.2.2.1.2.1 x.1.2.2.1.2.2.1 x.1.2.2.1.2.2.2.1 (fun y0=>C.1 ((y0,()),(())))
def Bca (Afq:Aqs) (N:Nat):Go.AX.Aaj:=Acr [true,true,true] [] false 3 0 Bb8 [Axs] (fun R x C=>Afq N x.1.1.1 x.1.1.2.1 x.1.1.2.2.1 x.1.2.1 x.1.2.2.1.1 x.1.2.2.1.2.1 x.1.2.2.1.2.2.1 x.1.2.2.1.2.2.2.1 (fun y0=>C.1 ((y0,()),(()))))
def Bov (N:Nat):Go.AX.Aaj:=Bca @Afq N
def Cqj (N:Nat):List (Nat×Acp):=[(16,Aaa Aka (Bf6 N)),(18,Aaa Akb (Bf8 N))]
def B87 (N:Nat):List (Nat×Go.AX.Aaj):=[]
def Aow:Code:=Tryz.f169.body.getD .skip
def Ajv:Aac:=⟨B34,[]⟩
def As7:Aac:=⟨Ciq,[]⟩
def Bi0:Ac4:=.cons (.exit 0) As7 (.nil)
abbrev A50 (R:Type):=d2->Int->(Int->Option R)->Option R
abbrev Bi1 (R:Type):=d2->Int->Option R
abbrev Axt:={R:Type}→Nat→Nat→A50 R
def A51 {R:Type} (N:Nat) (rc:Bi1 R):A50 R:=fun b a c=>if (0≤a∧a<len b) then (if (((b.getD a.toNat (0,(0,0))).1==19)=true) then (rc b (wi (a+1))) else c a) else none
def Ae3 {R:Type} (N:Nat):Nat→A50 R
 | 0=>fun _ _ _=>none
 | k+1=>fun a b c=>A51 N (fun a b=>Ae3 N k a b c) a b c
def A52 (Ae3:Axt) (N k:Nat):Aas Ajv:=fun R x K=>Ae3 N k x.1.1 x.1.2.1 (fun y0=>K (.exit 0) (Aab As7 ((y0,()),(()))))
def A53 (N k:Nat):Aas Ajv:=A52 @Ae3 N k
def Bcb:Aac:=⟨B34,[]⟩
def Axu:Aac:=⟨A1c,[]⟩
abbrev B88 (R:Type):=d2->Int->(Int->Option R)->Option R
abbrev Aqt:={R:Type}→Nat→B88 R
def Bcc (Ae3:Axt):Aqt:=fun {R} N a b c=>Ae3 N N a b fun d=>c d
def Adn:Aqt:=@Bcc @Ae3
def Cqk (N:Nat):Abn Bcb [Axu]:=fun R x C=>Adn N x.1.1 x.1.2.1 (fun y0=>C.1 ((y0,()),(())))
def Bcd (Adn:Aqt) (N:Nat):Go.AX.Aaj:=Acr [true,true] [] false 2 0 Bcb [Axu] (fun R x C=>Adn N x.1.1 x.1.2.1 (fun y0=>C.1 ((y0,()),(()))))
def Bow (N:Nat):Go.AX.Aaj:=Bcd @Adn N
def Cql (N:Nat):List (Nat×Acp):=[(3,Aaa Ajv (A53 N N))]
def B89 (N:Nat):List (Nat×Go.AX.Aaj):=[]
def Aho:Aac:=⟨[wq4,(3,.one (.ptr 1000)),(4,.one (.slf 33)),Bn1,(19,.one (.val z4)),(20,.one wq0),(21,.one wq0)],[A5g,B30,(1000,.row 167 (.pair .str z2))]⟩
def Apa:Aac:=⟨A09,[]⟩
def Apb:Aac:=⟨[],[]⟩
def Bae:Ac4:=.cons .ret Apa (.cons (.exit 0) Apb (.nil))
abbrev Ay4 (R:Type):=Int->d2->Int->Int->(List UInt8)->d3->d2->d1->Int->Int->d0->(List ((List UInt8×(Int×(Int×Int)))))->(Bool->Option R)->(Option R)->Option R
abbrev An7 (R:Type):=Int->d2->Int->Int->(List UInt8)->d3->d2->d1->Int->Int->d0->(List ((List UInt8×(Int×(Int×Int)))))->Option R
abbrev Ars:={R:Type}→Nat→Nat→Ay4 R
def Ay5 (Af6:At1) (Afq:Aqs) (Ab2:Ajc) (Adn:Aqt) (Abv:Aj7) {R:Type} (N:Nat) (rc:An7 R):Ay4 R:=fun s e g c h i a j l m f d n L=>if ((decide (c<g))=true) then (if (0≤c∧c<len e) then (let b:=(e.getD c.toNat (0,(0,0))).1;let q:=(e.getD c.toNat (0,(0,0))).2.1;let r:=(e.getD c.toNat (0,(0,0))).2.2;if ((0≤b)∧(b<31)) then (if (b<(len d)) then (let t:=(d.getD b.toNat (([]:List UInt8),(0,(0,0)))).1;let u:=(d.getD b.toNat (([]:List UInt8),(0,(0,0)))).2.1;let v:=(d.getD b.toNat (([]:List UInt8),(0,(0,0)))).2.2.1;let w:=(d.getD b.toNat (([]:List UInt8),(0,(0,0)))).2.2.2;if ((decide (c > 0))=true) then (let D:=(wi (c-1));if (0≤D∧D<len a) then (Af6 N b q r s t u v w ((a.getD D.toNat (0,(0,0))).1==19) fun M=>if ((!M)=true) then (n false) else if ((0≤b)∧(b<31)) then (if (b<(len d)) then (Afq N b q r s t u v w fun o=>if ((decide (o<2))=true) then (n false) else if ((decide (o > 4000))=true) then (n false) else Ab2 N b q r fun x=>if ((decide (x > 0))=true) then (if (0≤x∧x<len f) then (Adn N a (f.getD x.toNat 0) fun E=>if (0≤E∧E<len a) then (if ((!(((a.getD E.toNat (0,(0,0))).1==28)==(b==27)))=true) then (n false) else if ((b != 19)=true) then (Abv N a c fun O=>if ((!O)=true) then (let y:=(wi (c+1));if ((decide (y<(len a)))=true) then (Adn N a y fun F=>if (0≤F∧F<len a) then (if (((a.getD F.toNat (0,(0,0))).1==28)=true) then (n false) else rc o e g y h i a j l m f d) else none) else rc o e g y h i a j l m f d) else rc o e g (wi (c+1)) h i a j l m f d) else rc o e g (wi (c+1)) h i a j l m f d) else none) else none) else if ((b != 19)=true) then (Abv N a c fun P=>if ((!P)=true) then (let z:=(wi (c+1));if ((decide (z<(len a)))=true) then (Adn N a z fun G=>if (0≤G∧G<len a) then (if (((a.getD G.toNat (0,(0,0))).1==28)=true) then (n false) else rc o e g z h i a j l m f d) else none) else rc o e g z h i a j l m f d) else rc o e g (wi (c+1)) h i a j l m f d) else rc o e g (wi (c+1)) h i a j l m f d) else none) else none) else none) else Af6 N b q r s t u v w false fun Q=>if ((!Q)=true) then (n false) else if ((0≤b)∧(b<31)) then (if (b<(len d)) then (Afq N b q r s t u v w fun p=>if ((decide (p<2))=true) then (n false) else if ((decide (p > 4000))=true) then (n false) else Ab2 N b q r fun A=>if ((decide (A > 0))=true) then (if (0≤A∧A<len f) then (Adn N a (f.getD A.toNat 0) fun H=>if (0≤H∧H<len a) then (if ((!(((a.getD H.toNat (0,(0,0))).1==28)==(b==27)))=true) then (n false) else if ((b != 19)=true) then (Abv N a c fun S=>if ((!S)=true) then (let B:=(wi (c+1));if ((decide (B<(len a)))=true) then (Adn N a B fun I=>if (0≤I∧I<len a) then (if (((a.getD I.toNat (0,(0,0))).1==28)=true) then (n false) else rc p e g B h i a j l m f d) else none) else rc p e g B h i a j l m f d) else rc p e g (wi (c+1)) h i a j l m f d) else rc p e g (wi (c+1)) h i a j l m f d) else none) else none) else if ((b != 19)=true) then (Abv N a c fun T=>if ((!T)=true) then (let C:=(wi (c+1));if ((decide (C<(len a)))=true) then (Adn N a C fun J=>if (0≤J∧J<len a) then (if (((a.getD J.toNat (0,(0,0))).1==28)=true) then (n false) else rc p e g C h i a j l m f d) else none) else rc p e g C h i a j l m f d) else rc p e g (wi (c+1)) h i a j l m f d) else rc p e g (wi (c+1)) h i a j l m f d) else none) else none) else none) else none) else none) else L
def Adg {R:Type} (N:Nat):Nat→Ay4 R
 | 0=>fun _ _ _ _ _ _ _ _ _ _ _ _ _ _=>none
 | k+1=>fun a b c d e f g h i j l m n o=>Ay5 @Af6 @Afq @Ab2 @Adn @Abv N (fun a b c d e f g h i j l m=>Adg N k a b c d e f g h i j l m n o) a b c d e f g h i j l m n o
def Ay6 (Adg:Ars) (N k:Nat):Aas Aho:=fun R x K=>Adg N k x.1.2.2.2.1 x.1.2.2.2.2.1 x.1.2.2.2.2.2.1 x.1.2.2.2.2.2.2.1 x.2.1.1 x.2.1.2.1 x.2.1.2.2.1 x.2.1.2.2.2.1 x.2.1.2.2.2.2.1 x.2.1.2.2.2.2.2.1 x.2.2.1 x.2.2.2.1 (fun y0=>K .ret (Aab Apa ((y0,()),(())))) (K (.exit 0) (Aab Apb ((()),(()))))
def Ay7 (N k:Nat):Aas Aho:=Ay6 @Adg N k
def A54:Aac:=⟨A5f,[]⟩
def As8:Aac:=⟨Ah6,[]⟩
abbrev B1a (R:Type):=(List UInt8)->d3->d2->d1->Int->Int->(Bool->Option R)->Option R
abbrev Art:={R:Type}→Nat→B1a R
def A55 (Aco:Ako) (Abw:Aih) (Adg:Ars):Art:=fun {R} N b c a d e f g=>Aco N fun h i j l m n o p q r s t u v w x y z A B C D E F G H I J L M O P Q S T U V W X Y Z aa ab ac ad ae af ag ah ai aj ak al am an ao ap aq ar au av aw ax ay az ba bb bc bd be bf bg bh bi bj bk bl bm bn bo bp bq br bs bt bu bv bw bx bz ca cb cc cd ce cf cg ch ci cj ck cl cm cn co cp cq cr cs ct cu cv cw cx cy cz da db dc dd de df dg dh=>Abw N b c a d e f fun dk di dl=>Adg N N 0 a (len a) 0 b c a d e f di ((h,(i,(j,l)))::((m,(n,(o,p)))::((q,(r,(s,t)))::((u,(v,(w,x)))::((y,(z,(A,B)))::((C,(D,(E,F)))::((G,(H,(I,J)))::((L,(M,(O,P)))::((Q,(S,(T,U)))::((V,(W,(X,Y)))::((Z,(aa,(ab,ac)))::((ad,(ae,(af,ag)))::((ah,(ai,(aj,ak)))::((al,(am,(an,ao)))::((ap,(aq,(ar,au)))::((av,(aw,(ax,ay)))::((az,(ba,(bb,bc)))::((bd,(be,(bf,bg)))::((bh,(bi,(bj,bk)))::((bl,(bm,(bn,bo)))::((bp,(bq,(br,bs)))::((bt,(bu,(bv,bw)))::((bx,(bz,(ca,cb)))::((cc,(cd,(ce,cf)))::((cg,(ch,(ci,cj)))::((ck,(cl,(cm,cn)))::((co,(cp,(cq,cr)))::((cs,(ct,(cu,cv)))::((cw,(cx,(cy,cz)))::((da,(db,(dc,dd)))::((de,(df,(dg,dh)))::([]:List (List UInt8×Int×Int×Int))))))))))))))))))))))))))))))))) (fun dj=>g dj) (g true)
def Ahi:Art:=@A55 @Aco @Abw @Adg
def Cn8 (N:Nat):Abn A54 [As8]:=fun R x C=>Ahi N x.1.1.1 x.1.1.2.1 x.1.1.2.2.1 x.1.1.2.2.2.1 x.1.1.2.2.2.2.1 x.1.1.2.2.2.2.2.1 (fun y0=>C.1 ((y0,()),(())))
def Bi2 (Ahi:Art) (N:Nat):Go.AX.Aaj:=Acr [true] [] false 1 0 A54 [As8] (fun R x C=>Ahi N x.1.1.1 x.1.1.2.1 x.1.1.2.2.1 x.1.1.2.2.2.1 x.1.1.2.2.2.2.1 x.1.1.2.2.2.2.2.1 (fun y0=>C.1 ((y0,()),(()))))
def Bi3 (N:Nat):Go.AX.Aaj:=Bi2 @Ahi N
def Cn9 (N:Nat):List (Nat×Acp):=[(11,Aaa Aho (Ay7 N N))]
def B1b (N:Nat):List (Nat×Go.AX.Aaj):=[(161,Bbw N),(163,A8c N),(167,Bri N),(168,Bov N),(166,Bb5 N),(169,Bow N),(170,Bfr N)]
def Bce:Aac:=⟨A5f,[]⟩
def Axv:Aac:=⟨A1c,[]⟩
abbrev B9a (R:Type):=(List UInt8)->d3->d2->d1->Int->Int->(Int->Option R)->Option R
abbrev Aox:={R:Type}→Nat→B9a R
def Bcf (Ajm:Awb) (Ajn:Awh) (Ahi:Art):Aox:=fun {R} N b c d e f g a=>Ajm N b c d e f g fun h=>if (h=true) then (a 2) else Ajn N b c d e f g fun i=>if ((!i)=true) then (a 60) else Ahi N b c d e f g fun j=>if ((!j)=true) then (a 61) else a 0
def Afr:Aox:=@Bcf @Ajm @Ajn @Ahi
def Cqm (N:Nat):Abn Bce [Axv]:=fun R x C=>Afr N x.1.1.1 x.1.1.2.1 x.1.1.2.2.1 x.1.1.2.2.2.1 x.1.1.2.2.2.2.1 x.1.1.2.2.2.2.2.1 (fun y0=>C.1 ((y0,()),(())))
def A2e (Afr:Aox) (N:Nat):Go.AX.Aaj:=Acr [true] [] false 1 0 Bce [Axv] (fun R x C=>Afr N x.1.1.1 x.1.1.2.1 x.1.1.2.2.1 x.1.1.2.2.2.1 x.1.1.2.2.2.2.1 x.1.1.2.2.2.2.2.1 (fun y0=>C.1 ((y0,()),(()))))
def Box (N:Nat):Go.AX.Aaj:=A2e @Afr N
def Cqn (N:Nat):List (Nat×Acp):=[]
def B9b (N:Nat):List (Nat×Go.AX.Aaj):=[(103,Bom N),(104,Bou N),(105,Bi3 N)]
def Blo:Code:=Tryz.f49.body.getD .skip
def A1y:Code:=Tryz.f50.body.getD .skip
def Aoy:Aac:=⟨[Bwv,Ama,B32,(10,.one (.val .bool))],[]⟩
def A56:Aac:=⟨A79,[]⟩
def A57:Aac:=⟨[],[]⟩
def Boy:Ac4:=.cons .ret A56 (.cons .normal A57 (.nil))
abbrev B9c (R:Type):=d4->Int->Int->Bool->(Bool->Option R)->(Option R)->Option R
abbrev Awi:={R:Type}→Nat→B9c R
def Ahd:Awi:=fun {R} N a b e f c g=>if (f=true) then (c true) else if ((e==14)=true) then (if (0≤b∧b<len a) then (c ((a.getD b.toNat (0,(0,(0,(0,0))))).2.2.1==0)) else none) else if ((e==15)=true) then (let d:=(wi (b+1));if ((d==(len a))=true) then (c true) else if (0≤d∧d<len a) then (c ((a.getD d.toNat (0,(0,(0,(0,0))))).1 != 15)) else none) else g
def Bcg (Ahd:Awi) (N:Nat):Aas Aoy:=fun R x K=>Ahd N x.1.1 x.1.2.1 x.1.2.2.1 x.1.2.2.2.1 (fun y0=>K .ret (Aab A56 ((y0,()),(())))) (K .normal (Aab A57 ((()),(()))))
def Boz (N:Nat):Aas Aoy:=Bcg @Ahd N
def Bkl:Aac:=⟨[Bwv,Ama],[]⟩
def A2f:Aac:=⟨Ah6,[]⟩
abbrev Cfk (R:Type):=d4->Int->(Bool->Option R)->Option R
abbrev A1z:={R:Type}→Nat→Cfk R
def Bkm (Ahd:Awi):A1z:=fun {R} N c a d=>if (0≤a∧a<len c) then (let b:=(c.getD a.toNat (0,(0,(0,(0,0))))).1;if ((b==9)=true) then (Ahd N c a b (b==9) (fun e=>d e) (d false)) else Ahd N c a b (b==13) (fun f=>d f) (d false)) else none
def Alx:A1z:=@Bkm @Ahd
def Csz (N:Nat):Abn Bkl [A2f]:=fun R x C=>Alx N x.1.1 x.1.2.1 (fun y0=>C.1 ((y0,()),(())))
def Bvz (Alx:A1z) (N:Nat):Go.AX.Aaj:=Acr [true,true] [] false 2 0 Bkl [A2f] (fun R x C=>Alx N x.1.1 x.1.2.1 (fun y0=>C.1 ((y0,()),(()))))
def Bv0 (N:Nat):Go.AX.Aaj:=Bvz @Alx N
def Cs0 (N:Nat):List (Nat×Acp):=[(8,Aaa Aoy (Boz N))]
def Cfl (N:Nat):List (Nat×Go.AX.Aaj):=[]
def A8e:Aac:=⟨[B31,wq2],Bik⟩
def Auz:Aac:=⟨Ah6,Bik⟩
abbrev B4a (R:Type):=Int->(List UInt8)->d3->d1->d2->d4->(Bool->(List UInt8)->d3->d1->d2->d4->Option R)->Option R
abbrev Aly:={R:Type}→Nat→B4a R
def A0v (Alx:A1z):Aly:=fun {R} N b c d e f a g=>Alx N a b fun h=>g h c d e f a
def Adr:Aly:=@A0v @Alx
def Cpg (N:Nat):Abn A8e [Auz]:=fun R x C=>Adr N x.1.1 x.2.1.1 x.2.1.2.1 x.2.1.2.2.1 x.2.1.2.2.2.1 x.2.1.2.2.2.2.1 (fun y0 y1 y2 y3 y4 y5=>C.1 ((y0,()),((y1,y2,y3,y4,y5,()),())))
def A0w (Adr:Aly) (N:Nat):Go.AX.Aaj:=Acr [true] [] false 2 1 A8e [Auz] (fun R x C=>Adr N x.1.1 x.2.1.1 x.2.1.2.1 x.2.1.2.2.1 x.2.1.2.2.2.1 x.2.1.2.2.2.2.1 (fun y0 y1 y2 y3 y4 y5=>C.1 ((y0,()),((y1,y2,y3,y4,y5,()),()))))
def Blp (N:Nat):Go.AX.Aaj:=A0w @Adr N
def Cph (N:Nat):List (Nat×Acp):=[]
def B4b (N:Nat):List (Nat×Go.AX.Aaj):=[(50,Bv0 N)]
def Blq:Code:=Tryz.f51.body.getD .skip
def A8f:Aac:=⟨[B31,wq2],Bik⟩
def Au0:Aac:=⟨Ah6,Bik⟩
abbrev B4c (R:Type):=Int->(List UInt8)->d3->d1->d2->d4->(Bool->(List UInt8)->d3->d1->d2->d4->Option R)->Option R
abbrev Apn:={R:Type}→Nat→B4c R
def Afg:Apn:=fun {R} N a c d e f b g=>if (0≤a∧a<len b) then (g ((b.getD a.toNat (0,(0,(0,(0,0))))).1==15) c d e f b) else none
def B4d (N:Nat):Abn A8f [Au0]:=fun R x C=>Afg N x.1.1 x.2.1.1 x.2.1.2.1 x.2.1.2.2.1 x.2.1.2.2.2.1 x.2.1.2.2.2.2.1 (fun y0 y1 y2 y3 y4 y5=>C.1 ((y0,()),((y1,y2,y3,y4,y5,()),())))
def A0x (Afg:Apn) (N:Nat):Go.AX.Aaj:=Acr [true] [] false 2 1 A8f [Au0] (fun R x C=>Afg N x.1.1 x.2.1.1 x.2.1.2.1 x.2.1.2.2.1 x.2.1.2.2.2.1 x.2.1.2.2.2.2.1 (fun y0 y1 y2 y3 y4 y5=>C.1 ((y0,()),((y1,y2,y3,y4,y5,()),()))))
def Blr (N:Nat):Go.AX.Aaj:=A0x @Afg N
def B4e (N:Nat):List (Nat×Acp):=[]
def Bls (N:Nat):List (Nat×Go.AX.Aaj):=[]
def Ail:Aac:=⟨[Cij,Cik,wq5,(68,.one (.val z4)),(69,.one wq0),(70,.one wq0)],[Cbn,A9t]⟩
def As9:Aac:=⟨[Cm6,Cii],Bik⟩
def Ata:Aac:=⟨[],Bik⟩
def Bi4:Ac4:=.cons .ret As9 (.cons (.exit 3) Ata (.nil))
abbrev A58 (R:Type):=d2->Int->Int->(List UInt8)->d3->d1->d2->d4->(List UInt8)->d3->d1->d2->d4->(Bool->Bool->(List UInt8)->d3->d1->d2->d4->Option R)->((List UInt8)->d3->d1->d2->d4->Option R)->Option R
abbrev Bi5 (R:Type):=d2->Int->Int->(List UInt8)->d3->d1->d2->d4->(List UInt8)->d3->d1->d2->d4->Option R
abbrev Aru:={R:Type}→Nat→Nat→A58 R
def A59 (Afg:Apn) (Adr:Aly) {R:Type} (N:Nat) (rc:Bi5 R):A58 R:=fun h p a j l m n o r s t u q b C=>if ((decide (a<p))=true) then (if (0≤a∧a<len h) then (let i:=(h.getD a.toNat (0,(0,0))).1;let v:=(h.getD a.toNat (0,(0,0))).2.1;let w:=(h.getD a.toNat (0,(0,0))).2.2;if ((decide (i<0))=true) then (b false false j l m n o) else if ((decide (i≥(len q)))=true) then (b false false j l m n o) else Afg N i j l m n o fun D c d e f g=>if (D=true) then (b false false c d e f g) else if ((decide (v<0))=true) then (b false false c d e f g) else if ((decide (v > 8))=true) then (b false false c d e f g) else if ((decide (w<2))=true) then (b false false c d e f g) else if ((decide (w > 4001))=true) then (b false false c d e f g) else if ((decide (i > 0))=true) then (Adr N (wi (i-1)) c d e f g fun E x y z A B=>if ((!E)=true) then (b false false x y z A B) else rc h p (wi (a+1)) x y z A B r s t u q) else rc h p (wi (a+1)) c d e f g r s t u q) else none) else C j l m n o
def Adw {R:Type} (N:Nat):Nat→A58 R
 | 0=>fun _ _ _ _ _ _ _ _ _ _ _ _ _ _ _=>none
 | k+1=>fun a b c d e f g h i j l m n o p=>A59 @Afg @Adr N (fun a b c d e f g h i j l m n=>Adw N k a b c d e f g h i j l m n o p) a b c d e f g h i j l m n o p
def Axw (Adw:Aru) (N k:Nat):Aas Ail:=fun R x K=>Adw N k x.1.2.2.2.1 x.1.2.2.2.2.1 x.1.2.2.2.2.2.1 x.2.1.1 x.2.1.2.1 x.2.1.2.2.1 x.2.1.2.2.2.1 x.2.1.2.2.2.2.1 x.2.2.1.1 x.2.2.1.2.1 x.2.2.1.2.2.1 x.2.2.1.2.2.2.1 x.2.2.1.2.2.2.2.1 (fun y0 y1 y2 y3 y4 y5 y6=>K .ret (Aab As9 ((y0,y1,()),((y2,y3,y4,y5,y6,()),())))) (fun y0 y1 y2 y3 y4=>K (.exit 3) (Aab Ata ((()),((y0,y1,y2,y3,y4,()),()))))
def A6a (N k:Nat):Aas Ail:=Axw @Adw N k
def Bf9:Aac:=⟨[B36,Cij,Cik],Bik⟩
def A0y:Aac:=⟨[Crx,(1,.one (.val .bool))],Bik⟩
abbrev Cd3 (R:Type):=(List UInt8)->d3->d1->d2->d4->(List UInt8)->d3->d1->d2->d4->(Bool->Bool->(List UInt8)->d3->d1->d2->d4->Option R)->Option R
abbrev At2:={R:Type}→Nat→Cd3 R
def Bga (Adu:Ara) (Afr:Aox) (Adr:Aly) (Adw:Aru):At2:=fun {R} N p q r c s j l m n o a=>if ((decide ((len s) > 32000))=true) then (a true false j l m n o) else if ((decide ((len c) > 200))=true) then (a true false j l m n o) else Adu N N (len c) 0 j l m n o p q r c s p q r (len c) 0 ([]:List (Int×Int×Int)) fun d e f g h t u v b i C D E F G H=>Afr N C D H E F G fun w=>if ((w==2)=true) then (a true false d e f g h) else if ((w==60)=true) then (a false false d e f g h) else if ((decide ((len i) > 0))=true) then (Adr N (wi ((len i)-1)) d e f g h fun I x y z A B=>if ((!I)=true) then (a false false x y z A B) else Adw N N b (len b) 0 x y z A B t u v b i (fun J L M O P Q S=>a J L M O P Q S) fun T U V W X=>a false true T U V W X) else Adw N N b (len b) 0 d e f g h t u v b i (fun Y Z aa ab ac ad ae=>a Y Z aa ab ac ad ae) fun af ag ah ai aj=>a false true af ag ah ai aj
def Ah8:At2:=@Bga @Adu @Afr @Adr @Adw
def Csa (N:Nat):Abn Bf9 [A0y]:=fun R x C=>Ah8 N x.1.1.1 x.1.1.2.1 x.1.1.2.2.1 x.1.1.2.2.2.1 x.1.1.2.2.2.2.1 x.2.1.1 x.2.1.2.1 x.2.1.2.2.1 x.2.1.2.2.2.1 x.2.1.2.2.2.2.1 (fun y0 y1 y2 y3 y4 y5 y6=>C.1 ((y0,y1,()),((y2,y3,y4,y5,y6,()),())))
def Bgb (Ah8:At2) (N:Nat):Go.AX.Aaj:=Acr [true,true,true] [] false 3 1 Bf9 [A0y] (fun R x C=>Ah8 N x.1.1.1 x.1.1.2.1 x.1.1.2.2.1 x.1.1.2.2.2.1 x.1.1.2.2.2.2.1 x.2.1.1 x.2.1.2.1 x.2.1.2.2.1 x.2.1.2.2.2.1 x.2.1.2.2.2.2.1 (fun y0 y1 y2 y3 y4 y5 y6=>C.1 ((y0,y1,()),((y2,y3,y4,y5,y6,()),()))))
def Brj (N:Nat):Go.AX.Aaj:=Bgb @Ah8 N
def Csb (N:Nat):List (Nat×Acp):=[(11,Aaa Aij (A5i N N)),(35,Aaa Ail (A6a N N))]
def Cd4 (N:Nat):List (Nat×Go.AX.Aaj):=[(62,Box N),(49,Blp N),(51,Blr N)]
def Brk:Code:=Tryz.f52.body.getD .skip
def Bgc:Aac:=⟨Bn2,[]⟩
def A0z:Aac:=⟨[(0,.one (.ptr 32))],[(32,.cells 77 [(.val .str),(.val z3),(.val z1),(.val z4),(.val z6),(.mp 33)]),(33,.fmap 75 .i64 [(3:Int),(4:Int),(5:Int),(13:Int),(38:Int),(39:Int),(1:Int),(6:Int),(7:Int),(8:Int),(21:Int),(22:Int),(23:Int),(24:Int),(25:Int),(26:Int),(27:Int),(28:Int),(29:Int),(30:Int),(31:Int),(32:Int),(33:Int),(34:Int),(35:Int),(36:Int),(37:Int),(9:Int),(10:Int),(11:Int),(2:Int),(12:Int),(14:Int),(15:Int)] [(.fn 91),(.fn 91),(.fn 91),(.fn 91),(.fn 91),(.fn 91),(.fnp 92 [34]),(.fnp 92 [34]),(.fnp 92 [34]),(.fnp 92 [34]),(.fnp 92 [34]),(.fnp 92 [34]),(.fnp 92 [34]),(.fnp 92 [34]),(.fnp 92 [34]),(.fnp 92 [34]),(.fnp 92 [34]),(.fnp 92 [34]),(.fnp 92 [34]),(.fnp 92 [34]),(.fnp 92 [34]),(.fnp 92 [34]),(.fnp 92 [34]),(.fnp 92 [34]),(.fnp 92 [34]),(.fnp 92 [34]),(.fnp 92 [34]),(.fnp 94 [34]),(.fnp 94 [34]),(.fnp 94 [34]),(.fnp 96 [35]),(.fn 97),(.fnp 98 [34]),(.fnp 99 [34])]),(34,.cells 72 [(.ptr 32)]),(35,.cells 74 [(.fnp 92 [34])])]⟩
abbrev Cd5 (R:Type):=(List UInt8)->d3->d1->d2->d4->((List UInt8)->d3->d1->d2->d4->Option R)->Option R
abbrev Ay8:={R:Type}→Nat→Cd5 R
def Aiw:Ay8:=fun {R} N a b c d e f=>f a b c d e
def Cd6 (N:Nat):Abn Bgc [A0z]:=fun R x C=>Aiw N x.1.1.1 x.1.1.2.1 x.1.1.2.2.1 x.1.1.2.2.2.1 x.1.1.2.2.2.2.1 (fun y0 y1 y2 y3 y4=>C.1 (((),()),((y0,y1,y2,y3,y4,(),()),((),(),(),(),(),(),(),(),(),(),(),(),(),(),(),(),(),(),(),(),(),(),(),(),(),(),(),(),(),(),(),(),(),(),()),((),()),((),()),())))
def Bgd (Aiw:Ay8) (N:Nat):Go.AX.Aaj:=Acr [true] [] false 1 0 Bgc [A0z] (fun R x C=>Aiw N x.1.1.1 x.1.1.2.1 x.1.1.2.2.1 x.1.1.2.2.2.1 x.1.1.2.2.2.2.1 (fun y0 y1 y2 y3 y4=>C.1 (((),()),((y0,y1,y2,y3,y4,(),()),((),(),(),(),(),(),(),(),(),(),(),(),(),(),(),(),(),(),(),(),(),(),(),(),(),(),(),(),(),(),(),(),(),(),()),((),()),((),()),()))))
def Brl (N:Nat):Go.AX.Aaj:=Bgd @Aiw N
def Cd7 (N:Nat):List (Nat×Acp):=[]
def Brm (N:Nat):List (Nat×Go.AX.Aaj):=[]
def Blt:Code:=Tryz.f91.body.getD .skip
def A8g:Aac:=⟨Ci0,[]⟩
def Au1:Aac:=⟨Ah6,[]⟩
abbrev B4f (R:Type):=Int->Int->Int->Int->Int->(Bool->Option R)->Option R
abbrev At3:={R:Type}→Nat→B4f R
def Ad5:At3:=fun {R} N e b c d f a=>if ((b==0)=true) then (if ((c==0)=true) then (a (d==0)) else a false) else a false
def B4g (N:Nat):Abn A8g [Au1]:=fun R x C=>Ad5 N x.1.1.1 x.1.1.2.1 x.1.1.2.2.1 x.1.1.2.2.2.1 x.1.1.2.2.2.2.1 (fun y0=>C.1 ((y0,()),(())))
def A8h (Ad5:At3) (N:Nat):Go.AX.Aaj:=Acr [true] [] false 1 0 A8g [Au1] (fun R x C=>Ad5 N x.1.1.1 x.1.1.2.1 x.1.1.2.2.1 x.1.1.2.2.2.1 x.1.1.2.2.2.2.1 (fun y0=>C.1 ((y0,()),(()))))
def Blu (N:Nat):Go.AX.Aaj:=A8h @Ad5 N
def B4h (N:Nat):List (Nat×Acp):=[]
def Blv (N:Nat):List (Nat×Go.AX.Aaj):=[]
def Blw:Code:=Tryz.f92.body.getD .skip
def Baf:Code:=Tryz.f93.body.getD .skip
def Ald:Code:=Tryz.f66.body.getD .skip
def Akv:Aac:=⟨[A5e,wq5,Bn1,(34,.one (.val .bool))],A19⟩
def A3n:Aac:=⟨Cim,[]⟩
def A3o:Aac:=⟨[],[]⟩
def Blx:Ac4:=.cons .ret A3n (.cons .normal A3o (.nil))
abbrev B4i (R:Type):=Int->Int->Bool->(List UInt8)->d3->d1->d2->d4->(Bool->Option R)->(Option R)->Option R
abbrev Anh:={R:Type}→Nat→B4i R
def Ad6:Anh:=fun {R} N a c d h e i f j b g=>if (d=true) then (if ((decide (a≥0))=true) then (b (decide (a<(len e)))) else b false) else if ((c==7)=true) then (if ((decide (a≥1))=true) then (b (decide (a≤(len f)))) else b false) else g
def At4 (Ad6:Anh) (N:Nat):Aas Akv:=fun R x K=>Ad6 N x.1.1 x.1.2.2.1 x.1.2.2.2.1 x.2.1.1 x.2.1.2.1 x.2.1.2.2.1 x.2.1.2.2.2.1 x.2.1.2.2.2.2.1 (fun y0=>K .ret (Aab A3n ((y0,()),(())))) (K .normal (Aab A3o ((()),(()))))
def Bly (N:Nat):Aas Akv:=At4 @Ad6 N
def Akw:Aac:=⟨[A5e,wq5,Bn1,(25,.one (.val .bool))],A19⟩
def A3p:Aac:=⟨Cim,[]⟩
def A3q:Aac:=⟨[],[]⟩
def Blz:Ac4:=.cons .ret A3p (.cons .normal A3q (.nil))
abbrev B4j (R:Type):=Int->Int->Bool->(List UInt8)->d3->d1->d2->d4->(Bool->Option R)->(Option R)->Option R
abbrev Alz:={R:Type}→Nat→B4j R
def A8i (Ad6:Anh):Alz:=fun {R} N b a j d e f g h c i=>if (j=true) then (if ((decide (b≥0))=true) then (c (decide (b<200))) else c false) else if ((a==3)=true) then (Ad6 N b a (a==3) d e f g h (fun l=>c l) i) else Ad6 N b a (a==6) d e f g h (fun m=>c m) i
def Aeh:Alz:=@A8i @Ad6
def At5 (Aeh:Alz) (N:Nat):Aas Akw:=fun R x K=>Aeh N x.1.1 x.1.2.2.1 x.1.2.2.2.1 x.2.1.1 x.2.1.2.1 x.2.1.2.2.1 x.2.1.2.2.2.1 x.2.1.2.2.2.2.1 (fun y0=>K .ret (Aab A3p ((y0,()),(())))) (K .normal (Aab A3q ((()),(()))))
def Bl0 (N:Nat):Aas Akw:=At5 @Aeh N
def Akx:Aac:=⟨[A5e,wq5,Bn1,(16,.one (.val .bool))],A19⟩
def A3r:Aac:=⟨Cim,[]⟩
def A3s:Aac:=⟨[],[]⟩
def Bl1:Ac4:=.cons .ret A3r (.cons .normal A3s (.nil))
abbrev B4k (R:Type):=Int->Int->Bool->(List UInt8)->d3->d1->d2->d4->(Bool->Option R)->(Option R)->Option R
abbrev Al0:={R:Type}→Nat→B4k R
def A8j (Aeh:Alz):Al0:=fun {R} N b a j d e f g h c i=>if (j=true) then (if ((decide (b≥0))=true) then (c (decide (b≤4000))) else c false) else if ((a==2)=true) then (Aeh N b a (a==2) d e f g h (fun l=>c l) i) else Aeh N b a (a==5) d e f g h (fun m=>c m) i
def Aei:Al0:=@A8j @Aeh
def At6 (Aei:Al0) (N:Nat):Aas Akx:=fun R x K=>Aei N x.1.1 x.1.2.2.1 x.1.2.2.2.1 x.2.1.1 x.2.1.2.1 x.2.1.2.2.1 x.2.1.2.2.2.1 x.2.1.2.2.2.2.1 (fun y0=>K .ret (Aab A3r ((y0,()),(())))) (K .normal (Aab A3s ((()),(()))))
def Bl2 (N:Nat):Aas Akx:=At6 @Aei N
def Bkn:Aac:=⟨[B36,Ama,A5e],[]⟩
def A2g:Aac:=⟨Ah6,[]⟩
abbrev Cfm (R:Type):=(List UInt8)->d3->d1->d2->d4->Int->Int->(Bool->Option R)->Option R
abbrev A10:={R:Type}→Nat→Cfm R
def Bko (Aei:Al0):A10:=fun {R} N d e f g h a c b=>if ((a==0)=true) then (if ((decide (c≥(-2147483648)))=true) then (b (decide (c≤2147483647))) else b false) else if ((a==1)=true) then (Aei N c a (a==1) d e f g h (fun i=>b i) (b false)) else Aei N c a (a==4) d e f g h (fun j=>b j) (b false)
def Al1:A10:=@Bko @Aei
def Cs1 (N:Nat):Abn Bkn [A2g]:=fun R x C=>Al1 N x.1.1.1 x.1.1.2.1 x.1.1.2.2.1 x.1.1.2.2.2.1 x.1.1.2.2.2.2.1 x.1.2.1 x.1.2.2.1 (fun y0=>C.1 ((y0,()),(())))
def Bv1 (Al1:A10) (N:Nat):Go.AX.Aaj:=Acr [true,true,true] [] false 3 0 Bkn [A2g] (fun R x C=>Al1 N x.1.1.1 x.1.1.2.1 x.1.1.2.2.1 x.1.1.2.2.2.1 x.1.1.2.2.2.2.1 x.1.2.1 x.1.2.2.1 (fun y0=>C.1 ((y0,()),(()))))
def Bv2 (N:Nat):Go.AX.Aaj:=Bv1 @Al1 N
def Cs2 (N:Nat):List (Nat×Acp):=[(24,Aaa Akv (Bly N)),(18,Aaa Akw (Bl0 N)),(12,Aaa Akx (Bl2 N))]
def Cfn (N:Nat):List (Nat×Go.AX.Aaj):=[]
def Ay9:Aac:=⟨[wq1,(1,.agg Cbq)],Cbr⟩
def Apc:Aac:=⟨Ah6,Cbr⟩
abbrev Brn (R:Type):=Int->Int->Int->Int->Int->(List UInt8)->d3->d1->d2->d4->(Bool->(List UInt8)->d3->d1->d2->d4->Option R)->Option R
abbrev An8:={R:Type}→Nat→Brn R
def Aza (Al1:A10):An8:=fun {R} N j f g l m a b c d e h=>Al1 N a b c d e f g fun i=>h i a b c d e
def Agc:An8:=@Aza @Al1
def Ck4 (N:Nat):Abn Ay9 [Apc]:=fun R x C=>Agc N x.1.2.1.1 x.1.2.1.2.1 x.1.2.1.2.2.1 x.1.2.1.2.2.2.1 x.1.2.1.2.2.2.2.1 x.2.1.1 x.2.1.2.1 x.2.1.2.2.1 x.2.1.2.2.2.1 x.2.1.2.2.2.2.1 (fun y0 y1 y2 y3 y4 y5=>C.1 ((y0,()),((y1,y2,y3,y4,y5,(),()),((),(),(),(),(),(),(),(),(),(),(),(),(),(),(),(),(),(),(),(),(),(),(),(),(),(),(),(),(),(),(),(),(),(),()),((),()),((),()),())))
def Bag (Agc:An8) (N:Nat):Go.AX.Aaj:=Acr [false,true] [] false 2 4 Ay9 [Apc] (fun R x C=>Agc N x.1.2.1.1 x.1.2.1.2.1 x.1.2.1.2.2.1 x.1.2.1.2.2.2.1 x.1.2.1.2.2.2.2.1 x.2.1.1 x.2.1.2.1 x.2.1.2.2.1 x.2.1.2.2.2.1 x.2.1.2.2.2.2.1 (fun y0 y1 y2 y3 y4 y5=>C.1 ((y0,()),((y1,y2,y3,y4,y5,(),()),((),(),(),(),(),(),(),(),(),(),(),(),(),(),(),(),(),(),(),(),(),(),(),(),(),(),(),(),(),(),(),(),(),(),()),((),()),((),()),()))))
def Bah (N:Nat):Go.AX.Aaj:=Bag @Agc N
def Ck5 (N:Nat):List (Nat×Acp):=[]
def Bro (N:Nat):List (Nat×Go.AX.Aaj):=[(66,Bv2 N)]
def A8k:Aac:=⟨B01,Bim⟩
def Au2:Aac:=⟨Ah6,Bim⟩
abbrev B4l (R:Type):=Int->Int->Int->Int->Int->(List UInt8)->d3->d1->d2->d4->(Bool->(List UInt8)->d3->d1->d2->d4->Option R)->Option R
abbrev Al2:={R:Type}→Nat→B4l R
def A8l (Agc:An8):Al2:=fun {R} N h i j a l m n o p q b=>Agc N h i j a l m n o p q fun r c d e f g=>if (r=true) then (b (a==0) c d e f g) else b false c d e f g
def Aa2:Al2:=@A8l @Agc
def Cpi (N:Nat):Abn A8k [Au2]:=fun R x C=>Aa2 N x.1.1.1 x.1.1.2.1 x.1.1.2.2.1 x.1.1.2.2.2.1 x.1.1.2.2.2.2.1 x.2.2.1.1 x.2.2.1.2.1 x.2.2.1.2.2.1 x.2.2.1.2.2.2.1 x.2.2.1.2.2.2.2.1 (fun y0 y1 y2 y3 y4 y5=>C.1 ((y0,()),(((),()),(y1,y2,y3,y4,y5,(),()),((),(),(),(),(),(),(),(),(),(),(),(),(),(),(),(),(),(),(),(),(),(),(),(),(),(),(),(),(),(),(),(),(),(),()),((),()),())))
def A00 (Aa2:Al2) (N:Nat):Go.AX.Aaj:=Acr [true] [] false 2 4 A8k [Au2] (fun R x C=>Aa2 N x.1.1.1 x.1.1.2.1 x.1.1.2.2.1 x.1.1.2.2.2.1 x.1.1.2.2.2.2.1 x.2.2.1.1 x.2.2.1.2.1 x.2.2.1.2.2.1 x.2.2.1.2.2.2.1 x.2.2.1.2.2.2.2.1 (fun y0 y1 y2 y3 y4 y5=>C.1 ((y0,()),(((),()),(y1,y2,y3,y4,y5,(),()),((),(),(),(),(),(),(),(),(),(),(),(),(),(),(),(),(),(),(),(),(),(),(),(),(),(),(),(),(),(),(),(),(),(),()),((),()),()))))
def A8m (N:Nat):Go.AX.Aaj:=A00 @Aa2 N
def Cpj (N:Nat):List (Nat×Acp):=[]
def B4m (N:Nat):List (Nat×Go.AX.Aaj):=[(93,Bah N)]
def Bl3:Code:=Tryz.f94.body.getD .skip
def Bai:Code:=Tryz.f95.body.getD .skip
def Azb:Aac:=⟨[wq1,Ama],Cbr⟩
def Apd:Aac:=⟨Ah6,Cbr⟩
abbrev Brp (R:Type):=Int->(List UInt8)->d3->d1->d2->d4->(Bool->(List UInt8)->d3->d1->d2->d4->Option R)->Option R
abbrev Aip:={R:Type}→Nat→Brp R
def Abj:Aip:=fun {R} N b c d e f a g=>if ((decide (b≥0))=true) then (if ((decide (b<(len a)))=true) then (if (0≤b∧b<len a) then (g ((a.getD b.toNat (0,(0,(0,(0,0))))).1 != 15) c d e f a) else none) else g false c d e f a) else g false c d e f a
def Brq (N:Nat):Abn Azb [Apd]:=fun R x C=>Abj N x.1.2.1 x.2.1.1 x.2.1.2.1 x.2.1.2.2.1 x.2.1.2.2.2.1 x.2.1.2.2.2.2.1 (fun y0 y1 y2 y3 y4 y5=>C.1 ((y0,()),((y1,y2,y3,y4,y5,(),()),((),(),(),(),(),(),(),(),(),(),(),(),(),(),(),(),(),(),(),(),(),(),(),(),(),(),(),(),(),(),(),(),(),(),()),((),()),((),()),())))
def Arv (Abj:Aip) (N:Nat):Go.AX.Aaj:=Acr [false,true] [] false 2 4 Azb [Apd] (fun R x C=>Abj N x.1.2.1 x.2.1.1 x.2.1.2.1 x.2.1.2.2.1 x.2.1.2.2.2.1 x.2.1.2.2.2.2.1 (fun y0 y1 y2 y3 y4 y5=>C.1 ((y0,()),((y1,y2,y3,y4,y5,(),()),((),(),(),(),(),(),(),(),(),(),(),(),(),(),(),(),(),(),(),(),(),(),(),(),(),(),(),(),(),(),(),(),(),(),()),((),()),((),()),()))))
def Arw (N:Nat):Go.AX.Aaj:=Arv @Abj N
def Brr (N:Nat):List (Nat×Acp):=[]
def Baj (N:Nat):List (Nat×Go.AX.Aaj):=[]
def A8n:Aac:=⟨B01,Bim⟩
def Au3:Aac:=⟨Ah6,Bim⟩
abbrev B4n (R:Type):=Int->Int->Int->Int->Int->(List UInt8)->d3->d1->d2->d4->(Bool->(List UInt8)->d3->d1->d2->d4->Option R)->Option R
abbrev Apo:={R:Type}→Nat→B4n R
def A8o (Abj:Aip):Apo:=fun {R} N q g h i r a b c d e f=>if ((g==0)=true) then (if ((i==0)=true) then (Abj N h a b c d e fun j l m n o p=>f j l m n o p) else f false a b c d e) else f false a b c d e
def Ae1:Apo:=@A8o @Abj
def Cpk (N:Nat):Abn A8n [Au3]:=fun R x C=>Ae1 N x.1.1.1 x.1.1.2.1 x.1.1.2.2.1 x.1.1.2.2.2.1 x.1.1.2.2.2.2.1 x.2.2.1.1 x.2.2.1.2.1 x.2.2.1.2.2.1 x.2.2.1.2.2.2.1 x.2.2.1.2.2.2.2.1 (fun y0 y1 y2 y3 y4 y5=>C.1 ((y0,()),(((),()),(y1,y2,y3,y4,y5,(),()),((),(),(),(),(),(),(),(),(),(),(),(),(),(),(),(),(),(),(),(),(),(),(),(),(),(),(),(),(),(),(),(),(),(),()),((),()),())))
def A8p (Ae1:Apo) (N:Nat):Go.AX.Aaj:=Acr [true] [] false 2 4 A8n [Au3] (fun R x C=>Ae1 N x.1.1.1 x.1.1.2.1 x.1.1.2.2.1 x.1.1.2.2.2.1 x.1.1.2.2.2.2.1 x.2.2.1.1 x.2.2.1.2.1 x.2.2.1.2.2.1 x.2.2.1.2.2.2.1 x.2.2.1.2.2.2.2.1 (fun y0 y1 y2 y3 y4 y5=>C.1 ((y0,()),(((),()),(y1,y2,y3,y4,y5,(),()),((),(),(),(),(),(),(),(),(),(),(),(),(),(),(),(),(),(),(),(),(),(),(),(),(),(),(),(),(),(),(),(),(),(),()),((),()),()))))
def Bl4 (N:Nat):Go.AX.Aaj:=A8p @Ae1 N
def Cpl (N:Nat):List (Nat×Acp):=[]
def B4o (N:Nat):List (Nat×Go.AX.Aaj):=[(95,Arw N)]
def Bl5:Code:=Tryz.f96.body.getD .skip
def A8q:Aac:=⟨B01,[(0,.cells 74 [(.fnp 92 [1])]),(1,.cells 72 [(.ptr 2)]),(2,.cells 77 [(.val .str),(.val z3),(.val z1),(.val z4),(.val z6),(.mp 3)]),(3,.fmap 75 .i64 [(3:Int),(4:Int),(5:Int),(13:Int),(38:Int),(39:Int),(1:Int),(6:Int),(7:Int),(8:Int),(21:Int),(22:Int),(23:Int),(24:Int),(25:Int),(26:Int),(27:Int),(28:Int),(29:Int),(30:Int),(31:Int),(32:Int),(33:Int),(34:Int),(35:Int),(36:Int),(37:Int),(9:Int),(10:Int),(11:Int),(2:Int),(12:Int),(14:Int),(15:Int)] [(.fn 91),(.fn 91),(.fn 91),(.fn 91),(.fn 91),(.fn 91),(.fnp 92 [1]),(.fnp 92 [1]),(.fnp 92 [1]),(.fnp 92 [1]),(.fnp 92 [1]),(.fnp 92 [1]),(.fnp 92 [1]),(.fnp 92 [1]),(.fnp 92 [1]),(.fnp 92 [1]),(.fnp 92 [1]),(.fnp 92 [1]),(.fnp 92 [1]),(.fnp 92 [1]),(.fnp 92 [1]),(.fnp 92 [1]),(.fnp 92 [1]),(.fnp 92 [1]),(.fnp 92 [1]),(.fnp 92 [1]),(.fnp 92 [1]),(.fnp 94 [1]),(.fnp 94 [1]),(.fnp 94 [1]),(.fnp 96 [0]),(.fn 97),(.fnp 98 [1]),(.fnp 99 [1])])]⟩
def Au4:Aac:=⟨Ah6,[(0,.cells 74 [(.fnp 92 [1])]),(1,.cells 72 [(.ptr 2)]),(2,.cells 77 [(.val .str),(.val z3),(.val z1),(.val z4),(.val z6),(.mp 3)]),(3,.fmap 75 .i64 [(3:Int),(4:Int),(5:Int),(13:Int),(38:Int),(39:Int),(1:Int),(6:Int),(7:Int),(8:Int),(21:Int),(22:Int),(23:Int),(24:Int),(25:Int),(26:Int),(27:Int),(28:Int),(29:Int),(30:Int),(31:Int),(32:Int),(33:Int),(34:Int),(35:Int),(36:Int),(37:Int),(9:Int),(10:Int),(11:Int),(2:Int),(12:Int),(14:Int),(15:Int)] [(.fn 91),(.fn 91),(.fn 91),(.fn 91),(.fn 91),(.fn 91),(.fnp 92 [1]),(.fnp 92 [1]),(.fnp 92 [1]),(.fnp 92 [1]),(.fnp 92 [1]),(.fnp 92 [1]),(.fnp 92 [1]),(.fnp 92 [1]),(.fnp 92 [1]),(.fnp 92 [1]),(.fnp 92 [1]),(.fnp 92 [1]),(.fnp 92 [1]),(.fnp 92 [1]),(.fnp 92 [1]),(.fnp 92 [1]),(.fnp 92 [1]),(.fnp 92 [1]),(.fnp 92 [1]),(.fnp 92 [1]),(.fnp 92 [1]),(.fnp 94 [1]),(.fnp 94 [1]),(.fnp 94 [1]),(.fnp 96 [0]),(.fn 97),(.fnp 98 [1]),(.fnp 99 [1])])]⟩
abbrev B4p (R:Type):=Int->Int->Int->Int->Int->(List UInt8)->d3->d1->d2->d4->(Bool->(List UInt8)->d3->d1->d2->d4->Option R)->Option R
abbrev App:={R:Type}→Nat→B4p R
def A8r (Aa2:Al2):App:=fun {R} N h a i j l m n o p q b=>Aa2 N h a i j l m n o p q fun r c d e f g=>if (r=true) then (if ((decide (a≥1))=true) then (b (decide (a≤3)) c d e f g) else b false c d e f g) else b false c d e f g
def Afu:App:=@A8r @Aa2
def Cpm (N:Nat):Abn A8q [Au4]:=fun R x C=>Afu N x.1.1.1 x.1.1.2.1 x.1.1.2.2.1 x.1.1.2.2.2.1 x.1.1.2.2.2.2.1 x.2.2.2.1.1 x.2.2.2.1.2.1 x.2.2.2.1.2.2.1 x.2.2.2.1.2.2.2.1 x.2.2.2.1.2.2.2.2.1 (fun y0 y1 y2 y3 y4 y5=>C.1 ((y0,()),(((),()),((),()),(y1,y2,y3,y4,y5,(),()),((),(),(),(),(),(),(),(),(),(),(),(),(),(),(),(),(),(),(),(),(),(),(),(),(),(),(),(),(),(),(),(),(),(),()),())))
def A8s (Afu:App) (N:Nat):Go.AX.Aaj:=Acr [true] [] false 2 4 A8q [Au4] (fun R x C=>Afu N x.1.1.1 x.1.1.2.1 x.1.1.2.2.1 x.1.1.2.2.2.1 x.1.1.2.2.2.2.1 x.2.2.2.1.1 x.2.2.2.1.2.1 x.2.2.2.1.2.2.1 x.2.2.2.1.2.2.2.1 x.2.2.2.1.2.2.2.2.1 (fun y0 y1 y2 y3 y4 y5=>C.1 ((y0,()),(((),()),((),()),(y1,y2,y3,y4,y5,(),()),((),(),(),(),(),(),(),(),(),(),(),(),(),(),(),(),(),(),(),(),(),(),(),(),(),(),(),(),(),(),(),(),(),(),()),()))))
def Bl6 (N:Nat):Go.AX.Aaj:=A8s @Afu N
def Cpn (N:Nat):List (Nat×Acp):=[]
def B4q (N:Nat):List (Nat×Go.AX.Aaj):=[(92,A8m N)]
def Bl7:Code:=Tryz.f97.body.getD .skip
def A8t:Aac:=⟨Ci0,[]⟩
def Au5:Aac:=⟨Ah6,[]⟩
abbrev B4r (R:Type):=Int->Int->Int->Int->Int->(Bool->Option R)->Option R
abbrev At7:={R:Type}→Nat→B4r R
def Afv:At7:=fun {R} N e c b d f a=>if ((c==0)=true) then (if ((d==0)=true) then (if ((decide (b≥0))=true) then (a (decide (b≤4000))) else a false) else a false) else a false
def B4s (N:Nat):Abn A8t [Au5]:=fun R x C=>Afv N x.1.1.1 x.1.1.2.1 x.1.1.2.2.1 x.1.1.2.2.2.1 x.1.1.2.2.2.2.1 (fun y0=>C.1 ((y0,()),(())))
def A8u (Afv:At7) (N:Nat):Go.AX.Aaj:=Acr [true] [] false 1 0 A8t [Au5] (fun R x C=>Afv N x.1.1.1 x.1.1.2.1 x.1.1.2.2.1 x.1.1.2.2.2.1 x.1.1.2.2.2.2.1 (fun y0=>C.1 ((y0,()),(()))))
def Bl8 (N:Nat):Go.AX.Aaj:=A8u @Afv N
def B4t (N:Nat):List (Nat×Acp):=[]
def Bl9 (N:Nat):List (Nat×Go.AX.Aaj):=[]
def Bma:Code:=Tryz.f98.body.getD .skip
def A8v:Aac:=⟨B01,Bim⟩
def Au6:Aac:=⟨Ah6,Bim⟩
abbrev B4u (R:Type):=Int->Int->Int->Int->Int->(List UInt8)->d3->d1->d2->d4->(Bool->(List UInt8)->d3->d1->d2->d4->Option R)->Option R
abbrev Apq:={R:Type}→Nat→B4u R
def A8w (Abj:Aip):Apq:=fun {R} N q h g i r a b c d e f=>if ((h==0)=true) then (if ((decide (g≥0))=true) then (if ((decide (g≤1000))=true) then (Abj N i a b c d e fun j l m n o p=>f j l m n o p) else f false a b c d e) else f false a b c d e) else f false a b c d e
def Afw:Apq:=@A8w @Abj
def Cpo (N:Nat):Abn A8v [Au6]:=fun R x C=>Afw N x.1.1.1 x.1.1.2.1 x.1.1.2.2.1 x.1.1.2.2.2.1 x.1.1.2.2.2.2.1 x.2.2.1.1 x.2.2.1.2.1 x.2.2.1.2.2.1 x.2.2.1.2.2.2.1 x.2.2.1.2.2.2.2.1 (fun y0 y1 y2 y3 y4 y5=>C.1 ((y0,()),(((),()),(y1,y2,y3,y4,y5,(),()),((),(),(),(),(),(),(),(),(),(),(),(),(),(),(),(),(),(),(),(),(),(),(),(),(),(),(),(),(),(),(),(),(),(),()),((),()),())))
def A8x (Afw:Apq) (N:Nat):Go.AX.Aaj:=Acr [true] [] false 2 4 A8v [Au6] (fun R x C=>Afw N x.1.1.1 x.1.1.2.1 x.1.1.2.2.1 x.1.1.2.2.2.1 x.1.1.2.2.2.2.1 x.2.2.1.1 x.2.2.1.2.1 x.2.2.1.2.2.1 x.2.2.1.2.2.2.1 x.2.2.1.2.2.2.2.1 (fun y0 y1 y2 y3 y4 y5=>C.1 ((y0,()),(((),()),(y1,y2,y3,y4,y5,(),()),((),(),(),(),(),(),(),(),(),(),(),(),(),(),(),(),(),(),(),(),(),(),(),(),(),(),(),(),(),(),(),(),(),(),()),((),()),()))))
def Bmb (N:Nat):Go.AX.Aaj:=A8x @Afw N
def Cpp (N:Nat):List (Nat×Acp):=[]
def B4v (N:Nat):List (Nat×Go.AX.Aaj):=[(95,Arw N)]
def Bmc:Code:=Tryz.f99.body.getD .skip
def A8y:Aac:=⟨B01,Bim⟩
def Au7:Aac:=⟨Ah6,Bim⟩
abbrev B4w (R:Type):=Int->Int->Int->Int->Int->(List UInt8)->d3->d1->d2->d4->(Bool->(List UInt8)->d3->d1->d2->d4->Option R)->Option R
abbrev Apr:={R:Type}→Nat→B4w R
def A8z (Abj:Aip):Apr:=fun {R} N q h g i r a b c d e f=>if ((h==0)=true) then (if ((decide (g≥(-2147483648)))=true) then (if ((decide (g≤2147483647))=true) then (Abj N i a b c d e fun j l m n o p=>f j l m n o p) else f false a b c d e) else f false a b c d e) else f false a b c d e
def Afx:Apr:=@A8z @Abj
def Cpq (N:Nat):Abn A8y [Au7]:=fun R x C=>Afx N x.1.1.1 x.1.1.2.1 x.1.1.2.2.1 x.1.1.2.2.2.1 x.1.1.2.2.2.2.1 x.2.2.1.1 x.2.2.1.2.1 x.2.2.1.2.2.1 x.2.2.1.2.2.2.1 x.2.2.1.2.2.2.2.1 (fun y0 y1 y2 y3 y4 y5=>C.1 ((y0,()),(((),()),(y1,y2,y3,y4,y5,(),()),((),(),(),(),(),(),(),(),(),(),(),(),(),(),(),(),(),(),(),(),(),(),(),(),(),(),(),(),(),(),(),(),(),(),()),((),()),())))
def A80 (Afx:Apr) (N:Nat):Go.AX.Aaj:=Acr [true] [] false 2 4 A8y [Au7] (fun R x C=>Afx N x.1.1.1 x.1.1.2.1 x.1.1.2.2.1 x.1.1.2.2.2.1 x.1.1.2.2.2.2.1 x.2.2.1.1 x.2.2.1.2.1 x.2.2.1.2.2.1 x.2.2.1.2.2.2.1 x.2.2.1.2.2.2.2.1 (fun y0 y1 y2 y3 y4 y5=>C.1 ((y0,()),(((),()),(y1,y2,y3,y4,y5,(),()),((),(),(),(),(),(),(),(),(),(),(),(),(),(),(),(),(),(),(),(),(),(),(),(),(),(),(),(),(),(),(),(),(),(),()),((),()),()))))
def Bmd (N:Nat):Go.AX.Aaj:=A80 @Afx N
def Cpr (N:Nat):List (Nat×Acp):=[]
def B4x (N:Nat):List (Nat×Go.AX.Aaj):=[(95,Arw N)]
def Ajw:Aac:=⟨[wq4,Cdr,(5,.one (.ptr 33)),(20,.one (.val z6)),(21,.one wq0),(22,.one wq0)],[A9t,(33,.cells 77 [(.val .str),(.val z3),(.val z1),(.val z4),(.val z6),(.mp 34)]),(34,.fmap 75 .i64 [(3:Int),(4:Int),(5:Int),(13:Int),(38:Int),(39:Int),(1:Int),(6:Int),(7:Int),(8:Int),(21:Int),(22:Int),(23:Int),(24:Int),(25:Int),(26:Int),(27:Int),(28:Int),(29:Int),(30:Int),(31:Int),(32:Int),(33:Int),(34:Int),(35:Int),(36:Int),(37:Int),(9:Int),(10:Int),(11:Int),(2:Int),(12:Int),(14:Int),(15:Int)] [(.fn 91),(.fn 91),(.fn 91),(.fn 91),(.fn 91),(.fn 91),(.fnp 92 [35]),(.fnp 92 [35]),(.fnp 92 [35]),(.fnp 92 [35]),(.fnp 92 [35]),(.fnp 92 [35]),(.fnp 92 [35]),(.fnp 92 [35]),(.fnp 92 [35]),(.fnp 92 [35]),(.fnp 92 [35]),(.fnp 92 [35]),(.fnp 92 [35]),(.fnp 92 [35]),(.fnp 92 [35]),(.fnp 92 [35]),(.fnp 92 [35]),(.fnp 92 [35]),(.fnp 92 [35]),(.fnp 92 [35]),(.fnp 92 [35]),(.fnp 94 [35]),(.fnp 94 [35]),(.fnp 94 [35]),(.fnp 96 [36]),(.fn 97),(.fnp 98 [35]),(.fnp 99 [35])]),(35,.cells 72 [(.ptr 33)]),(36,.cells 74 [(.fnp 92 [35])])]⟩
def Atb:Aac:=⟨Bbm,[]⟩
def Atc:Aac:=⟨[wq4,Cdr],A19⟩
def Bi6:Ac4:=.cons .ret Atb (.cons (.exit 0) Atc (.nil))
abbrev A6b (R:Type):=Bool->d4->Int->Int->(List UInt8)->d3->d1->d2->d4->(List UInt8)->d3->d1->d2->d4->(Int->Option R)->(Bool->(List UInt8)->d3->d1->d2->d4->Option R)->Option R
abbrev A6c (R:Type):=Bool->d4->Int->Int->(List UInt8)->d3->d1->d2->d4->(List UInt8)->d3->d1->d2->d4->Option R
abbrev Axx:={R:Type}→Nat→Nat→A6b R
def Arx (Ad5:At3) (Aa2:Al2) (Ae1:Apo) (Afu:App) (Afv:At7) (Afw:Apq) (Afx:Apr) {R:Type} (N:Nat) (rc:A6c R):A6b R:=fun f e g d h i j l m n o p q r a v=>if ((decide (d<g))=true) then (if (0≤d∧d<len e) then (let b:=(e.getD d.toNat (0,(0,(0,(0,0))))).1;let s:=(e.getD d.toNat (0,(0,(0,(0,0))))).2.1;let t:=(e.getD d.toNat (0,(0,(0,(0,0))))).2.2.1;let u:=(e.getD d.toNat (0,(0,(0,(0,0))))).2.2.2.1;let c:=(e.getD d.toNat (0,(0,(0,(0,0))))).2.2.2.2;if (b=3) then (if ((c != 0)=true) then (a 60) else Ad5 N b s t u c fun w=>if ((!w)=true) then (a 60) else rc f e g (wi (d+1)) h i j l m n o p q r) else if (b=4) then (if ((c != 0)=true) then (a 60) else Ad5 N b s t u c fun x=>if ((!x)=true) then (a 60) else rc f e g (wi (d+1)) h i j l m n o p q r) else if (b=5) then (if ((c != 0)=true) then (a 60) else Ad5 N b s t u c fun y=>if ((!y)=true) then (a 60) else rc f e g (wi (d+1)) h i j l m n o p q r) else if (b=13) then (if ((c != 0)=true) then (a 60) else Ad5 N b s t u c fun z=>if ((!z)=true) then (a 60) else rc f e g (wi (d+1)) h i j l m n o p q r) else if (b=38) then (if ((c != 0)=true) then (a 60) else Ad5 N b s t u c fun A=>if ((!A)=true) then (a 60) else rc f e g (wi (d+1)) h i j l m n o p q r) else if (b=39) then (if ((c != 0)=true) then (a 60) else Ad5 N b s t u c fun B=>if ((!B)=true) then (a 60) else rc f e g (wi (d+1)) h i j l m n o p q r) else if (b=1) then (if ((c != 0)=true) then (a 60) else Aa2 N b s t u c n o p q r fun C D E F G H=>if ((!C)=true) then (a 60) else rc f e g (wi (d+1)) h i j l m D E F G H) else if (b=6) then (if ((c != 0)=true) then (a 60) else Aa2 N b s t u c n o p q r fun I J L M O P=>if ((!I)=true) then (a 60) else rc f e g (wi (d+1)) h i j l m J L M O P) else if (b=7) then (if ((c != 0)=true) then (a 60) else Aa2 N b s t u c n o p q r fun Q S T U V W=>if ((!Q)=true) then (a 60) else rc f e g (wi (d+1)) h i j l m S T U V W) else if (b=8) then (if ((c != 0)=true) then (a 60) else Aa2 N b s t u c n o p q r fun X Y Z aa ab ac=>if ((!X)=true) then (a 60) else rc f e g (wi (d+1)) h i j l m Y Z aa ab ac) else if (b=21) then (if ((c != 0)=true) then (a 60) else Aa2 N b s t u c n o p q r fun ad ae af ag ah ai=>if ((!ad)=true) then (a 60) else rc f e g (wi (d+1)) h i j l m ae af ag ah ai) else if (b=22) then (if ((c != 0)=true) then (a 60) else Aa2 N b s t u c n o p q r fun aj ak al am an ao=>if ((!aj)=true) then (a 60) else rc f e g (wi (d+1)) h i j l m ak al am an ao) else if (b=23) then (if ((c != 0)=true) then (a 60) else Aa2 N b s t u c n o p q r fun ap aq ar au av aw=>if ((!ap)=true) then (a 60) else rc f e g (wi (d+1)) h i j l m aq ar au av aw) else if (b=24) then (if ((c != 0)=true) then (a 60) else Aa2 N b s t u c n o p q r fun ax ay az ba bb bc=>if ((!ax)=true) then (a 60) else rc f e g (wi (d+1)) h i j l m ay az ba bb bc) else if (b=25) then (if ((c != 0)=true) then (a 60) else Aa2 N b s t u c n o p q r fun bd be bf bg bh bi=>if ((!bd)=true) then (a 60) else rc f e g (wi (d+1)) h i j l m be bf bg bh bi) else if (b=26) then (if ((c != 0)=true) then (a 60) else Aa2 N b s t u c n o p q r fun bj bk bl bm bn bo=>if ((!bj)=true) then (a 60) else rc f e g (wi (d+1)) h i j l m bk bl bm bn bo) else if (b=27) then (if ((c != 0)=true) then (a 60) else Aa2 N b s t u c n o p q r fun bp bq br bs bt bu=>if ((!bp)=true) then (a 60) else rc f e g (wi (d+1)) h i j l m bq br bs bt bu) else if (b=28) then (if ((c != 0)=true) then (a 60) else Aa2 N b s t u c n o p q r fun bv bw bx bz ca cb=>if ((!bv)=true) then (a 60) else rc f e g (wi (d+1)) h i j l m bw bx bz ca cb) else if (b=29) then (if ((c != 0)=true) then (a 60) else Aa2 N b s t u c n o p q r fun cc cd ce cf cg ch=>if ((!cc)=true) then (a 60) else rc f e g (wi (d+1)) h i j l m cd ce cf cg ch) else if (b=30) then (if ((c != 0)=true) then (a 60) else Aa2 N b s t u c n o p q r fun ci cj ck cl cm cn=>if ((!ci)=true) then (a 60) else rc f e g (wi (d+1)) h i j l m cj ck cl cm cn) else if (b=31) then (if ((c != 0)=true) then (a 60) else Aa2 N b s t u c n o p q r fun co cp cq cr cs ct=>if ((!co)=true) then (a 60) else rc f e g (wi (d+1)) h i j l m cp cq cr cs ct) else if (b=32) then (if ((c != 0)=true) then (a 60) else Aa2 N b s t u c n o p q r fun cu cv cw cx cy cz=>if ((!cu)=true) then (a 60) else rc f e g (wi (d+1)) h i j l m cv cw cx cy cz) else if (b=33) then (if ((c != 0)=true) then (a 60) else Aa2 N b s t u c n o p q r fun da db dc dd de df=>if ((!da)=true) then (a 60) else rc f e g (wi (d+1)) h i j l m db dc dd de df) else if (b=34) then (if ((c != 0)=true) then (a 60) else Aa2 N b s t u c n o p q r fun dg dh di dj dk dl=>if ((!dg)=true) then (a 60) else rc f e g (wi (d+1)) h i j l m dh di dj dk dl) else if (b=35) then (if ((c != 0)=true) then (a 60) else Aa2 N b s t u c n o p q r fun dm dn dp dq dr ds=>if ((!dm)=true) then (a 60) else rc f e g (wi (d+1)) h i j l m dn dp dq dr ds) else if (b=36) then (if ((c != 0)=true) then (a 60) else Aa2 N b s t u c n o p q r fun dt du dv dw dx dy=>if ((!dt)=true) then (a 60) else rc f e g (wi (d+1)) h i j l m du dv dw dx dy) else if (b=37) then (if ((c != 0)=true) then (a 60) else Aa2 N b s t u c n o p q r fun dz ea eb ec ed ee=>if ((!dz)=true) then (a 60) else rc f e g (wi (d+1)) h i j l m ea eb ec ed ee) else if (b=9) then (if ((c != 0)=true) then (a 60) else Ae1 N b s t u c n o p q r fun ef eg eh ei ej ek=>if ((!ef)=true) then (a 60) else rc f e g (wi (d+1)) h i j l m eg eh ei ej ek) else if (b=10) then (if ((c != 0)=true) then (a 60) else Ae1 N b s t u c n o p q r fun el em en eo ep eq=>if ((!el)=true) then (a 60) else rc f e g (wi (d+1)) h i j l m em en eo ep eq) else if (b=11) then (if ((c != 0)=true) then (a 60) else Ae1 N b s t u c n o p q r fun er es et eu ev ew=>if ((!er)=true) then (a 60) else rc f e g (wi (d+1)) h i j l m es et eu ev ew) else if (b=2) then (if ((c != 0)=true) then (a 60) else Afu N b s t u c n o p q r fun ex ey ez fa fb fc=>if ((!ex)=true) then (a 60) else rc f e g (wi (d+1)) h i j l m ey ez fa fb fc) else if (b=12) then (if ((c != 0)=true) then (a 60) else Afv N b s t u c fun fd=>if ((!fd)=true) then (a 60) else rc f e g (wi (d+1)) h i j l m n o p q r) else if (b=14) then (if ((c != 0)=true) then (a 60) else Afw N b s t u c n o p q r fun fe ff fg fh fi fj=>if ((!fe)=true) then (a 60) else rc f e g (wi (d+1)) h i j l m ff fg fh fi fj) else if (b=15) then (if ((c != 0)=true) then (a 60) else Afx N b s t u c n o p q r fun fk fl fm fn fo fp=>if ((!fk)=true) then (a 60) else rc f e g (wi (d+1)) h i j l m fl fm fn fo fp) else a 60) else none) else v f h i j l m
def Aev {R:Type} (N:Nat):Nat→A6b R
 | 0=>fun _ _ _ _ _ _ _ _ _ _ _ _ _ _ _ _=>none
 | k+1=>fun a b c d e f g h i j l m n o p q=>Arx @Ad5 @Aa2 @Ae1 @Afu @Afv @Afw @Afx N (fun a b c d e f g h i j l m n o=>Aev N k a b c d e f g h i j l m n o p q) a b c d e f g h i j l m n o p q
def A6d (Aev:Axx) (N k:Nat):Aas Ajw:=fun R x K=>Aev N k x.1.2.1 x.1.2.2.2.1 x.1.2.2.2.2.1 x.1.2.2.2.2.2.1 x.2.1.1 x.2.1.2.1 x.2.1.2.2.1 x.2.1.2.2.2.1 x.2.1.2.2.2.2.1 x.2.2.1.1 x.2.2.1.2.1 x.2.2.1.2.2.1 x.2.2.1.2.2.2.1 x.2.2.1.2.2.2.2.1 (fun y0=>K .ret (Aab Atb ((y0,()),(())))) (fun y0 y1 y2 y3 y4 y5=>K (.exit 0) (Aab Atc (((),y0,()),((y1,y2,y3,y4,y5,()),()))))
def A6e (N k:Nat):Aas Ajw:=A6d @Aev N k
def Agz:Code:=Tryz.f32.body.getD .skip
def Bme:Code:=Tryz.f53.body.getD .skip
def A81:Aac:=⟨Ci0,[]⟩
def Au8:Aac:=⟨A1c,[]⟩
abbrev B4y (R:Type):=Int->Int->Int->Int->Int->(Int->Option R)->Option R
abbrev Aps:={R:Type}→Nat→B4y R
def Afh:Aps:=fun {R} N c d a e f b=>b a
def B4z (N:Nat):Abn A81 [Au8]:=fun R x C=>Afh N x.1.1.1 x.1.1.2.1 x.1.1.2.2.1 x.1.1.2.2.2.1 x.1.1.2.2.2.2.1 (fun y0=>C.1 ((y0,()),(())))
def A01 (Afh:Aps) (N:Nat):Go.AX.Aaj:=Acr [true] [] false 1 0 A81 [Au8] (fun R x C=>Afh N x.1.1.1 x.1.1.2.1 x.1.1.2.2.1 x.1.1.2.2.2.1 x.1.1.2.2.2.2.1 (fun y0=>C.1 ((y0,()),(()))))
def Bmf (N:Nat):Go.AX.Aaj:=A01 @Afh N
def B40 (N:Nat):List (Nat×Acp):=[]
def Bmg (N:Nat):List (Nat×Go.AX.Aaj):=[]
def Agn:Aac:=⟨[Bwv,Ama,A5e,wq3,B32,Cdu,(32,.one wq0),(33,.one wq0)],[]⟩
def Ape:Aac:=⟨Brf,[]⟩
def Apf:Aac:=⟨[Bwv,Ama,A5e,wq3,B32,Cdu],[]⟩
def Bak:Ac4:=.cons .ret Ape (.cons (.exit 3) Apf (.nil))
abbrev Azc (R:Type):=d4->Int->Int->Int->Int->Int->Int->(Bool->Option R)->(d4->Int->Int->Int->Int->Option R)->Option R
abbrev Bal (R:Type):=d4->Int->Int->Int->Int->Int->Int->Option R
abbrev An9:={R:Type}→Nat→Nat→Azc R
def Ary {R:Type} (N:Nat) (rc:Bal R):Azc R:=fun a f c d g h e i j=>if ((decide (e<h))=true) then (let b:=(wi ((wi (d+1))+e));if ((decide (b≥(len a)))=true) then (i false) else if (0≤b∧b<len a) then (if (((a.getD b.toNat (0,(0,(0,(0,0))))).1 != c)=true) then (i false) else rc a f c d g h (wi (e+1))) else none) else j a f c d g
def Acu {R:Type} (N:Nat):Nat→Azc R
 | 0=>fun _ _ _ _ _ _ _ _ _=>none
 | k+1=>fun a b c d e f g h i=>Ary N (fun a b c d e f g=>Acu N k a b c d e f g h i) a b c d e f g h i
def Arz (Acu:An9) (N k:Nat):Aas Agn:=fun R x K=>Acu N k x.1.1 x.1.2.1 x.1.2.2.1 x.1.2.2.2.2.1 x.1.2.2.2.2.2.1 x.1.2.2.2.2.2.2.1 x.1.2.2.2.2.2.2.2.1 (fun y0=>K .ret (Aab Ape ((y0,()),(())))) (fun y0 y1 y2 y3 y4=>K (.exit 3) (Aab Apf ((y0,y1,y2,(),y3,y4,()),(()))))
def Azd (N k:Nat):Aas Agn:=Arz @Acu N k
def Ahe:Aac:=⟨[Bwv,Ama,A5e,wq3,B32],[]⟩
def Aqj:Aac:=⟨Brf,[]⟩
def Aqk:Aac:=⟨[],[]⟩
def Bdr:Ac4:=.cons .ret Aqj (.cons (.exit 0) Aqk (.nil))
abbrev A1g (R:Type):=d4->Int->Int->Int->(Bool->Option R)->(Option R)->Option R
abbrev Bds (R:Type):=d4->Int->Int->Int->Option R
abbrev Ao5:={R:Type}→Nat→Nat→A1g R
def A1h (Afh:Aps) (Acu:An9) {R:Type} (N:Nat) (rc:Bds R):A1g R:=fun b e f a g m=>if ((decide (a<(len b)))=true) then (if (0≤a∧a<len b) then (let h:=(b.getD a.toNat (0,(0,(0,(0,0))))).1;if ((h==e)=true) then (if (0≤a∧a<len b) then (Afh N h ((b.getD a.toNat (0,(0,(0,(0,0))))).2.1) ((b.getD a.toNat (0,(0,(0,(0,0))))).2.2.1) ((b.getD a.toNat (0,(0,(0,(0,0))))).2.2.2.1) ((b.getD a.toNat (0,(0,(0,(0,0))))).2.2.2.2) fun j=>Acu N N b e f a j j 0 (fun n=>g n) fun d l i o p=>let c:=(wi ((wi (o+p))+1));if ((decide (c<(len d)))=true) then (if (0≤c∧c<len d) then (if (((d.getD c.toNat (0,(0,(0,(0,0))))).1==i)=true) then (g false) else rc d l i c) else none) else rc d l i c) else none) else if ((h==f)=true) then (g false) else rc b e f (wi (a+1))) else none) else m
def Ac2 {R:Type} (N:Nat):Nat→A1g R
 | 0=>fun _ _ _ _ _ _=>none
 | k+1=>fun a b c d e f=>A1h @Afh @Acu N (fun a b c d=>Ac2 N k a b c d e f) a b c d e f
def Atd (Ac2:Ao5) (N k:Nat):Aas Ahe:=fun R x K=>Ac2 N k x.1.1 x.1.2.1 x.1.2.2.1 x.1.2.2.2.2.1 (fun y0=>K .ret (Aab Aqj ((y0,()),(())))) (K (.exit 0) (Aab Aqk ((()),(()))))
def A1i (N k:Nat):Aas Ahe:=Atd @Ac2 N k
def A6f:Aac:=⟨[Bwv,Ama,A5e,wq3],[]⟩
def Ate:Aac:=⟨Ah6,[]⟩
abbrev B1c (R:Type):=d4->Int->Int->(Bool->Option R)->Option R
abbrev Aoe:={R:Type}→Nat→B1c R
def A6g (Ac2:Ao5):Aoe:=fun {R} N b c d a=>Ac2 N N b c d 0 (fun e=>a e) (a true)
def Ae4:Aoe:=@A6g @Ac2
def Coa (N:Nat):Abn A6f [Ate]:=fun R x C=>Ae4 N x.1.1 x.1.2.1 x.1.2.2.1 (fun y0=>C.1 ((y0,()),(())))
def A6h (Ae4:Aoe) (N:Nat):Go.AX.Aaj:=Acr [true,true,true,true] [] false 4 0 A6f [Ate] (fun R x C=>Ae4 N x.1.1 x.1.2.1 x.1.2.2.1 (fun y0=>C.1 ((y0,()),(()))))
def Bi7 (N:Nat):Go.AX.Aaj:=A6h @Ae4 N
def Cob (N:Nat):List (Nat×Acp):=[(17,Aaa Agn (Azd N N)),(5,Aaa Ahe (A1i N N))]
def B1d (N:Nat):List (Nat×Go.AX.Aaj):=[(53,Bmf N)]
def Bge:Aac:=⟨Bn2,[]⟩
def A02:Aac:=⟨A1c,[]⟩
abbrev Cd8 (R:Type):=(List UInt8)->d3->d1->d2->d4->(Int->Option R)->Option R
abbrev Aze:={R:Type}→Nat→Cd8 R
def Bgf (Ah8:At2) (Aiw:Ay8) (Aev:Axx) (Ae4:Aoe):Aze:=fun {R} N c d e f g a=>Ah8 N c d e f g c d e f g fun m n h i j l b=>if (m=true) then (a 2) else Aiw N h i j l b fun o p q r s=>Aev N N n b (len b) 0 h i j l b o p q r s (fun t=>a t) fun u x y z A v=>if ((!u)=true) then (a 60) else Ae4 N v 14 15 fun w=>if ((!w)=true) then (a 60) else a 0
def Aky:Aze:=@Bgf @Ah8 @Aiw @Aev @Ae4
def Csc (N:Nat):Abn Bge [A02]:=fun R x C=>Aky N x.1.1.1 x.1.1.2.1 x.1.1.2.2.1 x.1.1.2.2.2.1 x.1.1.2.2.2.2.1 (fun y0=>C.1 ((y0,()),(())))
def Brs (Aky:Aze) (N:Nat):Go.AX.Aaj:=Acr [true] [] false 1 0 Bge [A02] (fun R x C=>Aky N x.1.1.1 x.1.1.2.1 x.1.1.2.2.1 x.1.1.2.2.2.1 x.1.1.2.2.2.2.1 (fun y0=>C.1 ((y0,()),(()))))
def Brt (N:Nat):Go.AX.Aaj:=Brs @Aky N
def Csd (N:Nat):List (Nat×Acp):=[(13,Aaa Ajw (A6e N N))]
def Cd9 (N:Nat):List (Nat×Go.AX.Aaj):=[(27,Brj N),(52,Brl N),(91,Blu N),(92,A8m N),(94,Bl4 N),(96,Bl6 N),(97,Bl8 N),(98,Bmb N),(99,Bmd N),(32,Bi7 N)]
def Ago:Code:=Tryz.f23.body.getD .skip
def Apt (N:Nat):Go.AX.Aaj:=A74
def Aj3:Code:=Tryz.f54.body.getD .skip
def Aek:Aac:=⟨[wq1,(1,.one (.val .str))],[(0,.cells 80 [(.same .nilptr),(.slf 1)]),Cm5]⟩
def Aji:Aac:=⟨[B31,(1,.one (.same .nilif))],B35⟩
abbrev A7o (R:Type):=(List UInt8)->d0->(Int->d0->Option R)->Option R
abbrev Ae9:={R:Type}→Nat→A7o R
def Aaw:Ae9:=fun {R} N a c d=>if ((((List.length c)+(List.length (List.map (fun b:UInt8=>(((UInt8.toNat b):Nat):Int)) a)))*(1:Nat))≤(70368744177664:Nat)) then (d (len a) (c++(List.map (fun b:UInt8=>(((UInt8.toNat b):Nat):Int)) a))) else none
def A7p (N:Nat):Abn Aek [Aji]:=fun R x C=>Aaw N x.1.2.1 x.2.2.1 (fun y0 y1=>C.1 ((y0,(),()),(((),(),()),y1,())))
def Ah4 (Aaw:Ae9) (N:Nat):Go.AX.Aaj:=Acr [false,true] (List.replicate 32 true) true 2 2 Aek [Aji] (fun R x C=>Aaw N x.1.2.1 x.2.2.1 (fun y0 y1=>C.1 ((y0,(),()),(((),(),()),y1,()))))
def Asx (N:Nat):Go.AX.Aaj:=Ah4 @Aaw N
def A7q (N:Nat):List (Nat×Acp):=[]
def Asy (N:Nat):List (Nat×Go.AX.Aaj):=[(100,Ain N)]
def Alk:Aac:=⟨[wq1,(1,.one (.val .str))],B35⟩
def Ah9:Aac:=⟨[B31,(1,.one (.same .nilif))],B35⟩
abbrev A3t (R:Type):=(List UInt8)->d0->(Int->d0->Option R)->Option R
abbrev Ads:={R:Type}→Nat→A3t R
def Aaq:Ads:=fun {R} N a c d=>if ((((List.length c)+(List.length (List.map (fun b:UInt8=>(((UInt8.toNat b):Nat):Int)) a)))*(1:Nat))≤(70368744177664:Nat)) then (d (len a) (c++(List.map (fun b:UInt8=>(((UInt8.toNat b):Nat):Int)) a))) else none
def A3u (N:Nat):Abn Alk [Ah9]:=fun R x C=>Aaq N x.1.2.1 x.2.2.1 (fun y0 y1=>C.1 ((y0,(),()),(((),(),()),y1,())))
def Ag6 (Aaq:Ads) (N:Nat):Go.AX.Aaj:=Acr [false,true] (List.replicate 32 true) true 2 2 Alk [Ah9] (fun R x C=>Aaq N x.1.2.1 x.2.2.1 (fun y0 y1=>C.1 ((y0,(),()),(((),(),()),y1,()))))
def Ap5 (N:Nat):Go.AX.Aaj:=Ag6 @Aaq N
def A3v (N:Nat):List (Nat×Acp):=[]
def Ap6 (N:Nat):List (Nat×Go.AX.Aaj):=[(100,Ain N)]
def Aii:Aac:=⟨[Ama,wq9,Crw,B33,Cna,(33,.one Bwx),(34,.one wq0),(35,.one wq0)],Bwy⟩
def Au9:Aac:=⟨Ci4,Bwy⟩
def Bmh:Ac4:=.cons (.exit 2) Au9 (.nil)
abbrev A82 (R:Type):=Int->d4->Int->Int->d0->Int->Int->d0->(Int->d4->Int->Int->d0->Option R)->Option R
abbrev Bmi (R:Type):=Int->d4->Int->Int->d0->Int->Int->d0->Option R
abbrev Ani:={R:Type}→Nat→Nat→A82 R
def A03 (Aaq:Ads) {R:Type} (N:Nat) (rc:Bmi R):A82 R:=fun d e f g b h a i j=>if ((decide (a<h))=true) then (if (0≤a∧a<len b) then (let c:=(b.getD a.toNat 0);if ((Ajf c)=true) then (if (((1:Nat)+(List.length (Axa c)))≤(70368744177664:Nat)) then (Aaq N ((32:UInt8)::(List.append ([]:List UInt8) (Axa c))) i fun m l=>rc d e f g b h (wi (a+1)) l) else none) else none) else none) else j d e f g i
def Ac1 {R:Type} (N:Nat):Nat→A82 R
 | 0=>fun _ _ _ _ _ _ _ _ _=>none
 | k+1=>fun a b c d e f g h i=>A03 @Aaq N (fun a b c d e f g h=>Ac1 N k a b c d e f g h i) a b c d e f g h i
def At8 (Ac1:Ani) (N k:Nat):Aas Aii:=fun R x K=>Ac1 N k x.1.1 x.1.2.2.1 x.1.2.2.2.1 x.1.2.2.2.2.1 x.1.2.2.2.2.2.1 x.1.2.2.2.2.2.2.1 x.1.2.2.2.2.2.2.2.1 x.2.2.1 (fun y0 y1 y2 y3 y4=>K (.exit 2) (Aab Au9 ((y0,(),y1,y2,y3,()),(((),(),()),y4,()))))
def A83 (N k:Nat):Aas Aii:=At8 @Ac1 N k
def Adj:Aac:=⟨Ci4,Bwy⟩
def Ar0:Aac:=⟨Cm4,Bwy⟩
def Bgg:Ac4:=.cons (.exit 0) Ar0 (.nil)
abbrev A3w (R:Type):=Int->d4->Int->Int->d0->(d0->Option R)->Option R
abbrev Bgh (R:Type):=Int->d4->Int->Int->d0->Option R
abbrev Anj:={R:Type}→Nat→Nat→A3w R
def Ava (Aaq:Ads) (Ac1:Ani) (Aad:Ab9) {R:Type} (N:Nat) (rc:Bgh R):A3w R:=fun d b e a f m=>if ((decide (a<e))=true) then (if (0≤a∧a<len b) then (let g:=(b.getD a.toNat (0,(0,(0,(0,0))))).1;let h:=(b.getD a.toNat (0,(0,(0,(0,0))))).2.1;let i:=(b.getD a.toNat (0,(0,(0,(0,0))))).2.2.1;let j:=(b.getD a.toNat (0,(0,(0,(0,0))))).2.2.2.1;let l:=(b.getD a.toNat (0,(0,(0,(0,0))))).2.2.2.2;if ((Ajf a)=true) then (Aaq N (Axa a) f fun u n=>let c:=(wi (d+1));if ((0≤c)∧(c≤(((List.length (g::(h::(i::(j::(l::([]:List Int))))))):Nat):Int))) then (if (((0 :Int)≤(0 :Int))∧(0≤c)) then (Ac1 N N d b e a (List.take ((Int.toNat c)-(0:Nat)) (g::(h::(i::(j::(l::([]:List Int))))))) ((((Int.toNat c)-(0:Nat)):Nat):Int) 0 n fun o p q r s=>Aad N 10 s fun t=>rc o p q (wi (r+1)) t) else none) else none) else none) else none) else m f
def Acm {R:Type} (N:Nat):Nat→A3w R
 | 0=>fun _ _ _ _ _ _=>none
 | k+1=>fun a b c d e f=>Ava @Aaq @Ac1 @Aad N (fun a b c d e=>Acm N k a b c d e f) a b c d e f
def Ank (Acm:Anj) (N k:Nat):Aas Adj:=fun R x K=>Acm N k x.1.1 x.1.2.2.1 x.1.2.2.2.1 x.1.2.2.2.2.1 x.2.2.1 (fun y0=>K (.exit 0) (Aab Ar0 (((),()),(((),(),()),y0,()))))
def Avb (N k:Nat):Aas Adj:=Ank @Acm N k
def Ajd:Aac:=⟨Ci4,[(32,.cells 80 [(.same .nilptr),(.same .nilsl)])]⟩
def Axy:Aac:=⟨Cm4,Bwy⟩
def Axz:Aac:=⟨Cm4,[(32,.cells 80 [(.same .nilptr),(.same .nilsl)])]⟩
def Bo0:Ac4:=.cons (.exit 0) Axy (.cons (.exit 0) Axz (.nil))
abbrev Bch (R:Type):=Int->d4->Int->Int->(d0->Option R)->(Option R)->Option R
abbrev Bo1 (R:Type):=Int->d4->Int->Int->Option R
abbrev Aqu:={R:Type}→Nat→Nat→Bch R
def A2h (Aaw:Ae9) (Ac1:Ani) (Aad:Ab9) (Acm:Anj) {R:Type} (N:Nat) (rc:Bo1 R):Bch R:=fun d b e a l m=>if ((decide (a<e))=true) then (if (0≤a∧a<len b) then (let f:=(b.getD a.toNat (0,(0,(0,(0,0))))).1;let g:=(b.getD a.toNat (0,(0,(0,(0,0))))).2.1;let h:=(b.getD a.toNat (0,(0,(0,(0,0))))).2.2.1;let i:=(b.getD a.toNat (0,(0,(0,(0,0))))).2.2.2.1;let j:=(b.getD a.toNat (0,(0,(0,(0,0))))).2.2.2.2;if ((Ajf a)=true) then (Aaw N (Axa a) ([]:List Int) fun u n=>let c:=(wi (d+1));if ((0≤c)∧(c≤(((List.length (f::(g::(h::(i::(j::([]:List Int))))))):Nat):Int))) then (if (((0 :Int)≤(0 :Int))∧(0≤c)) then (Ac1 N N d b e a (List.take ((Int.toNat c)-(0:Nat)) (f::(g::(h::(i::(j::([]:List Int))))))) ((((Int.toNat c)-(0:Nat)):Nat):Int) 0 n fun o p q r s=>Aad N 10 s fun t=>Acm N N o p q (wi (r+1)) t l) else none) else none) else none) else none) else m
def Ad7 {R:Type} (N:Nat):Nat→Bch R
 | 0=>fun _ _ _ _ _ _=>none
 | k+1=>fun a b c d e f=>A2h @Aaw @Ac1 @Aad @Acm N (fun a b c d=>Ad7 N k a b c d e f) a b c d e f
def Awj (Ad7:Aqu) (N k:Nat):Aas Ajd:=fun R x K=>Ad7 N k x.1.1 x.1.2.2.1 x.1.2.2.2.1 x.1.2.2.2.2.1 (fun y0=>K (.exit 0) (Aab Axy (((),()),(((),(),()),y0,())))) (K (.exit 0) (Aab Axz (((),()),(((),(),()),()))))
def Bci (N k:Nat):Aas Ajd:=Awj @Ad7 N k
def Bkp:Aac:=⟨[Bwv,Ama],[]⟩
def A2i:Aac:=⟨Cm9,[]⟩
abbrev Cfo (R:Type):=d4->Int->((List UInt8)->Option R)->Option R
abbrev A11:={R:Type}→Nat→Cfo R
def Bkq (Ad7:Aqu):A11:=fun {R} N b d c=>Ad7 N N d b (len b) 0 (fun a=>if (((0:Nat)<(List.length a))∧(((List.length a)≤(70368744177664:Nat))∧((Ame a)=true))) then (c (Aw9 a)) else none) (c ([]:List UInt8))
def Al3:A11:=@Bkq @Ad7
def Cs3 (N:Nat):Abn Bkp [A2i]:=fun R x C=>Al3 N x.1.1 x.1.2.1 (fun y0=>C.1 ((y0,()),(())))
def Bv3 (Al3:A11) (N:Nat):Go.AX.Aaj:=Acr [true,true] [] false 2 0 Bkp [A2i] (fun R x C=>Al3 N x.1.1 x.1.2.1 (fun y0=>C.1 ((y0,()),(()))))
def Bv4 (N:Nat):Go.AX.Aaj:=Bv3 @Al3 N
def Cs4 (N:Nat):List (Nat×Acp):=[(15,Aaa Aii (A83 N N)),(7,A0l (Aaa Adj (Avb N N)) (Aaa Ajd (Bci N N)) (fun st=>(dec Adj st).isSome))]
def Cfp (N:Nat):List (Nat×Go.AX.Aaj):=[(55,Apt N),(54,Atw 2 Aek (Asx N) (Ap5 N)),(56,Amh N),(57,Aez N)]
def Bkr:Aac:=⟨Bn2,[]⟩
def A2j:Aac:=⟨Cis,[]⟩
abbrev Cfq (R:Type):=(List UInt8)->d3->d1->d2->d4->((List UInt8)->Int->Option R)->Option R
abbrev A12:={R:Type}→Nat→Cfq R
def Bks (Aky:Aze) (Al3:A11):A12:=fun {R} N d e f g a b=>Aky N d e f g a fun c=>if ((c != 0)=true) then (b ([]:List UInt8) c) else Al3 N a 3 fun h=>b h 0
def Amu:A12:=@Bks @Aky @Al3
def Cs5 (N:Nat):Abn Bkr [A2j]:=fun R x C=>Amu N x.1.1.1 x.1.1.2.1 x.1.1.2.2.1 x.1.1.2.2.2.1 x.1.1.2.2.2.2.1 (fun y0 y1=>C.1 ((y0,y1,()),(())))
def Bv5 (Amu:A12) (N:Nat):Go.AX.Aaj:=Acr [true] [] false 1 0 Bkr [A2j] (fun R x C=>Amu N x.1.1.1 x.1.1.2.1 x.1.1.2.2.1 x.1.1.2.2.2.1 x.1.1.2.2.2.2.1 (fun y0 y1=>C.1 ((y0,y1,()),(()))))
def Bv6 (N:Nat):Go.AX.Aaj:=Bv5 @Amu N
def Cs6 (N:Nat):List (Nat×Acp):=[]
def Cfr (N:Nat):List (Nat×Go.AX.Aaj):=[(22,Brt N),(23,Bv4 N)]
def Ag7:Code:=Tryz.f9.body.getD .skip
def Agd:Code:=Tryz.f24.body.getD .skip
def Aoz:Code:=Tryz.f34.body.getD .skip
def Aix:Aac:=⟨[wq4,Bkh,A1b],[A9t,Ciz,(34,.row 91 z2)]⟩
def Ar1:Aac:=⟨Bww,[(32,.cells 89 [(.val .str),(.val z3),(.slf 33),(.val z1),wq0,wq0]),(33,.row 91 z2)]⟩
def Bgi:Ac4:=.cons (.exit 0) Ar1 (.nil)
abbrev A3x (R:Type):=Int->(List UInt8)->d3->d1->d2->d4->(List UInt8)->d3->d1->Int->Int->d2->((List UInt8)->d3->d1->Int->Int->d2->Option R)->Option R
abbrev Bgj (R:Type):=Int->(List UInt8)->d3->d1->d2->d4->(List UInt8)->d3->d1->Int->Int->d2->Option R
abbrev Avc:={R:Type}→Nat→Nat→A3x R
def Avd {R:Type} (N:Nat) (rc:Bgj R):A3x R:=fun c j l m d n e f g h i a o=>if ((decide (c<(len d)))=true) then (let b:=(wi (c+1));if ((((List.length a)+(List.length ((24,(b,0))::[(26,(0,0))])))*(24:Nat))≤(70368744177664:Nat)) then (rc b j l m d n e f g h i (a++((24,(b,0))::[(26,(0,0))]))) else none) else o e f g h i a
def Aee {R:Type} (N:Nat):Nat→A3x R
 | 0=>fun _ _ _ _ _ _ _ _ _ _ _ _ _=>none
 | k+1=>fun a b c d e f g h i j l m n=>Avd N (fun a b c d e f g h i j l m=>Aee N k a b c d e f g h i j l m n) a b c d e f g h i j l m n
def A3y (Aee:Avc) (N k:Nat):Aas Aix:=fun R x K=>Aee N k x.1.2.2.1 x.2.1.1 x.2.1.2.1 x.2.1.2.2.1 x.2.1.2.2.2.1 x.2.1.2.2.2.2.1 x.2.2.1.1 x.2.2.1.2.1 x.2.2.1.2.2.2.1 x.2.2.1.2.2.2.2.1 x.2.2.1.2.2.2.2.2.1 x.2.2.2.1 (fun y0 y1 y2 y3 y4 y5=>K (.exit 0) (Aab Ar1 (((),()),((y0,y1,(),y2,y3,y4,()),y5,()))))
def A3z (N k:Nat):Aas Aix:=A3y @Aee N k
def Ao0:Code:=Tryz.f67.body.getD .skip
def Amk:Code:=Tryz.f106.body.getD .skip
def Ahp:Aac:=⟨[wq4,A1a,A1b],Asz⟩
def Apg:Aac:=⟨Cne,[]⟩
def Bam:Ac4:=.cons (.exit 0) Apg (.nil)
abbrev Azf (R:Type):=Int->Int->(List UInt8)->d3->d2->d1->Int->Int->(Int->Option R)->Option R
abbrev Ban (R:Type):=Int->Int->(List UInt8)->d3->d2->d1->Int->Int->Option R
abbrev Ar2:={R:Type}→Nat→Nat→Azf R
def Ar3 {R:Type} (N:Nat) (rc:Ban R):Azf R:=fun c a d b e f g h j=>if ((decide (a<(len b)))=true) then (if (0≤a∧a<len b) then (let i:=(wi (c+(((List.length (b.getD a.toNat (([]:List UInt8),(false,([]:List Int)))).2.2):Nat):Int)));if (0≤a∧a<len b) then (if ((b.getD a.toNat (([]:List UInt8),(false,([]:List Int)))).2.1=true) then (if (0≤a∧a<len b) then (rc (wi (i+(wi (Int.tdiv (wi ((((List.length (b.getD a.toNat (([]:List UInt8),(false,([]:List Int)))).1):Nat):Int)+2)) 2)))) (wi (a+1)) d b e f g h) else none) else rc i (wi (a+1)) d b e f g h) else none) else none) else j c
def Adk {R:Type} (N:Nat):Nat→Azf R
 | 0=>fun _ _ _ _ _ _ _ _ _=>none
 | k+1=>fun a b c d e f g h i=>Ar3 N (fun a b c d e f g h=>Adk N k a b c d e f g h i) a b c d e f g h i
def Azg (Adk:Ar2) (N k:Nat):Aas Ahp:=fun R x K=>Adk N k x.1.2.1 x.1.2.2.1 x.2.1.1 x.2.1.2.1 x.2.1.2.2.1 x.2.1.2.2.2.1 x.2.1.2.2.2.2.1 x.2.1.2.2.2.2.2.1 (fun y0=>K (.exit 0) (Aab Apg ((y0,()),(()))))
def Azh (N k:Nat):Aas Ahp:=Azg @Adk N k
def A6i:Aac:=⟨A5f,[]⟩
def Atf:Aac:=⟨Ah6,[]⟩
abbrev B1e (R:Type):=(List UInt8)->d3->d2->d1->Int->Int->(Bool->Option R)->Option R
abbrev Aof:={R:Type}→Nat→B1e R
def A6j (Adk:Ar2):Aof:=fun {R} N f b c g d e a=>if ((decide ((len c) > 40000))=true) then (a true) else if ((decide ((len b) > 2000))=true) then (a true) else if ((decide (d > 200))=true) then (a true) else if ((decide (e > 20000))=true) then (a true) else Adk N N 0 0 f b c g d e fun h=>a (decide (h > 7800))
def Afm:Aof:=@A6j @Adk
def Coc (N:Nat):Abn A6i [Atf]:=fun R x C=>Afm N x.1.1.1 x.1.1.2.1 x.1.1.2.2.1 x.1.1.2.2.2.1 x.1.1.2.2.2.2.1 x.1.1.2.2.2.2.2.1 (fun y0=>C.1 ((y0,()),(())))
def A6k (Afm:Aof) (N:Nat):Go.AX.Aaj:=Acr [true] [] false 1 0 A6i [Atf] (fun R x C=>Afm N x.1.1.1 x.1.1.2.1 x.1.1.2.2.1 x.1.1.2.2.2.1 x.1.1.2.2.2.2.1 x.1.1.2.2.2.2.2.1 (fun y0=>C.1 ((y0,()),(()))))
def Bi8 (N:Nat):Go.AX.Aaj:=A6k @Afm N
def Cod (N:Nat):List (Nat×Acp):=[(11,Aaa Ahp (Azh N N))]
def B1f (N:Nat):List (Nat×Go.AX.Aaj):=[]
def Adm:Code:=Tryz.f107.body.getD .skip
def Ao1:Code:=Tryz.f171.body.getD .skip
def Ajx:Aac:=⟨[B3z,(4,.one (.val .str)),Bbl],[]⟩
def Atg:Aac:=⟨[(2,.one (.val .str)),A1a],[]⟩
def Ath:Aac:=⟨[B3z,(4,.one (.val .str))],[]⟩
def Bi9:Ac4:=.cons .ret Atg (.cons (.exit 0) Ath (.nil))
abbrev A6l (R:Type):=(List UInt8)->(List UInt8)->Int->((List UInt8)->Int->Option R)->((List UInt8)->(List UInt8)->Option R)->Option R
abbrev Bja (R:Type):=(List UInt8)->(List UInt8)->Int->Option R
abbrev Ax0:={R:Type}→Nat→Nat→A6l R
def Ax1 {R:Type} (N:Nat) (rc:Bja R):A6l R:=fun b c a j m=>if ((decide (a<(len b)))=true) then (if (0≤a∧a<len b) then (let d:=(((UInt8.toNat (b.getD a.toNat (0:UInt8))):Nat):Int);if ((d==10)=true) then (if (((List.length c)+(2:Nat))≤(70368744177664:Nat)) then (rc b (c++[(42:UInt8),(110:UInt8)]) (wi (a+1))) else none) else if ((d==9)=true) then (if (((List.length c)+(2:Nat))≤(70368744177664:Nat)) then (rc b (c++[(42:UInt8),(116:UInt8)]) (wi (a+1))) else none) else if ((d==42)=true) then (let e:=(wi (a+1));if ((0≤e)∧(e≤(len b))) then (if ((0≤a)∧(a≤e)) then (let h:=(List.drop (Int.toNat a) (List.take (Int.toNat e) b));if (((1:Nat)+(List.length h))≤(70368744177664:Nat)) then (if (((List.length c)+(List.length ((42:UInt8)::h)))≤(70368744177664:Nat)) then (rc b (c++((42:UInt8)::h)) e) else none) else none) else none) else none) else if ((d==34)=true) then (let f:=(wi (a+1));if ((0≤f)∧(f≤(len b))) then (if ((0≤a)∧(a≤f)) then (let i:=(List.drop (Int.toNat a) (List.take (Int.toNat f) b));if (((1:Nat)+(List.length i))≤(70368744177664:Nat)) then (if (((List.length c)+(List.length ((42:UInt8)::i)))≤(70368744177664:Nat)) then (rc b (c++((42:UInt8)::i)) f) else none) else none) else none) else none) else if ((decide (d<32))=true) then (j ([]:List UInt8) 3) else if ((decide (d > 126))=true) then (j ([]:List UInt8) 3) else let g:=(wi (a+1));if ((0≤g)∧(g≤(len b))) then (if ((0≤a)∧(a≤g)) then (let l:=(List.drop (Int.toNat a) (List.take (Int.toNat g) b));if (((List.length c)+(List.length l))≤(70368744177664:Nat)) then (rc b (c++l) g) else none) else none) else none) else none) else m b c
def Aem {R:Type} (N:Nat):Nat→A6l R
 | 0=>fun _ _ _ _ _=>none
 | k+1=>fun a b c d e=>Ax1 N (fun a b c=>Aem N k a b c d e) a b c d e
def A6m (Aem:Ax0) (N k:Nat):Aas Ajx:=fun R x K=>Aem N k x.1.1 x.1.2.1 x.1.2.2.1 (fun y0 y1=>K .ret (Aab Atg ((y0,y1,()),(())))) (fun y0 y1=>K (.exit 0) (Aab Ath ((y0,y1,()),(()))))
def A6n (N k:Nat):Aas Ajx:=A6m @Aem N k
def Bcj:Aac:=⟨Cm9,[]⟩
def Ax2:Aac:=⟨Cis,[]⟩
abbrev B9d (R:Type):=(List UInt8)->((List UInt8)->Int->Option R)->Option R
abbrev Akp:={R:Type}→Nat→B9d R
def Bck (Aem:Ax0):Akp:=fun {R} N c a=>Aem N N c ([(34:UInt8)]) 0 (fun d e=>a d e) fun f b=>if ((decide ((len f) > 100))=true) then (a ([]:List UInt8) 2) else if (((List.length b)+(1:Nat))≤(70368744177664:Nat)) then (a (b++[(34:UInt8)]) 0) else none
def Acv:Akp:=@Bck @Aem
def Cqo (N:Nat):Abn Bcj [Ax2]:=fun R x C=>Acv N x.1.1 (fun y0 y1=>C.1 ((y0,y1,()),(())))
def Aqv (Acv:Akp) (N:Nat):Go.AX.Aaj:=Acr [true] [] false 1 0 Bcj [Ax2] (fun R x C=>Acv N x.1.1 (fun y0 y1=>C.1 ((y0,y1,()),(()))))
def Bo2 (N:Nat):Go.AX.Aaj:=Aqv @Acv N
def Cqp (N:Nat):List (Nat×Acp):=[(7,Aaa Ajx (A6n N N))]
def B9e (N:Nat):List (Nat×Go.AX.Aaj):=[]
def B1g:Code:=Tryz.f172.body.getD .skip
def Bn5:Aac:=⟨Ciw,[]⟩
def A6o:Aac:=⟨Ah6,[]⟩
abbrev Cja (R:Type):=Int->Int->Int->(Bool->Option R)->Option R
abbrev Ad9:={R:Type}→Nat→Cja R
def Aan:Ad9:=fun {R} N a c d b=>if ((decide (a≥c))=true) then (b (decide (a≤d))) else b false
def Cjb (N:Nat):Abn Bn5 [A6o]:=fun R x C=>Aan N x.1.1 x.1.2.1 x.1.2.2.1 (fun y0=>C.1 ((y0,()),(())))
def Aia (Aan:Ad9) (N:Nat):Go.AX.Aaj:=Acr [true,true,true] [] false 3 0 Bn5 [A6o] (fun R x C=>Aan N x.1.1 x.1.2.1 x.1.2.2.1 (fun y0=>C.1 ((y0,()),(()))))
def A6p (N:Nat):Go.AX.Aaj:=Aia @Aan N
def Cjc (N:Nat):List (Nat×Acp):=[]
def B1h (N:Nat):List (Nat×Go.AX.Aaj):=[]
def Age:Aac:=⟨[wq4,A1a,(4,.one (.ptr 33)),Bn1],[A5g,(33,.cells 36 [(.val .str),(.val .bool),Bwx])]⟩
def Ar4:Aac:=⟨A09,[]⟩
def Ar5:Aac:=⟨Cni,Asz⟩
def Bgk:Ac4:=.cons .ret Ar4 (.cons (.exit 2) Ar5 (.nil))
abbrev A30 (R:Type):=Int->Int->(List UInt8)->d3->d2->d1->Int->Int->(List UInt8)->Bool->d0->(Bool->Option R)->(Int->(List UInt8)->d3->d2->d1->Int->Int->Option R)->Option R
abbrev Bgl (R:Type):=Int->Int->(List UInt8)->d3->d2->d1->Int->Int->(List UInt8)->Bool->d0->Option R
abbrev Alm:={R:Type}→Nat→Nat→A30 R
def Ave (Aan:Ad9) {R:Type} (N:Nat) (rc:Bgl R):A30 R:=fun c a d e f g h i j l b m n=>if ((decide (a<(len b)))=true) then (if (0≤a∧a<len b) then (Aan N (b.getD a.toNat 0) (-2147483648) 2147483647 fun o=>if ((!o)=true) then (m false) else rc c (wi (a+1)) d e f g h i j l b) else none) else n c d e f g h i
def Ab4 {R:Type} (N:Nat):Nat→A30 R
 | 0=>fun _ _ _ _ _ _ _ _ _ _ _ _ _=>none
 | k+1=>fun a b c d e f g h i j l m n=>Ave @Aan N (fun a b c d e f g h i j l=>Ab4 N k a b c d e f g h i j l m n) a b c d e f g h i j l m n
def Anl (Ab4:Alm) (N k:Nat):Aas Age:=fun R x K=>Ab4 N k x.1.2.1 x.1.2.2.2.1 x.2.1.1 x.2.1.2.1 x.2.1.2.2.1 x.2.1.2.2.2.1 x.2.1.2.2.2.2.1 x.2.1.2.2.2.2.2.1 x.2.2.1.1 x.2.2.1.2.1 x.2.2.1.2.2.1 (fun y0=>K .ret (Aab Ar4 ((y0,()),(())))) (fun y0 y1 y2 y3 y4 y5 y6=>K (.exit 2) (Aab Ar5 (((),y0,()),((y1,y2,y3,y4,y5,y6,()),()))))
def A31 (N k:Nat):Aas Age:=Anl @Ab4 N k
def Ag0:Aac:=⟨Cni,Asz⟩
def Ati:Aac:=⟨A09,[]⟩
def Atj:Aac:=⟨Cdq,Asz⟩
def Bjb:Ac4:=.cons .ret Ati (.cons (.exit 0) Atj (.nil))
abbrev A6q (R:Type):=Int->(List UInt8)->d3->d2->d1->Int->Int->(Bool->Option R)->((List UInt8)->d3->d2->d1->Int->Int->Option R)->Option R
abbrev Bjc (R:Type):=Int->(List UInt8)->d3->d2->d1->Int->Int->Option R
abbrev Aml:={R:Type}→Nat→Nat→A6q R
def Ax3 (Acv:Akp) (Ab4:Alm) {R:Type} (N:Nat) (rc:Bjc R):A6q R:=fun a d b e f g h c l=>if ((decide (a<(len b)))=true) then (if (0≤a∧a<len b) then (let i:=(b.getD a.toNat (([]:List UInt8),(false,([]:List Int)))).1;let j:=(b.getD a.toNat (([]:List UInt8),(false,([]:List Int)))).2.2;if ((b.getD a.toNat (([]:List UInt8),(false,([]:List Int)))).2.1=true) then (Acv N i fun v m=>if ((m != 0)=true) then (c false) else if ((decide ((len j) > 0))=true) then (c false) else rc (wi (a+1)) d b e f g h) else if ((!(i==([]:List UInt8)))=true) then (c false) else if (((len j)==0)=true) then (c false) else Ab4 N N a 0 d b e f g h i ((b.getD a.toNat (([]:List UInt8),(false,([]:List Int)))).2.1) j (fun n=>c n) fun o p q r s t u=>rc (wi (o+1)) p q r s t u) else none) else l d b e f g h
def Aca {R:Type} (N:Nat):Nat→A6q R
 | 0=>fun _ _ _ _ _ _ _ _ _=>none
 | k+1=>fun a b c d e f g h i=>Ax3 @Acv @Ab4 N (fun a b c d e f g=>Aca N k a b c d e f g h i) a b c d e f g h i
def Aog (Aca:Aml) (N k:Nat):Aas Ag0:=fun R x K=>Aca N k x.1.2.1 x.2.1.1 x.2.1.2.1 x.2.1.2.2.1 x.2.1.2.2.2.1 x.2.1.2.2.2.2.1 x.2.1.2.2.2.2.2.1 (fun y0=>K .ret (Aab Ati ((y0,()),(())))) (fun y0 y1 y2 y3 y4 y5=>K (.exit 0) (Aab Atj (((),()),((y0,y1,y2,y3,y4,y5,()),()))))
def A6r (N k:Nat):Aas Ag0:=Aog @Aca N k
def Agf:Aac:=⟨[wq4,Cdt,(9,.one (.ptr 33)),Cdu],[A5g,(33,.cells 71 [wq0,wq0])]⟩
def Ar6:Aac:=⟨A09,[]⟩
def Ar7:Aac:=⟨[wq4,Cdt],Asz⟩
def Bgm:Ac4:=.cons .ret Ar6 (.cons (.exit 6) Ar7 (.nil))
abbrev A32 (R:Type):=Int->Int->(List UInt8)->d3->d2->d1->Int->Int->Int->Int->(Bool->Option R)->(Int->(List UInt8)->d3->d2->d1->Int->Int->Option R)->Option R
abbrev Bgn (R:Type):=Int->Int->(List UInt8)->d3->d2->d1->Int->Int->Int->Int->Option R
abbrev Aln:={R:Type}→Nat→Nat→A32 R
def Avf {R:Type} (N:Nat) (rc:Bgn R):A32 R:=fun c a d e f b g h i j l m=>if ((decide (a<c))=true) then (if (0≤a∧a<len b) then (if (((b.getD a.toNat (0,0)).1==i)=true) then (l false) else rc c (wi (a+1)) d e f b g h i j) else none) else m c d e f b g h
def Ab5 {R:Type} (N:Nat):Nat→A32 R
 | 0=>fun _ _ _ _ _ _ _ _ _ _ _ _=>none
 | k+1=>fun a b c d e f g h i j l m=>Avf N (fun a b c d e f g h i j=>Ab5 N k a b c d e f g h i j l m) a b c d e f g h i j l m
def Anm (Ab5:Aln) (N k:Nat):Aas Agf:=fun R x K=>Ab5 N k x.1.2.1 x.1.2.2.2.1 x.2.1.1 x.2.1.2.1 x.2.1.2.2.1 x.2.1.2.2.2.1 x.2.1.2.2.2.2.1 x.2.1.2.2.2.2.2.1 x.2.2.1.1 x.2.2.1.2.1 (fun y0=>K .ret (Aab Ar6 ((y0,()),(())))) (fun y0 y1 y2 y3 y4 y5 y6=>K (.exit 6) (Aab Ar7 (((),y0,()),((y1,y2,y3,y4,y5,y6,()),()))))
def A33 (N k:Nat):Aas Agf:=Anm @Ab5 N k
def Agg:Aac:=⟨[wq4,Cdt],Asz⟩
def Ar8:Aac:=⟨A09,[]⟩
def Ar9:Aac:=⟨Cdq,Asz⟩
def Bgo:Ac4:=.cons .ret Ar8 (.cons (.exit 4) Ar9 (.nil))
abbrev A34 (R:Type):=Int->(List UInt8)->d3->d2->d1->Int->Int->(Bool->Option R)->((List UInt8)->d3->d2->d1->Int->Int->Option R)->Option R
abbrev Bgp (R:Type):=Int->(List UInt8)->d3->d2->d1->Int->Int->Option R
abbrev Alo:={R:Type}→Nat→Nat→A34 R
def Avg (Aan:Ad9) (Ab5:Aln) {R:Type} (N:Nat) (rc:Bgp R):A34 R:=fun a e f g b c h d l=>if ((decide (a<(len b)))=true) then (if (0≤a∧a<len b) then (let i:=(b.getD a.toNat (0,0)).1;let j:=(b.getD a.toNat (0,0)).2;Aan N i 1 199 fun m=>if ((!m)=true) then (d false) else Aan N j 1 c fun n=>if ((!n)=true) then (d false) else Ab5 N N a 0 e f g b c h i j (fun o=>d o) fun p q r s t u v=>rc (wi (p+1)) q r s t u v) else none) else l e f g b c h
def Abq {R:Type} (N:Nat):Nat→A34 R
 | 0=>fun _ _ _ _ _ _ _ _ _=>none
 | k+1=>fun a b c d e f g h i=>Avg @Aan @Ab5 N (fun a b c d e f g=>Abq N k a b c d e f g h i) a b c d e f g h i
def Ann (Abq:Alo) (N k:Nat):Aas Agg:=fun R x K=>Abq N k x.1.2.1 x.2.1.1 x.2.1.2.1 x.2.1.2.2.1 x.2.1.2.2.2.1 x.2.1.2.2.2.2.1 x.2.1.2.2.2.2.2.1 (fun y0=>K .ret (Aab Ar8 ((y0,()),(())))) (fun y0 y1 y2 y3 y4 y5=>K (.exit 4) (Aab Ar9 (((),()),((y0,y1,y2,y3,y4,y5,()),()))))
def A35 (N k:Nat):Aas Agg:=Ann @Abq N k
def Bcl:Aac:=⟨A5f,[]⟩
def Ax4:Aac:=⟨Ah6,[]⟩
abbrev B9f (R:Type):=(List UInt8)->d3->d2->d1->Int->Int->(Bool->Option R)->Option R
abbrev Aqw:={R:Type}→Nat→B9f R
def Bcm (Aca:Aml) (Abq:Alo) (Acv:Akp):Aqw:=fun {R} N b c d e f g a=>Aca N N 0 b c d e f g (fun h=>a h) fun i j l m n o=>Abq N N 0 i j l m n o (fun p=>a p) fun q s t u v w=>Acv N q fun x r=>a (r==0)
def Ahf:Aqw:=@Bcm @Aca @Abq @Acv
def Cqq (N:Nat):Abn Bcl [Ax4]:=fun R x C=>Ahf N x.1.1.1 x.1.1.2.1 x.1.1.2.2.1 x.1.1.2.2.2.1 x.1.1.2.2.2.2.1 x.1.1.2.2.2.2.2.1 (fun y0=>C.1 ((y0,()),(())))
def Bcn (Ahf:Aqw) (N:Nat):Go.AX.Aaj:=Acr [true] [] false 1 0 Bcl [Ax4] (fun R x C=>Ahf N x.1.1.1 x.1.1.2.1 x.1.1.2.2.1 x.1.1.2.2.2.1 x.1.1.2.2.2.2.1 x.1.1.2.2.2.2.2.1 (fun y0=>C.1 ((y0,()),(()))))
def Bo3 (N:Nat):Go.AX.Aaj:=Bcn @Ahf N
def Cqr (N:Nat):List (Nat×Acp):=[(25,Aaa Age (A31 N N)),(5,Aaa Ag0 (A6r N N)),(47,Aaa Agf (A33 N N)),(35,Aaa Agg (A35 N N))]
def B9g (N:Nat):List (Nat×Go.AX.Aaj):=[(171,Bo2 N),(172,A6p N)]
def Aea:Code:=Tryz.f108.body.getD .skip
def Afy:Aac:=⟨[A2w,Bkh,Cio,(93,.one (.val .bool))],Btt⟩
def Avh:Aac:=⟨A79,[]⟩
def Avi:Aac:=⟨Bww,A2a⟩
def Bao:Ac4:=.cons .ret Avh (.cons .normal Avi (.nil))
abbrev Bru (R:Type):=Int->Bool->(List UInt8)->d3->d2->d1->Int->Int->Int->Int->Int->(Bool->Option R)->(Int->Int->Int->Option R)->Option R
abbrev Agp:={R:Type}→Nat→Bru R
def Azi (Aan:Ad9):Agp:=fun {R} N d f q r s t g e h b c a i=>if (f=true) then (Aan N b 1 e fun j=>a j) else if ((d==24)=true) then (Aan N b 1 g fun l=>if (l=true) then (Aan N c 0 8 fun m=>a m) else a false) else if ((d==29)=true) then (Aan N b 1 e fun n=>if (n=true) then (Aan N c 0 1000 fun o=>a o) else a false) else if ((d==30)=true) then (Aan N c 1 e fun p=>a p) else i h b c
def Aa7:Agp:=@Azi @Aan
def Akc (Aa7:Agp) (N:Nat):Aas Afy:=fun R x K=>Aa7 N x.1.2.2.1 x.1.2.2.2.1 x.2.1.1 x.2.1.2.1 x.2.1.2.2.1 x.2.1.2.2.2.1 x.2.1.2.2.2.2.1 x.2.1.2.2.2.2.2.1 x.2.2.1.1 x.2.2.1.2.1 x.2.2.1.2.2.1 (fun y0=>K .ret (Aab Avh ((y0,()),(())))) (fun y0 y1 y2=>K .normal (Aab Avi (((),()),((y0,y1,y2,()),()))))
def Bap (N:Nat):Aas Afy:=Akc @Aa7 N
def Afz:Aac:=⟨[A2w,Bkh,Cio,(60,.one (.val .bool))],Btt⟩
def Avj:Aac:=⟨A79,[]⟩
def Avk:Aac:=⟨Bww,A2a⟩
def Baq:Ac4:=.cons .ret Avj (.cons .normal Avk (.nil))
abbrev Brv (R:Type):=Int->Bool->(List UInt8)->d3->d2->d1->Int->Int->Int->Int->Int->(Bool->Option R)->(Int->Int->Int->Option R)->Option R
abbrev Agq:={R:Type}→Nat→Brv R
def Azj (Aan:Ad9) (Aa7:Agp):Agq:=fun {R} N a n f d g h e i j b l c m=>if (n=true) then (Aan N b 0 (wi ((len d)-1)) fun o=>c o) else if ((a==11)=true) then (Aan N b 1 e fun p=>c p) else if ((a==16)=true) then (Aan N b 1 17 fun q=>c q) else if ((a==17)=true) then (if ((b==18)=true) then (c true) else c (b==19)) else if ((a==19)=true) then (Aa7 N a (a==19) f d g h e i j b l (fun r=>c r) fun s t u=>m s t u) else if ((a==20)=true) then (Aa7 N a (a==20) f d g h e i j b l (fun v=>c v) fun w x y=>m w x y) else if ((a==21)=true) then (Aa7 N a (a==21) f d g h e i j b l (fun z=>c z) fun A B C=>m A B C) else if ((a==22)=true) then (Aa7 N a (a==22) f d g h e i j b l (fun D=>c D) fun E F G=>m E F G) else Aa7 N a (a==27) f d g h e i j b l (fun H=>c H) fun I J L=>m I J L
def Abf:Agq:=@Azj @Aan @Aa7
def Akd (Abf:Agq) (N:Nat):Aas Afz:=fun R x K=>Abf N x.1.2.2.1 x.1.2.2.2.1 x.2.1.1 x.2.1.2.1 x.2.1.2.2.1 x.2.1.2.2.2.1 x.2.1.2.2.2.2.1 x.2.1.2.2.2.2.2.1 x.2.2.1.1 x.2.2.1.2.1 x.2.2.1.2.2.1 (fun y0=>K .ret (Aab Avj ((y0,()),(())))) (fun y0 y1 y2=>K .normal (Aab Avk (((),()),((y0,y1,y2,()),()))))
def Bar (N:Nat):Aas Afz:=Akd @Abf N
def Af0:Aac:=⟨[A2w,Bkh,Cio,(53,.one (.val .bool))],Btt⟩
def Avl:Aac:=⟨A79,[]⟩
def Avm:Aac:=⟨Bww,A2a⟩
def Bas:Ac4:=.cons .ret Avl (.cons .normal Avm (.nil))
abbrev Brw (R:Type):=Int->Bool->(List UInt8)->d3->d2->d1->Int->Int->Int->Int->Int->(Bool->Option R)->(Int->Int->Int->Option R)->Option R
abbrev Agr:={R:Type}→Nat→Brw R
def Azk (Aan:Ad9) (Abf:Agq):Agr:=fun {R} N a n d e f g h i j b l c m=>if (n=true) then (Aan N b 0 199 fun o=>c o) else if ((a==8)=true) then (Abf N a (a==8) d e f g h i j b l (fun p=>c p) fun q r s=>m q r s) else if ((a==9)=true) then (Abf N a (a==9) d e f g h i j b l (fun t=>c t) fun u v w=>m u v w) else Abf N a (a==10) d e f g h i j b l (fun x=>c x) fun y z A=>m y z A
def Abg:Agr:=@Azk @Aan @Abf
def Ake (Abg:Agr) (N:Nat):Aas Af0:=fun R x K=>Abg N x.1.2.2.1 x.1.2.2.2.1 x.2.1.1 x.2.1.2.1 x.2.1.2.2.1 x.2.1.2.2.2.1 x.2.1.2.2.2.2.1 x.2.1.2.2.2.2.2.1 x.2.2.1.1 x.2.2.1.2.1 x.2.2.1.2.2.1 (fun y0=>K .ret (Aab Avl ((y0,()),(())))) (fun y0 y1 y2=>K .normal (Aab Avm (((),()),((y0,y1,y2,()),()))))
def Bat (N:Nat):Aas Af0:=Ake @Abg N
def Af1:Aac:=⟨[A2w,Bkh,Cio,(43,.one (.val .bool))],Btt⟩
def Avn:Aac:=⟨A79,[]⟩
def Avo:Aac:=⟨Bww,A2a⟩
def Bau:Ac4:=.cons .ret Avn (.cons .normal Avo (.nil))
abbrev Brx (R:Type):=Int->Bool->(List UInt8)->d3->d2->d1->Int->Int->Int->Int->Int->(Bool->Option R)->(Int->Int->Int->Option R)->Option R
abbrev Ags:={R:Type}→Nat→Brx R
def Azl (Aan:Ad9) (Abg:Agr):Ags:=fun {R} N a n d e f g h i j b l c m=>if (n=true) then (Aan N b 0 4000 fun o=>c o) else if ((a==5)=true) then (Abg N a (a==5) d e f g h i j b l (fun p=>c p) fun q r s=>m q r s) else if ((a==6)=true) then (Abg N a (a==6) d e f g h i j b l (fun t=>c t) fun u v w=>m u v w) else Abg N a (a==7) d e f g h i j b l (fun x=>c x) fun y z A=>m y z A
def Aar:Ags:=@Azl @Aan @Abg
def Akf (Aar:Ags) (N:Nat):Aas Af1:=fun R x K=>Aar N x.1.2.2.1 x.1.2.2.2.1 x.2.1.1 x.2.1.2.1 x.2.1.2.2.1 x.2.1.2.2.2.1 x.2.1.2.2.2.2.1 x.2.1.2.2.2.2.2.1 x.2.2.1.1 x.2.2.1.2.1 x.2.2.1.2.2.1 (fun y0=>K .ret (Aab Avn ((y0,()),(())))) (fun y0 y1 y2=>K .normal (Aab Avo (((),()),((y0,y1,y2,()),()))))
def Bav (N:Nat):Aas Af1:=Akf @Aar N
def Af2:Aac:=⟨Bww,A2a⟩
def Avp:Aac:=⟨A79,[]⟩
def Baw:Ac4:=.cons .ret Avp (.nil)
abbrev Bry (R:Type):=Int->Int->Int->(Bool->Option R)->Option R
abbrev Ahq:={R:Type}→Nat→Bry R
def Aap:Ahq:=fun {R} N c a d b=>b (a==0)
def Akg (Aap:Ahq) (N:Nat):Aas Af2:=fun R x K=>Aap N x.2.1.1 x.2.1.2.1 x.2.1.2.2.1 (fun y0=>K .ret (Aab Avp ((y0,()),(()))))
def Bax (N:Nat):Aas Af2:=Akg @Aap N
def A6s:Aac:=⟨[Ciy,(1,.agg Cdw)],[]⟩
def Atk:Aac:=⟨Ah6,[]⟩
abbrev B1i (R:Type):=(List UInt8)->d3->d2->d1->Int->Int->Int->Int->Int->(Bool->Option R)->Option R
abbrev Aoh:={R:Type}→Nat→B1i R
def Asa (Aan:Ad9) (Aar:Ags) (Aap:Ahq):Aoh:=fun {R} N e f g h i j a d c b=>Aan N a 1 30 fun l=>if ((!l)=true) then (b false) else Aan N d (-2147483648) 2147483647 fun m=>if ((!m)=true) then (b false) else Aan N c (-2147483648) 2147483647 fun n=>if ((!n)=true) then (b false) else if ((a != 24)=true) then (if ((a != 29)=true) then (if ((a != 30)=true) then (if ((c != 0)=true) then (b false) else if ((a==1)=true) then (b true) else if ((a==2)=true) then (Aar N a (a==2) e f g h i j a d c (fun o=>b o) fun p q r=>Aap N p q r fun s=>b s) else if ((a==3)=true) then (Aar N a (a==3) e f g h i j a d c (fun t=>b t) fun u v w=>Aap N u v w fun x=>b x) else if ((a==4)=true) then (Aar N a (a==4) e f g h i j a d c (fun y=>b y) fun z A B=>Aap N z A B fun C=>b C) else if ((a==23)=true) then (Aar N a (a==23) e f g h i j a d c (fun D=>b D) fun E F G=>Aap N E F G fun H=>b H) else if ((a==18)=true) then (Aar N a (a==18) e f g h i j a d c (fun I=>b I) fun J L M=>Aap N J L M fun O=>b O) else Aar N a (a==28) e f g h i j a d c (fun P=>b P) fun Q S T=>Aap N Q S T fun U=>b U) else if ((a==1)=true) then (b true) else if ((a==2)=true) then (Aar N a (a==2) e f g h i j a d c (fun V=>b V) fun W X Y=>Aap N W X Y fun Z=>b Z) else if ((a==3)=true) then (Aar N a (a==3) e f g h i j a d c (fun aa=>b aa) fun ab ac ad=>Aap N ab ac ad fun ae=>b ae) else if ((a==4)=true) then (Aar N a (a==4) e f g h i j a d c (fun af=>b af) fun ag ah ai=>Aap N ag ah ai fun aj=>b aj) else if ((a==23)=true) then (Aar N a (a==23) e f g h i j a d c (fun ak=>b ak) fun al am an=>Aap N al am an fun ao=>b ao) else if ((a==18)=true) then (Aar N a (a==18) e f g h i j a d c (fun ap=>b ap) fun aq ar au=>Aap N aq ar au fun av=>b av) else Aar N a (a==28) e f g h i j a d c (fun aw=>b aw) fun ax ay az=>Aap N ax ay az fun ba=>b ba) else if ((a==1)=true) then (b true) else if ((a==2)=true) then (Aar N a (a==2) e f g h i j a d c (fun bb=>b bb) fun bc bd be=>Aap N bc bd be fun bf=>b bf) else if ((a==3)=true) then (Aar N a (a==3) e f g h i j a d c (fun bg=>b bg) fun bh bi bj=>Aap N bh bi bj fun bk=>b bk) else if ((a==4)=true) then (Aar N a (a==4) e f g h i j a d c (fun bl=>b bl) fun bm bn bo=>Aap N bm bn bo fun bp=>b bp) else if ((a==23)=true) then (Aar N a (a==23) e f g h i j a d c (fun bq=>b bq) fun br bs bt=>Aap N br bs bt fun bu=>b bu) else if ((a==18)=true) then (Aar N a (a==18) e f g h i j a d c (fun bv=>b bv) fun bw bx bz=>Aap N bw bx bz fun ca=>b ca) else Aar N a (a==28) e f g h i j a d c (fun cb=>b cb) fun cc cd ce=>Aap N cc cd ce fun cf=>b cf) else if ((a==1)=true) then (b true) else if ((a==2)=true) then (Aar N a (a==2) e f g h i j a d c (fun cg=>b cg) fun ch ci cj=>Aap N ch ci cj fun ck=>b ck) else if ((a==3)=true) then (Aar N a (a==3) e f g h i j a d c (fun cl=>b cl) fun cm cn co=>Aap N cm cn co fun cp=>b cp) else if ((a==4)=true) then (Aar N a (a==4) e f g h i j a d c (fun cq=>b cq) fun cr cs ct=>Aap N cr cs ct fun cu=>b cu) else if ((a==23)=true) then (Aar N a (a==23) e f g h i j a d c (fun cv=>b cv) fun cw cx cy=>Aap N cw cx cy fun cz=>b cz) else if ((a==18)=true) then (Aar N a (a==18) e f g h i j a d c (fun da=>b da) fun db dc dd=>Aap N db dc dd fun de=>b de) else Aar N a (a==28) e f g h i j a d c (fun df=>b df) fun dg dh di=>Aap N dg dh di fun dj=>b dj
def Aen:Aoh:=@Asa @Aan @Aar @Aap
def Cof (N:Nat):Abn A6s [Atk]:=fun R x C=>Aen N x.1.1.1 x.1.1.2.1 x.1.1.2.2.1 x.1.1.2.2.2.1 x.1.1.2.2.2.2.1 x.1.1.2.2.2.2.2.1 x.1.2.1.1 x.1.2.1.2.1 x.1.2.1.2.2.1 (fun y0=>C.1 ((y0,()),(())))
def A6t (Aen:Aoh) (N:Nat):Go.AX.Aaj:=Acr [true,true] [] false 2 0 A6s [Atk] (fun R x C=>Aen N x.1.1.1 x.1.1.2.1 x.1.1.2.2.1 x.1.1.2.2.2.1 x.1.1.2.2.2.2.1 x.1.1.2.2.2.2.2.1 x.1.2.1.1 x.1.2.1.2.1 x.1.2.1.2.2.1 (fun y0=>C.1 ((y0,()),(()))))
def Bjd (N:Nat):Go.AX.Aaj:=A6t @Aen N
def Cog (N:Nat):List (Nat×Acp):=[(68,Aaa Afy (Bap N)),(44,Aaa Afz (Bar N)),(36,Aaa Af0 (Bat N)),(28,Aaa Af1 (Bav N)),(82,Aaa Af2 (Bax N))]
def B1j (N:Nat):List (Nat×Go.AX.Aaj):=[(172,A6p N)]
def Aiy:Aac:=⟨Cni,Asz⟩
def Asb:Aac:=⟨Bbm,[]⟩
def Asc:Aac:=⟨Cdq,Asz⟩
def Bgq:Ac4:=.cons .ret Asb (.cons (.exit 0) Asc (.nil))
abbrev A36 (R:Type):=Int->(List UInt8)->d3->d2->d1->Int->Int->(Int->Option R)->((List UInt8)->d3->d2->d1->Int->Int->Option R)->Option R
abbrev Bgr (R:Type):=Int->(List UInt8)->d3->d2->d1->Int->Int->Option R
abbrev Avq:={R:Type}→Nat→Nat→A36 R
def A37 (Aen:Aoh) {R:Type} (N:Nat) (rc:Bgr R):A36 R:=fun b c d a e f g h i=>if ((decide (b<(len a)))=true) then (if (0≤b∧b<len a) then (Aen N c d a e f g ((a.getD b.toNat (0,(0,0))).1) ((a.getD b.toNat (0,(0,0))).2.1) ((a.getD b.toNat (0,(0,0))).2.2) fun j=>if ((!j)=true) then (h 60) else rc (wi (b+1)) c d a e f g) else none) else i c d a e f g
def Aet {R:Type} (N:Nat):Nat→A36 R
 | 0=>fun _ _ _ _ _ _ _ _ _=>none
 | k+1=>fun a b c d e f g h i=>A37 @Aen N (fun a b c d e f g=>Aet N k a b c d e f g h i) a b c d e f g h i
def A38 (Aet:Avq) (N k:Nat):Aas Aiy:=fun R x K=>Aet N k x.1.2.1 x.2.1.1 x.2.1.2.1 x.2.1.2.2.1 x.2.1.2.2.2.1 x.2.1.2.2.2.2.1 x.2.1.2.2.2.2.2.1 (fun y0=>K .ret (Aab Asb ((y0,()),(())))) (fun y0 y1 y2 y3 y4 y5=>K (.exit 0) (Aab Asc (((),()),((y0,y1,y2,y3,y4,y5,()),()))))
def A39 (N k:Nat):Aas Aiy:=A38 @Aet N k
def Ahj:Code:=Tryz.f109.body.getD .skip
def Bmj:Code:=Tryz.f173.body.getD .skip
def A84:Aac:=⟨Cbo,[]⟩
def Avr:Aac:=⟨Ah6,[]⟩
abbrev B41 (R:Type):=Int->Int->Int->(Bool->Option R)->Option R
abbrev Ajo:={R:Type}→Nat→B41 R
def Aaz:Ajo:=fun {R} N a c d b=>if ((a != 20)=true) then (if ((a != 25)=true) then (if ((a != 26)=true) then (if ((a != 27)=true) then (if ((a != 29)=true) then (b (a != 30)) else b false) else b false) else b false) else b false) else b false
def B42 (N:Nat):Abn A84 [Avr]:=fun R x C=>Aaz N x.1.1.1 x.1.1.2.1 x.1.1.2.2.1 (fun y0=>C.1 ((y0,()),(())))
def Ano (Aaz:Ajo) (N:Nat):Go.AX.Aaj:=Acr [true] [] false 1 0 A84 [Avr] (fun R x C=>Aaz N x.1.1.1 x.1.1.2.1 x.1.1.2.2.1 (fun y0=>C.1 ((y0,()),(()))))
def A85 (N:Nat):Go.AX.Aaj:=Ano @Aaz N
def B43 (N:Nat):List (Nat×Acp):=[]
def Bmk (N:Nat):List (Nat×Go.AX.Aaj):=[]
def Aiz:Aac:=⟨[wq4,A1a,A1b,Bbl,A2x,(7,.one (.ptr 33)),Crz],Btt⟩
end
end Q

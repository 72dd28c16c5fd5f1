/- Part D1 of the proof. -/
import Derived.Test.YtjdklngopfpjgaaGreatDoorX7
import Derived.Test.YtjdklngopfpjgaaGreatDoorProg
import Derived.KernelRfl
open Go Go.AX Go.Proofs
namespace Q
noncomputable section
set_option maxRecDepth 100000
set_option linter.unusedVariables false
abbrev z0:Ty:=.pair (.int .i64) (.int .i64)
abbrev z1:Ty:=.list z0
abbrev z2:Ty:=.pair (.int .i64) z0
abbrev z3:Ty:=.list (.pair .str (.pair .bool (.list (.int .i64))))
abbrev z4:Ty:=.list z2
abbrev z5:Ty:=.pair (.int .i64) z2
abbrev z6:Ty:=.list (.pair (.int .i64) z5)
abbrev d0:Type:=List (Int)
abbrev d1:Type:=List ((Int×Int))
abbrev d2:Type:=List ((Int×(Int×Int)))
abbrev d3:Type:=List ((List UInt8×(Bool×d0)))
abbrev d4:Type:=List ((Int×(Int×(Int×(Int×Int)))))
def types:List Nat:=[64,118,43,3,4,111,24,57,112,110,1,45,5,38,9,30,34,113,114,188,115,116,198,0,68,47,135,22,36,23,71,194,2,121,89,87,91,27,25,109,149,96,101,99,107,97,39,130,31,131,78,80,82,200,226,216,225,218,20,217,215,199,203,83,55,52,166,167,170,207,125,161,49]
def tt:TT:=[(64,(.mk (.ptr 118) 1 8 (.some [(.a .nilptr)]) false)),(118,(.mk (.struct [(0,(2,43)),(2,(1,111)),(3,(1,3)),(4,(1,3)),(5,(1,24)),(6,(1,112)),(7,(1,110)),(8,(1,1)),(9,(1,45)),(10,(1,4)),(11,(5,38)),(16,(1,3)),(17,(1,34)),(18,(1,113)),(19,(1,9)),(20,(1,3)),(21,(1,114)),(22,(1,115)),(23,(1,116)),(24,(1,34))]) 25 296 (.some [(.a (.val (.int .i64) ((0:Int):Int))),(.a (.val .bool (false:Bool))),(.a .nilptr),(.a (.val (.int .i64) ((0:Int):Int))),(.a (.val (.int .i64) ((0:Int):Int))),(.a .nilsl),(.a .nilfn),(.a .nilfn),(.a .nilfn),(.a .nilsl),(.a (.val .bool (false:Bool))),(.a (.val .str (([]:List UInt8):List UInt8))),(.a (.val (.int .i64) ((0:Int):Int))),(.a (.val (.int .i64) ((0:Int):Int))),(.a (.val (.int .i64) ((0:Int):Int))),(.a (.val (.int .i64) ((0:Int):Int))),(.a (.val (.int .i64) ((0:Int):Int))),(.a .nilsl),(.a .nilmap),(.a (.val .str (([]:List UInt8):List UInt8))),(.a (.val (.int .i64) ((0:Int):Int))),(.a .nilptr),(.a .nilmap),(.a .nilsl),(.a .nilsl)]) true)),(43,(.mk (.struct [(0,(1,3)),(1,(1,4))]) 2 16 (.some [(.a (.val (.int .i64) ((0:Int):Int))),(.a (.val .bool (false:Bool)))]) true)),(3,(.mk (.int .i64) 1 8 (.some [(.a (.val (.int .i64) ((0:Int):Int)))]) false)),(4,(.mk .bool 1 1 (.some [(.a (.val .bool (false:Bool)))]) false)),(111,(.mk (.ptr 197) 1 8 (.some [(.a .nilptr)]) false)),(24,(.mk (.slice 57) 1 24 (.some [(.a .nilsl)]) false)),(57,(.mk (.struct [(0,(1,3)),(1,(1,3)),(2,(1,3))]) 3 24 (.some [(.a (.val (.int .i64) ((0:Int):Int))),(.a (.val (.int .i64) ((0:Int):Int))),(.a (.val (.int .i64) ((0:Int):Int)))]) true)),(112,(.mk .func 1 8 (.some [(.a .nilfn)]) false)),(110,(.mk .func 1 8 (.some [(.a .nilfn)]) false)),(1,(.mk .func 1 8 (.some [(.a .nilfn)]) false)),(45,(.mk (.slice 5) 1 24 (.some [(.a .nilsl)]) false)),(5,(.mk (.int .u8) 1 1 (.some [(.a (.val (.int .u8) ((0:Int):Int)))]) false)),(38,(.mk (.struct [(0,(1,9)),(1,(1,3)),(2,(1,3)),(3,(1,30)),(4,(1,3))]) 5 48 (.some [(.a (.val .str (([]:List UInt8):List UInt8))),(.a (.val (.int .i64) ((0:Int):Int))),(.a (.val (.int .i64) ((0:Int):Int))),(.a (.val (.int .i64) ((0:Int):Int))),(.a (.val (.int .i64) ((0:Int):Int)))]) true)),(9,(.mk .str 1 16 (.some [(.a (.val .str (([]:List UInt8):List UInt8)))]) false)),(30,(.mk (.int .i64) 1 8 (.some [(.a (.val (.int .i64) ((0:Int):Int)))]) false)),(34,(.mk (.slice 3) 1 24 (.some [(.a .nilsl)]) false)),(113,(.mk (.map 3 3) 1 8 (.some [(.a .nilmap)]) false)),(114,(.mk (.ptr 188) 1 8 (.some [(.a .nilptr)]) false)),(188,(.mk (.struct [(0,(1,3)),(1,(1,3)),(2,(1,3)),(3,(1,4)),(4,(1,4)),(5,(1,3)),(6,(1,3)),(7,(1,3)),(8,(1,114))]) 9 64 (.some [(.a (.val (.int .i64) ((0:Int):Int))),(.a (.val (.int .i64) ((0:Int):Int))),(.a (.val (.int .i64) ((0:Int):Int))),(.a (.val .bool (false:Bool))),(.a (.val .bool (false:Bool))),(.a (.val (.int .i64) ((0:Int):Int))),(.a (.val (.int .i64) ((0:Int):Int))),(.a (.val (.int .i64) ((0:Int):Int))),(.a .nilptr)]) true)),(115,(.mk (.map 3 114) 1 8 (.some [(.a .nilmap)]) false)),(116,(.mk (.slice 198) 1 24 (.some [(.a .nilsl)]) false)),(198,(.mk .func 1 8 (.some [(.a .nilfn)]) false)),(0,(.mk .other 1 0 (.some [(.a .undef)]) false)),(68,(.mk .func 1 8 (.some [(.a .nilfn)]) false)),(47,(.mk (.struct [(0,(1,3)),(1,(1,3)),(2,(1,3)),(3,(1,3)),(4,(1,3))]) 5 40 (.some [(.a (.val (.int .i64) ((0:Int):Int))),(.a (.val (.int .i64) ((0:Int):Int))),(.a (.val (.int .i64) ((0:Int):Int))),(.a (.val (.int .i64) ((0:Int):Int))),(.a (.val (.int .i64) ((0:Int):Int)))]) true)),(135,(.mk .func 1 8 (.some [(.a .nilfn)]) false)),(22,(.mk (.slice 36) 1 24 (.some [(.a .nilsl)]) false)),(36,(.mk (.struct [(0,(1,9)),(1,(1,4)),(2,(1,34))]) 3 48 (.some [(.a (.val .str (([]:List UInt8):List UInt8))),(.a (.val .bool (false:Bool))),(.a .nilsl)]) true)),(23,(.mk (.slice 71) 1 24 (.some [(.a .nilsl)]) false)),(71,(.mk (.struct [(0,(1,3)),(1,(1,3))]) 2 16 (.some [(.a (.val (.int .i64) ((0:Int):Int))),(.a (.val (.int .i64) ((0:Int):Int)))]) true)),(194,(.mk .other 1 0 (.some [(.a .undef)]) false)),(2,(.mk (.int .i64) 1 8 (.some [(.a (.val (.int .i64) ((0:Int):Int)))]) false)),(121,(.mk .other 1 0 (.some [(.a .undef)]) false)),(89,(.mk (.struct [(0,(1,9)),(1,(1,22)),(2,(1,87)),(3,(1,23)),(4,(1,3)),(5,(1,3))]) 6 104 (.some [(.a (.val .str (([]:List UInt8):List UInt8))),(.a .nilsl),(.a .nilsl),(.a .nilsl),(.a (.val (.int .i64) ((0:Int):Int))),(.a (.val (.int .i64) ((0:Int):Int)))]) true)),(87,(.mk (.slice 91) 1 24 (.some [(.a .nilsl)]) false)),(91,(.mk (.struct [(0,(1,3)),(1,(1,3)),(2,(1,3))]) 3 24 (.some [(.a (.val (.int .i64) ((0:Int):Int))),(.a (.val (.int .i64) ((0:Int):Int))),(.a (.val (.int .i64) ((0:Int):Int)))]) true)),(27,(.mk (.struct [(0,(1,9)),(1,(1,22)),(2,(1,23)),(3,(1,24)),(4,(1,25))]) 5 112 (.some [(.a (.val .str (([]:List UInt8):List UInt8))),(.a .nilsl),(.a .nilsl),(.a .nilsl),(.a .nilsl)]) true)),(25,(.mk (.slice 47) 1 24 (.some [(.a .nilsl)]) false)),(109,(.mk .func 1 8 (.some [(.a .nilfn)]) false)),(149,(.mk .other 1 0 (.some [(.a .undef)]) false)),(96,(.mk (.ptr 101) 1 8 (.some [(.a .nilptr)]) false)),(101,(.mk (.struct [(0,(1,64)),(1,(1,25)),(2,(8,99))]) 10 96 (.some [(.a .nilptr),(.a .nilsl),(.a (.val (.int .i64) ((0:Int):Int))),(.a (.val (.int .i64) ((0:Int):Int))),(.a (.val (.int .i64) ((0:Int):Int))),(.a (.val (.int .i64) ((0:Int):Int))),(.a (.val (.int .i64) ((0:Int):Int))),(.a (.val (.int .i64) ((0:Int):Int))),(.a (.val (.int .i64) ((0:Int):Int))),(.a (.val (.int .i64) ((0:Int):Int)))]) true)),(99,(.mk (.arr 8 3) 8 64 (.some [(.a (.val (.int .i64) ((0:Int):Int))),(.a (.val (.int .i64) ((0:Int):Int))),(.a (.val (.int .i64) ((0:Int):Int))),(.a (.val (.int .i64) ((0:Int):Int))),(.a (.val (.int .i64) ((0:Int):Int))),(.a (.val (.int .i64) ((0:Int):Int))),(.a (.val (.int .i64) ((0:Int):Int))),(.a (.val (.int .i64) ((0:Int):Int)))]) false)),(107,(.mk .other 1 0 (.some [(.a .undef)]) false)),(97,(.mk .other 1 0 (.some [(.a .undef)]) false)),(39,(.mk .other 1 0 (.some [(.a .undef)]) false)),(130,(.mk (.struct [(0,(1,34)),(1,(1,34))]) 2 48 (.some [(.a .nilsl),(.a .nilsl)]) true)),(31,(.mk .other 1 0 (.some [(.a .undef)]) false)),(131,(.mk .other 1 0 (.some [(.a .undef)]) false)),(78,(.mk (.ptr 80) 1 8 (.some [(.a .nilptr)]) false)),(80,(.mk (.struct [(0,(1,78)),(1,(1,45))]) 2 32 (.some [(.a .nilptr),(.a .nilsl)]) true)),(82,(.mk .iface 1 16 (.some [(.a .nilif)]) false)),(200,(.mk (.int .u64) 1 8 (.some [(.a (.val (.int .u64) ((0:Int):Int)))]) false)),(226,(.mk (.arr 64 5) 64 64 (.some [(.a (.val (.int .u8) ((0:Int):Int))),(.a (.val (.int .u8) ((0:Int):Int))),(.a (.val (.int .u8) ((0:Int):Int))),(.a (.val (.int .u8) ((0:Int):Int))),(.a (.val (.int .u8) ((0:Int):Int))),(.a (.val (.int .u8) ((0:Int):Int))),(.a (.val (.int .u8) ((0:Int):Int))),(.a (.val (.int .u8) ((0:Int):Int))),(.a (.val (.int .u8) ((0:Int):Int))),(.a (.val (.int .u8) ((0:Int):Int))),(.a (.val (.int .u8) ((0:Int):Int))),(.a (.val (.int .u8) ((0:Int):Int))),(.a (.val (.int .u8) ((0:Int):Int))),(.a (.val (.int .u8) ((0:Int):Int))),(.a (.val (.int .u8) ((0:Int):Int))),(.a (.val (.int .u8) ((0:Int):Int))),(.a (.val (.int .u8) ((0:Int):Int))),(.a (.val (.int .u8) ((0:Int):Int))),(.a (.val (.int .u8) ((0:Int):Int))),(.a (.val (.int .u8) ((0:Int):Int))),(.a (.val (.int .u8) ((0:Int):Int))),(.a (.val (.int .u8) ((0:Int):Int))),(.a (.val (.int .u8) ((0:Int):Int))),(.a (.val (.int .u8) ((0:Int):Int))),(.a (.val (.int .u8) ((0:Int):Int))),(.a (.val (.int .u8) ((0:Int):Int))),(.a (.val (.int .u8) ((0:Int):Int))),(.a (.val (.int .u8) ((0:Int):Int))),(.a (.val (.int .u8) ((0:Int):Int))),(.a (.val (.int .u8) ((0:Int):Int))),(.a (.val (.int .u8) ((0:Int):Int))),(.a (.val (.int .u8) ((0:Int):Int))),(.a (.val (.int .u8) ((0:Int):Int))),(.a (.val (.int .u8) ((0:Int):Int))),(.a (.val (.int .u8) ((0:Int):Int))),(.a (.val (.int .u8) ((0:Int):Int))),(.a (.val (.int .u8) ((0:Int):Int))),(.a (.val (.int .u8) ((0:Int):Int))),(.a (.val (.int .u8) ((0:Int):Int))),(.a (.val (.int .u8) ((0:Int):Int))),(.a (.val (.int .u8) ((0:Int):Int))),(.a (.val (.int .u8) ((0:Int):Int))),(.a (.val (.int .u8) ((0:Int):Int))),(.a (.val (.int .u8) ((0:Int):Int))),(.a (.val (.int .u8) ((0:Int):Int))),(.a (.val (.int .u8) ((0:Int):Int))),(.a (.val (.int .u8) ((0:Int):Int))),(.a (.val (.int .u8) ((0:Int):Int))),(.a (.val (.int .u8) ((0:Int):Int))),(.a (.val (.int .u8) ((0:Int):Int))),(.a (.val (.int .u8) ((0:Int):Int))),(.a (.val (.int .u8) ((0:Int):Int))),(.a (.val (.int .u8) ((0:Int):Int))),(.a (.val (.int .u8) ((0:Int):Int))),(.a (.val (.int .u8) ((0:Int):Int))),(.a (.val (.int .u8) ((0:Int):Int))),(.a (.val (.int .u8) ((0:Int):Int))),(.a (.val (.int .u8) ((0:Int):Int))),(.a (.val (.int .u8) ((0:Int):Int))),(.a (.val (.int .u8) ((0:Int):Int))),(.a (.val (.int .u8) ((0:Int):Int))),(.a (.val (.int .u8) ((0:Int):Int))),(.a (.val (.int .u8) ((0:Int):Int))),(.a (.val (.int .u8) ((0:Int):Int)))]) false)),(216,(.mk (.int .u32) 1 4 (.some [(.a (.val (.int .u32) ((0:Int):Int)))]) false)),(225,(.mk (.arr 32 5) 32 32 (.some [(.a (.val (.int .u8) ((0:Int):Int))),(.a (.val (.int .u8) ((0:Int):Int))),(.a (.val (.int .u8) ((0:Int):Int))),(.a (.val (.int .u8) ((0:Int):Int))),(.a (.val (.int .u8) ((0:Int):Int))),(.a (.val (.int .u8) ((0:Int):Int))),(.a (.val (.int .u8) ((0:Int):Int))),(.a (.val (.int .u8) ((0:Int):Int))),(.a (.val (.int .u8) ((0:Int):Int))),(.a (.val (.int .u8) ((0:Int):Int))),(.a (.val (.int .u8) ((0:Int):Int))),(.a (.val (.int .u8) ((0:Int):Int))),(.a (.val (.int .u8) ((0:Int):Int))),(.a (.val (.int .u8) ((0:Int):Int))),(.a (.val (.int .u8) ((0:Int):Int))),(.a (.val (.int .u8) ((0:Int):Int))),(.a (.val (.int .u8) ((0:Int):Int))),(.a (.val (.int .u8) ((0:Int):Int))),(.a (.val (.int .u8) ((0:Int):Int))),(.a (.val (.int .u8) ((0:Int):Int))),(.a (.val (.int .u8) ((0:Int):Int))),(.a (.val (.int .u8) ((0:Int):Int))),(.a (.val (.int .u8) ((0:Int):Int))),(.a (.val (.int .u8) ((0:Int):Int))),(.a (.val (.int .u8) ((0:Int):Int))),(.a (.val (.int .u8) ((0:Int):Int))),(.a (.val (.int .u8) ((0:Int):Int))),(.a (.val (.int .u8) ((0:Int):Int))),(.a (.val (.int .u8) ((0:Int):Int))),(.a (.val (.int .u8) ((0:Int):Int))),(.a (.val (.int .u8) ((0:Int):Int))),(.a (.val (.int .u8) ((0:Int):Int)))]) false)),(218,(.mk (.int .u64) 1 8 (.some [(.a (.val (.int .u64) ((0:Int):Int)))]) false)),(20,(.mk .iface 1 16 (.some [(.a .nilif)]) false)),(217,(.mk (.arr 65 5) 65 65 (.some [(.a (.val (.int .u8) ((0:Int):Int))),(.a (.val (.int .u8) ((0:Int):Int))),(.a (.val (.int .u8) ((0:Int):Int))),(.a (.val (.int .u8) ((0:Int):Int))),(.a (.val (.int .u8) ((0:Int):Int))),(.a (.val (.int .u8) ((0:Int):Int))),(.a (.val (.int .u8) ((0:Int):Int))),(.a (.val (.int .u8) ((0:Int):Int))),(.a (.val (.int .u8) ((0:Int):Int))),(.a (.val (.int .u8) ((0:Int):Int))),(.a (.val (.int .u8) ((0:Int):Int))),(.a (.val (.int .u8) ((0:Int):Int))),(.a (.val (.int .u8) ((0:Int):Int))),(.a (.val (.int .u8) ((0:Int):Int))),(.a (.val (.int .u8) ((0:Int):Int))),(.a (.val (.int .u8) ((0:Int):Int))),(.a (.val (.int .u8) ((0:Int):Int))),(.a (.val (.int .u8) ((0:Int):Int))),(.a (.val (.int .u8) ((0:Int):Int))),(.a (.val (.int .u8) ((0:Int):Int))),(.a (.val (.int .u8) ((0:Int):Int))),(.a (.val (.int .u8) ((0:Int):Int))),(.a (.val (.int .u8) ((0:Int):Int))),(.a (.val (.int .u8) ((0:Int):Int))),(.a (.val (.int .u8) ((0:Int):Int))),(.a (.val (.int .u8) ((0:Int):Int))),(.a (.val (.int .u8) ((0:Int):Int))),(.a (.val (.int .u8) ((0:Int):Int))),(.a (.val (.int .u8) ((0:Int):Int))),(.a (.val (.int .u8) ((0:Int):Int))),(.a (.val (.int .u8) ((0:Int):Int))),(.a (.val (.int .u8) ((0:Int):Int))),(.a (.val (.int .u8) ((0:Int):Int))),(.a (.val (.int .u8) ((0:Int):Int))),(.a (.val (.int .u8) ((0:Int):Int))),(.a (.val (.int .u8) ((0:Int):Int))),(.a (.val (.int .u8) ((0:Int):Int))),(.a (.val (.int .u8) ((0:Int):Int))),(.a (.val (.int .u8) ((0:Int):Int))),(.a (.val (.int .u8) ((0:Int):Int))),(.a (.val (.int .u8) ((0:Int):Int))),(.a (.val (.int .u8) ((0:Int):Int))),(.a (.val (.int .u8) ((0:Int):Int))),(.a (.val (.int .u8) ((0:Int):Int))),(.a (.val (.int .u8) ((0:Int):Int))),(.a (.val (.int .u8) ((0:Int):Int))),(.a (.val (.int .u8) ((0:Int):Int))),(.a (.val (.int .u8) ((0:Int):Int))),(.a (.val (.int .u8) ((0:Int):Int))),(.a (.val (.int .u8) ((0:Int):Int))),(.a (.val (.int .u8) ((0:Int):Int))),(.a (.val (.int .u8) ((0:Int):Int))),(.a (.val (.int .u8) ((0:Int):Int))),(.a (.val (.int .u8) ((0:Int):Int))),(.a (.val (.int .u8) ((0:Int):Int))),(.a (.val (.int .u8) ((0:Int):Int))),(.a (.val (.int .u8) ((0:Int):Int))),(.a (.val (.int .u8) ((0:Int):Int))),(.a (.val (.int .u8) ((0:Int):Int))),(.a (.val (.int .u8) ((0:Int):Int))),(.a (.val (.int .u8) ((0:Int):Int))),(.a (.val (.int .u8) ((0:Int):Int))),(.a (.val (.int .u8) ((0:Int):Int))),(.a (.val (.int .u8) ((0:Int):Int))),(.a (.val (.int .u8) ((0:Int):Int)))]) false)),(215,(.mk (.arr 20 200) 20 160 (.some [(.a (.val (.int .u64) ((0:Int):Int))),(.a (.val (.int .u64) ((0:Int):Int))),(.a (.val (.int .u64) ((0:Int):Int))),(.a (.val (.int .u64) ((0:Int):Int))),(.a (.val (.int .u64) ((0:Int):Int))),(.a (.val (.int .u64) ((0:Int):Int))),(.a (.val (.int .u64) ((0:Int):Int))),(.a (.val (.int .u64) ((0:Int):Int))),(.a (.val (.int .u64) ((0:Int):Int))),(.a (.val (.int .u64) ((0:Int):Int))),(.a (.val (.int .u64) ((0:Int):Int))),(.a (.val (.int .u64) ((0:Int):Int))),(.a (.val (.int .u64) ((0:Int):Int))),(.a (.val (.int .u64) ((0:Int):Int))),(.a (.val (.int .u64) ((0:Int):Int))),(.a (.val (.int .u64) ((0:Int):Int))),(.a (.val (.int .u64) ((0:Int):Int))),(.a (.val (.int .u64) ((0:Int):Int))),(.a (.val (.int .u64) ((0:Int):Int))),(.a (.val (.int .u64) ((0:Int):Int)))]) false)),(199,(.mk (.arr 24 5) 24 24 (.some [(.a (.val (.int .u8) ((0:Int):Int))),(.a (.val (.int .u8) ((0:Int):Int))),(.a (.val (.int .u8) ((0:Int):Int))),(.a (.val (.int .u8) ((0:Int):Int))),(.a (.val (.int .u8) ((0:Int):Int))),(.a (.val (.int .u8) ((0:Int):Int))),(.a (.val (.int .u8) ((0:Int):Int))),(.a (.val (.int .u8) ((0:Int):Int))),(.a (.val (.int .u8) ((0:Int):Int))),(.a (.val (.int .u8) ((0:Int):Int))),(.a (.val (.int .u8) ((0:Int):Int))),(.a (.val (.int .u8) ((0:Int):Int))),(.a (.val (.int .u8) ((0:Int):Int))),(.a (.val (.int .u8) ((0:Int):Int))),(.a (.val (.int .u8) ((0:Int):Int))),(.a (.val (.int .u8) ((0:Int):Int))),(.a (.val (.int .u8) ((0:Int):Int))),(.a (.val (.int .u8) ((0:Int):Int))),(.a (.val (.int .u8) ((0:Int):Int))),(.a (.val (.int .u8) ((0:Int):Int))),(.a (.val (.int .u8) ((0:Int):Int))),(.a (.val (.int .u8) ((0:Int):Int))),(.a (.val (.int .u8) ((0:Int):Int))),(.a (.val (.int .u8) ((0:Int):Int)))]) false)),(203,(.mk .other 1 0 (.some [(.a .undef)]) false)),(83,(.mk .other 1 0 (.some [(.a .undef)]) false)),(55,(.mk .func 1 8 (.some [(.a .nilfn)]) false)),(52,(.mk .func 1 8 (.some [(.a .nilfn)]) false)),(166,(.mk (.struct [(0,(1,9)),(1,(1,3)),(2,(1,3)),(3,(1,3))]) 4 40 (.some [(.a (.val .str (([]:List UInt8):List UInt8))),(.a (.val (.int .i64) ((0:Int):Int))),(.a (.val (.int .i64) ((0:Int):Int))),(.a (.val (.int .i64) ((0:Int):Int)))]) true)),(167,(.mk (.arr 31 166) 124 1240 (.some [(.a (.val .str (([]:List UInt8):List UInt8))),(.a (.val (.int .i64) ((0:Int):Int))),(.a (.val (.int .i64) ((0:Int):Int))),(.a (.val (.int .i64) ((0:Int):Int))),(.a (.val .str (([]:List UInt8):List UInt8))),(.a (.val (.int .i64) ((0:Int):Int))),(.a (.val (.int .i64) ((0:Int):Int))),(.a (.val (.int .i64) ((0:Int):Int))),(.a (.val .str (([]:List UInt8):List UInt8))),(.a (.val (.int .i64) ((0:Int):Int))),(.a (.val (.int .i64) ((0:Int):Int))),(.a (.val (.int .i64) ((0:Int):Int))),(.a (.val .str (([]:List UInt8):List UInt8))),(.a (.val (.int .i64) ((0:Int):Int))),(.a (.val (.int .i64) ((0:Int):Int))),(.a (.val (.int .i64) ((0:Int):Int))),(.a (.val .str (([]:List UInt8):List UInt8))),(.a (.val (.int .i64) ((0:Int):Int))),(.a (.val (.int .i64) ((0:Int):Int))),(.a (.val (.int .i64) ((0:Int):Int))),(.a (.val .str (([]:List UInt8):List UInt8))),(.a (.val (.int .i64) ((0:Int):Int))),(.a (.val (.int .i64) ((0:Int):Int))),(.a (.val (.int .i64) ((0:Int):Int))),(.a (.val .str (([]:List UInt8):List UInt8))),(.a (.val (.int .i64) ((0:Int):Int))),(.a (.val (.int .i64) ((0:Int):Int))),(.a (.val (.int .i64) ((0:Int):Int))),(.a (.val .str (([]:List UInt8):List UInt8))),(.a (.val (.int .i64) ((0:Int):Int))),(.a (.val (.int .i64) ((0:Int):Int))),(.a (.val (.int .i64) ((0:Int):Int))),(.a (.val .str (([]:List UInt8):List UInt8))),(.a (.val (.int .i64) ((0:Int):Int))),(.a (.val (.int .i64) ((0:Int):Int))),(.a (.val (.int .i64) ((0:Int):Int))),(.a (.val .str (([]:List UInt8):List UInt8))),(.a (.val (.int .i64) ((0:Int):Int))),(.a (.val (.int .i64) ((0:Int):Int))),(.a (.val (.int .i64) ((0:Int):Int))),(.a (.val .str (([]:List UInt8):List UInt8))),(.a (.val (.int .i64) ((0:Int):Int))),(.a (.val (.int .i64) ((0:Int):Int))),(.a (.val (.int .i64) ((0:Int):Int))),(.a (.val .str (([]:List UInt8):List UInt8))),(.a (.val (.int .i64) ((0:Int):Int))),(.a (.val (.int .i64) ((0:Int):Int))),(.a (.val (.int .i64) ((0:Int):Int))),(.a (.val .str (([]:List UInt8):List UInt8))),(.a (.val (.int .i64) ((0:Int):Int))),(.a (.val (.int .i64) ((0:Int):Int))),(.a (.val (.int .i64) ((0:Int):Int))),(.a (.val .str (([]:List UInt8):List UInt8))),(.a (.val (.int .i64) ((0:Int):Int))),(.a (.val (.int .i64) ((0:Int):Int))),(.a (.val (.int .i64) ((0:Int):Int))),(.a (.val .str (([]:List UInt8):List UInt8))),(.a (.val (.int .i64) ((0:Int):Int))),(.a (.val (.int .i64) ((0:Int):Int))),(.a (.val (.int .i64) ((0:Int):Int))),(.a (.val .str (([]:List UInt8):List UInt8))),(.a (.val (.int .i64) ((0:Int):Int))),(.a (.val (.int .i64) ((0:Int):Int))),(.a (.val (.int .i64) ((0:Int):Int))),(.a (.val .str (([]:List UInt8):List UInt8))),(.a (.val (.int .i64) ((0:Int):Int))),(.a (.val (.int .i64) ((0:Int):Int))),(.a (.val (.int .i64) ((0:Int):Int))),(.a (.val .str (([]:List UInt8):List UInt8))),(.a (.val (.int .i64) ((0:Int):Int))),(.a (.val (.int .i64) ((0:Int):Int))),(.a (.val (.int .i64) ((0:Int):Int))),(.a (.val .str (([]:List UInt8):List UInt8))),(.a (.val (.int .i64) ((0:Int):Int))),(.a (.val (.int .i64) ((0:Int):Int))),(.a (.val (.int .i64) ((0:Int):Int))),(.a (.val .str (([]:List UInt8):List UInt8))),(.a (.val (.int .i64) ((0:Int):Int))),(.a (.val (.int .i64) ((0:Int):Int))),(.a (.val (.int .i64) ((0:Int):Int))),(.a (.val .str (([]:List UInt8):List UInt8))),(.a (.val (.int .i64) ((0:Int):Int))),(.a (.val (.int .i64) ((0:Int):Int))),(.a (.val (.int .i64) ((0:Int):Int))),(.a (.val .str (([]:List UInt8):List UInt8))),(.a (.val (.int .i64) ((0:Int):Int))),(.a (.val (.int .i64) ((0:Int):Int))),(.a (.val (.int .i64) ((0:Int):Int))),(.a (.val .str (([]:List UInt8):List UInt8))),(.a (.val (.int .i64) ((0:Int):Int))),(.a (.val (.int .i64) ((0:Int):Int))),(.a (.val (.int .i64) ((0:Int):Int))),(.a (.val .str (([]:List UInt8):List UInt8))),(.a (.val (.int .i64) ((0:Int):Int))),(.a (.val (.int .i64) ((0:Int):Int))),(.a (.val (.int .i64) ((0:Int):Int))),(.a (.val .str (([]:List UInt8):List UInt8))),(.a (.val (.int .i64) ((0:Int):Int))),(.a (.val (.int .i64) ((0:Int):Int))),(.a (.val (.int .i64) ((0:Int):Int))),(.a (.val .str (([]:List UInt8):List UInt8))),(.a (.val (.int .i64) ((0:Int):Int))),(.a (.val (.int .i64) ((0:Int):Int))),(.a (.val (.int .i64) ((0:Int):Int))),(.a (.val .str (([]:List UInt8):List UInt8))),(.a (.val (.int .i64) ((0:Int):Int))),(.a (.val (.int .i64) ((0:Int):Int))),(.a (.val (.int .i64) ((0:Int):Int))),(.a (.val .str (([]:List UInt8):List UInt8))),(.a (.val (.int .i64) ((0:Int):Int))),(.a (.val (.int .i64) ((0:Int):Int))),(.a (.val (.int .i64) ((0:Int):Int))),(.a (.val .str (([]:List UInt8):List UInt8))),(.a (.val (.int .i64) ((0:Int):Int))),(.a (.val (.int .i64) ((0:Int):Int))),(.a (.val (.int .i64) ((0:Int):Int))),(.a (.val .str (([]:List UInt8):List UInt8))),(.a (.val (.int .i64) ((0:Int):Int))),(.a (.val (.int .i64) ((0:Int):Int))),(.a (.val (.int .i64) ((0:Int):Int))),(.a (.val .str (([]:List UInt8):List UInt8))),(.a (.val (.int .i64) ((0:Int):Int))),(.a (.val (.int .i64) ((0:Int):Int))),(.a (.val (.int .i64) ((0:Int):Int)))]) false)),(170,(.mk .other 1 0 (.some [(.a .undef)]) false)),(207,(.mk (.map 3 4) 1 8 (.some [(.a .nilmap)]) false)),(125,(.mk (.ptr 5) 1 8 (.some [(.a .nilptr)]) false)),(161,(.mk .other 1 8 (.some [(.a .nilptr)]) false)),(49,(.mk .other 1 0 (.some [(.a .undef)]) false))]
abbrev nK(R:Type):ASt→(Ex→ASt→Option R)→Option R:=fun _ _=>none
abbrev wq0:Am5:=(.val (.int .i64))
abbrev wq1:Nat×Acj:=(0,.one (.ptr 0))
abbrev wq2:Nat×Acj:=(3,.one (.fn 33))
abbrev wq3:Nat×Acj:=(1,.one (.ptr 32))
abbrev wq4:Nat×Acj:=(3,.one (.ptr 32))
abbrev wq5:Nat×Acj:=(4,.one (.ptr 32))
abbrev wq6:Nat×Acj:=(0,.one (.val z4))
abbrev wq7:Nat×Acj:=(6,.one (.ptr 33))
abbrev wq8:Nat×Acj:=(5,.one (.ptr 32))
abbrev wq9:Nat×Acj:=(0,.one (.val z6))
abbrev Bbr:Nat×Acj:=(3,.one (.ptr 33))
abbrev Ay3:Nat×Acj:=(2,.one (.ptr 32))
abbrev Cd0:Nat×Acj:=(2,.one (.ptr 33))
abbrev Cd1:Nat×Acj:=(4,.one (.ptr 34))
abbrev Ctx:List Am5:=[(.ptr 0),(.slf 1)]
abbrev Cnf:Nat×Acj:=(80,.one (.val z4))
abbrev Crz:Nat×Acj:=(10,.one (.val z6))
abbrev B4r:Nat×Acj:=(0,.one (.val .str))
abbrev Cd2:List (Nat×Acj):=[wq3]
abbrev A3b:List (Nat×Acj):=[wq4]
abbrev Cng:List (Nat×Acj):=[wq8]
abbrev Cr0:Nat×Acj:=(0,.one (.val .bool))
abbrev Cnh:Nat×Afp:=(1,.row 5 (.int .u8))
abbrev Cty:List Am5:=[(.ptr 32),(.slf 33)]
abbrev Bop:Nat×Acj:=(7,.one (.val .bool))
abbrev Boq:Nat×Acj:=(6,.one (.val .bool))
abbrev Cr1:Nat×Acj:=(2,.one (.val .bool))
abbrev Cd3:Nat×Acj:=(4,.one (.val .bool))
abbrev Cni:Nat×Acj:=(5,.one (.val .bool))
abbrev Cnj:Nat×Acj:=(3,.one (.val .bool))
abbrev Bw6:Nat×Acj:=(8,.one (.val .bool))
abbrev Ctz:List Am5:=[(.slf 35),(.slf 36)]
abbrev Ct0:List Am5:=[(.slf 37),(.slf 38)]
abbrev Ct1:List Am5:=[(.slf 33),(.slf 34)]
abbrev Ciz:Nat×Acj:=(1,.one (.fnp 28 [0]))
abbrev Ci0:Nat×Acj:=(2,.one (.fnp 30 [0]))
abbrev Cr2:Nat×Afp:=(33,.row 5 (.int .u8))
abbrev Cnk:List (Nat×Acj):=[B4r]
abbrev Cnl:Nat×Acj:=(43,.one (.val .bool))
abbrev Akf:List (Nat×Acj):=[Cr0]
abbrev Ci1:List (Nat×Acj):=[Boq]
abbrev A1o:List (Nat×Acj):=[Cr1]
abbrev B4s:Nat×Afp:=(33,.row 3 (.int .i64))
abbrev Ci2:Nat×Afp:=(34,.row 3 (.int .i64))
abbrev Cr3:Nat×Afp:=(32,.row 3 (.int .i64))
abbrev Arj:List (Nat×Acj):=[Cd3]
abbrev Ci3:List (Nat×Acj):=[Bw6]
abbrev Ci4:Nat×Acj:=(5,.one (.fnp 63 [33]))
abbrev Cr4:Nat×Afp:=(35,.row 3 (.int .i64))
abbrev Cr5:Nat×Afp:=(36,.row 3 (.int .i64))
abbrev Cr6:Nat×Afp:=(37,.row 3 (.int .i64))
abbrev Ct2:Nat×Afp:=(38,.row 3 (.int .i64))
abbrev Bw7:Am5:=(.val (.list (.int .i64)))
abbrev Aum:Nat×Acj:=(3,.one wq0)
abbrev A1p:Nat×Acj:=(4,.one wq0)
abbrev Am9:Nat×Acj:=(1,.one wq0)
abbrev Bor:Nat×Acj:=(0,.one wq0)
abbrev Bfl:Nat×Acj:=(2,.one wq0)
abbrev Bbs:Nat×Acj:=(5,.one wq0)
abbrev A84:Nat×Acj:=(6,.one wq0)
abbrev Bfm:Nat×Acj:=(9,.one wq0)
abbrev Bos:Nat×Acj:=(7,.one wq0)
abbrev Cd4:Nat×Acj:=(8,.one wq0)
abbrev Cd5:Nat×Acj:=(10,.one wq0)
abbrev B4t:Nat×Acj:=(11,.one wq0)
abbrev Cnm:Nat×Acj:=(12,.one wq0)
abbrev Cnn:Nat×Acj:=(81,.one wq0)
abbrev Cno:Nat×Acj:=(82,.one wq0)
abbrev Ci5:Nat×Acj:=(42,.one wq0)
abbrev Ci6:Nat×Acj:=(40,.one wq0)
abbrev Aun:List (Nat×Acj):=[Bor]
abbrev Ci7:List (Nat×Acj):=[A1p]
abbrev Bbt:List (Nat×Acj):=[Bfl]
abbrev Ci8:List (Nat×Acj):=[Am9]
abbrev Ct3:Nat×Afp:=(0,.cells 80 Ctx)
abbrev Cnp:Nat×Acj:=(0,.one Bw7)
abbrev Ct4:Nat×Afp:=(32,.cells 80 Cty)
abbrev Ct5:Nat×Afp:=(33,.cells 130 Ctz)
abbrev Ct6:Nat×Afp:=(34,.cells 130 Ct0)
abbrev Ct7:Nat×Afp:=(32,.cells 130 Ct1)
abbrev Cnq:List (Nat×Acj):=[Ay3,Cnj]
abbrev Cnr:List (Nat×Acj):=[Bor,(1,.one (.ptr 0))]
abbrev Ci9:List (Nat×Acj):=[wq3,Aum]
abbrev Cns:List (Nat×Acj):=[wq6,Aum]
abbrev B4u:List (Nat×Acj):=[wq6,Am9]
abbrev Cd6:List (Nat×Afp):=[Cr3,B4s]
abbrev Cja:List (Nat×Acj):=[B4r,Am9]
abbrev Cjb:List Am5:=[(.val .str),(.val z3),(.val z1),(.val z4),(.val z6)]
abbrev Cd7:List Am5:=[wq0,wq0,wq0]
abbrev B4v:List (Nat×Afp):=[Ct3,Cnh]
abbrev Bw8:List (Nat×Afp):=[Ct4,Cr2]
abbrev B4w:Nat×Acj:=(0,.agg Cjb)
abbrev B4x:List (Nat×Acj):=[B4w]
abbrev B4y:Nat×Acj:=(0,.agg Cd7)
abbrev Cjc:Nat×Afp:=(0,.cells 27 Cjb)
abbrev Cjd:List (Nat×Acj):=[B4y]
abbrev Bw9:Nat×Afp:=(32,.cells 27 Cjb)
abbrev Cnt:List Am5:=[(.val .str),wq0,wq0,wq0]
abbrev Ct8:Nat×Afp:=(33,.cells 27 Cjb)
abbrev Bkw:List (Nat×Afp):=[Cjc]
abbrev A6c:List (Nat×Afp):=[Bw9]
abbrev Cje:Nat×Afp:=(32,.cells 91 Cd7)
abbrev Ctg:Nat×Afp:=(33,.cells 91 Cd7)
abbrev A2m:List (Nat×Afp):=[Cje]
abbrev Cjf:Nat×Acj:=(2,.agg Cnt)
abbrev Cth:List Am5:=[(.val .str),(.val z3),(.slf 34),(.val z1),wq0,wq0]
abbrev Cb5:List Am5:=[(.val .str),(.val z3),(.val z4),(.val z1),wq0,wq0]
abbrev Cjg:List (Nat×Acj):=[Bor,Am9,Bfl]
abbrev Cti:Nat×Afp:=(33,.cells 166 Cnt)
abbrev B1l:List (Nat×Acj):=[wq4,Boq,Bop,Bw6]
abbrev Cjh:List (Nat×Afp):=[Ct7,B4s,Ci2]
abbrev Cji:Nat×Acj:=(0,.agg Cb5)
abbrev A6d:List (Nat×Acj):=[Cji]
abbrev Bt4:List Am5:=[wq0,wq0,wq0,wq0,wq0]
abbrev Cjj:Nat×Afp:=(33,.cells 89 Cth)
abbrev A6e:Nat×Afp:=(32,.cells 89 Cb5)
abbrev Atm:List (Nat×Afp):=[A6e]
abbrev Coi:Nat×Afp:=(32,.cells 47 Bt4)
abbrev Ctj:Nat×Afp:=(33,.cells 47 Bt4)
abbrev Axj:List (Nat×Afp):=[Coi]
abbrev Cjk:List (Nat×Acj):=[wq3,Cd0,Cd1,A84,Bos]
abbrev Cjl:List (Nat×Acj):=[Am9,wq8,Crz,B4t,Cnm]
abbrev Cjm:List (Nat×Acj):=[wq3,Aum,A1p,Bbs,A84]
abbrev Cjn:List (Nat×Afp):=[Cje,Cti]
abbrev Bt5:List (Nat×Afp):=[A6e,Ctg]
abbrev Cb6:List (Nat×Afp):=[Coi,Ct8]
abbrev Bot:List (Nat×Afp):=[Bw9,Ctj]
abbrev Bou:List (Nat×Afp):=[A6e,Ct5,Ct6,Cr4,Cr5,Cr6,Ct2]
def Bap:Code:=Tryz.f4.body.getD .skip
def Aph:Code:=Tryz.f10.body.getD .skip
def Akh:Aac:=⟨[wq3,Aum,A1p],A6c⟩
def Atn:Aac:=⟨Ci9,A6c⟩
def Bi3:Ack:=.cons (.exit 0) Atn (.nil)
abbrev A6f(R:Type):=Int->Int->(List UInt8)->d3->d1->d2->d4->(Int->(List UInt8)->d3->d1->d2->d4->Option R)->Option R
abbrev Bi4(R:Type):=Int->Int->(List UInt8)->d3->d1->d2->d4->Option R
abbrev Axk:={R:Type}→Nat→Nat→A6f R
def A6g{R:Type}(N:Nat)(rc:Bi4 R):A6f R:=fun c a d b e f g h=>if ((decide (a<(len b)))=true) then (if ((decide (c≤4000))=true) then (if (0≤a∧a<len b) then (if (0≤a∧a<len b) then (rc (wi ((wi ((wi (c+1))+(((List.length (b.getD a.toNat (([]:List UInt8),(false,([]:List Int)))).1):Nat):Int)))+(((List.length (b.getD a.toNat (([]:List UInt8),(false,([]:List Int)))).2.2):Nat):Int))) (wi (a+1)) d b e f g) else none) else none) else h c d b e f g) else h c d b e f g
def Afl{R:Type}(N:Nat):Nat→A6f R
 |0=>fun _ _ _ _ _ _ _ _=>none
 |k+1=>fun a b c d e f g h=>A6g N (fun a b c d e f g=>Afl N k a b c d e f g h) a b c d e f g h
def A6h(Afl:Axk)(N k:Nat):Aao Akh:=fun R x K=>Afl N k x.1.2.1 x.1.2.2.1 x.2.1.1 x.2.1.2.1 x.2.1.2.2.1 x.2.1.2.2.2.1 x.2.1.2.2.2.2.1 (fun y0 y1 y2 y3 y4 y5=>K (.exit 0) (Aab Atn (((),y0,()),((y1,y2,y3,y4,y5,()),()))))
def A6i(N k:Nat):Aao Akh:=A6h @Afl N k
def Bbu:Aac:=⟨B4x,[]⟩
def Axl:Aac:=⟨Akf,[]⟩
abbrev B84(R:Type):=(List UInt8)->d3->d1->d2->d4->(Bool->Option R)->Option R
abbrev Awi:={R:Type}→Nat→B84 R
def Bbv(Afl:Axk):Awi:=fun {R} N b c d e f a=>Afl N N (len b) 0 b c d e f fun g l m h i j=>if ((decide ((len j) > 1500))=true) then (a true) else if ((decide ((len i) > 250))=true) then (a true) else if ((decide ((len h) > 400))=true) then (a true) else a (decide (g > 4000))
def Ajz:Awi:=@Bbv @Afl
def Cp6(N:Nat):Ab0 Bbu [Axl]:=fun R x C=>Ajz N x.1.1.1 x.1.1.2.1 x.1.1.2.2.1 x.1.1.2.2.2.1 x.1.1.2.2.2.2.1 (fun y0=>C.1 ((y0,()),(())))
def Bpb(Ajz:Awi)(N:Nat):Go.AX.Aak:=Ac1 [true] [] false 1 0 Bbu [Axl] (fun R x C=>Ajz N x.1.1.1 x.1.1.2.1 x.1.1.2.2.1 x.1.1.2.2.2.1 x.1.1.2.2.2.2.1 (fun y0=>C.1 ((y0,()),(()))))
def Bpc(N:Nat):Go.AX.Aak:=Bpb @Ajz N
def Cp7(N:Nat):List (Nat×Ac4):=[(7,Aaa Akh (A6i N N))]
def B85(N:Nat):List (Nat×Go.AX.Aak):=[]
def Bv8:Code:=Tryz.f11.body.getD .skip
def Aqn:Code:=Tryz.f13.body.getD .skip
def Ajq:Code:=Tryz.f27.body.getD .skip
def Ai6:Aac:=⟨[Ciz,Ci0,wq4,(8,.one (.ptr 33)),(34,.one wq0),(35,.one wq0)],[Cjc,Bw9,Cjj,(34,.row 91 z2)]⟩
def Ato:Aac:=⟨[Ciz,Ci0,wq4,(8,.one (.ptr 33))],[Cjc,Bw9,Cjj,(34,.row 91 z2)]⟩
def Bi5:Ack:=.cons (.exit 0) Ato (.nil)
abbrev A6j(R:Type):=Int->Int->(List UInt8)->d3->d1->d2->d4->(List UInt8)->d3->d1->d2->d4->(List UInt8)->d3->d1->Int->Int->d2->((List UInt8)->d3->d1->d2->d4->(List UInt8)->d3->d1->d2->d4->(List UInt8)->d3->d1->Int->Int->d2->Option R)->Option R
abbrev Bi6(R:Type):=Int->Int->(List UInt8)->d3->d1->d2->d4->(List UInt8)->d3->d1->d2->d4->(List UInt8)->d3->d1->Int->Int->d2->Option R
abbrev Ar2:={R:Type}→Nat→Nat→A6j R
def Axm{R:Type}(N:Nat)(rc:Bi6 R):A6j R:=fun c d e f g h i j l m n o p q r s t a u=>if ((decide (d<c))=true) then (let b:=(wi (d+1));if ((((List.length a)+(List.length ((24,(b,0))::[(26,(0,0))])))*(24:Nat))≤(70368744177664:Nat)) then (rc c b e f g h i j l m n o p q r s t (a++((24,(b,0))::[(26,(0,0))]))) else none) else u e f g h i j l m n o p q r s t a
def Ad4{R:Type}(N:Nat):Nat→A6j R
 |0=>fun _ _ _ _ _ _ _ _ _ _ _ _ _ _ _ _ _ _ _=>none
 |k+1=>fun a b c d e f g h i j l m n o p q r s t=>Axm N (fun a b c d e f g h i j l m n o p q r s=>Ad4 N k a b c d e f g h i j l m n o p q r s t) a b c d e f g h i j l m n o p q r s t
def Axn(Ad4:Ar2)(N k:Nat):Aao Ai6:=fun R x K=>Ad4 N k x.1.2.2.2.2.1 x.1.2.2.2.2.2.1 x.2.1.1 x.2.1.2.1 x.2.1.2.2.1 x.2.1.2.2.2.1 x.2.1.2.2.2.2.1 x.2.2.1.1 x.2.2.1.2.1 x.2.2.1.2.2.1 x.2.2.1.2.2.2.1 x.2.2.1.2.2.2.2.1 x.2.2.2.1.1 x.2.2.2.1.2.1 x.2.2.2.1.2.2.2.1 x.2.2.2.1.2.2.2.2.1 x.2.2.2.1.2.2.2.2.2.1 x.2.2.2.2.1 (fun y0 y1 y2 y3 y4 y5 y6 y7 y8 y9 y10 y11 y12 y13 y14 y15=>K (.exit 0) (Aab Ato (((),(),(),(),()),((y0,y1,y2,y3,y4,()),(y5,y6,y7,y8,y9,()),(y10,y11,(),y12,y13,y14,()),y15,()))))
def A6k(N k:Nat):Aao Ai6:=Axn @Ad4 N k
def Bpd:Code:=Tryz.f62.body.getD .skip
def Api:Code:=Tryz.f103.body.getD .skip
def Ajc:Aac:=⟨[Aum,(27,.one (.val z3)),(28,.one wq0),(29,.one wq0)],[]⟩
def Ar3:Aac:=⟨[Aum],[]⟩
def Bfn:Ack:=.cons (.exit 0) Ar3 (.nil)
abbrev A3c(R:Type):=Int->d3->Int->Int->(Int->Option R)->Option R
abbrev Bfo(R:Type):=Int->d3->Int->Int->Option R
abbrev Avb:={R:Type}→Nat→Nat→A3c R
def Avc{R:Type}(N:Nat)(rc:Bfo R):A3c R:=fun d b c a f=>if ((decide (a<c))=true) then (if (0≤a∧a<len b) then (let e:=(wi (d+(((List.length (b.getD a.toNat (([]:List UInt8),(false,([]:List Int)))).2.2):Nat):Int)));if ((b.getD a.toNat (([]:List UInt8),(false,([]:List Int)))).2.1=true) then (rc (wi (e+(wi (Int.tdiv (wi ((((List.length (b.getD a.toNat (([]:List UInt8),(false,([]:List Int)))).1):Nat):Int)+2)) 2)))) b c (wi (a+1))) else rc e b c (wi (a+1))) else none) else f d
def Aek{R:Type}(N:Nat):Nat→A3c R
 |0=>fun _ _ _ _ _=>none
 |k+1=>fun a b c d e=>Avc N (fun a b c d=>Aek N k a b c d e) a b c d e
def A3d(Aek:Avb)(N k:Nat):Aao Ajc:=fun R x K=>Aek N k x.1.1 x.1.2.1 x.1.2.2.1 x.1.2.2.2.1 (fun y0=>K (.exit 0) (Aab Ar3 ((y0,()),(()))))
def A3e(N k:Nat):Aao Ajc:=A3d @Aek N k
def Bbw:Aac:=⟨A6d,[]⟩
def Axo:Aac:=⟨Akf,[]⟩
abbrev B86(R:Type):=(List UInt8)->d3->d2->d1->Int->Int->(Bool->Option R)->Option R
abbrev Awj:={R:Type}→Nat→B86 R
def Bbx(Aek:Avb):Awj:=fun {R} N g b c h d e a=>if ((decide ((len c) > 40000))=true) then (a true) else if ((decide ((len b) > 2000))=true) then (a true) else if ((decide (d > 200))=true) then (a true) else if ((decide (e > 20000))=true) then (a true) else Aek N N 0 b (len b) 0 fun f=>a (decide (f > 7800))
def Aj0:Awj:=@Bbx @Aek
def Cp8(N:Nat):Ab0 Bbw [Axo]:=fun R x C=>Aj0 N x.1.1.1 x.1.1.2.1 x.1.1.2.2.1 x.1.1.2.2.2.1 x.1.1.2.2.2.2.1 x.1.1.2.2.2.2.2.1 (fun y0=>C.1 ((y0,()),(())))
def Bpe(Aj0:Awj)(N:Nat):Go.AX.Aak:=Ac1 [true] [] false 1 0 Bbw [Axo] (fun R x C=>Aj0 N x.1.1.1 x.1.1.2.1 x.1.1.2.2.1 x.1.1.2.2.2.1 x.1.1.2.2.2.2.1 x.1.1.2.2.2.2.2.1 (fun y0=>C.1 ((y0,()),(()))))
def Bpf(N:Nat):Go.AX.Aak:=Bpe @Aj0 N
def Cp9(N:Nat):List (Nat×Ac4):=[(11,Aaa Ajc (A3e N N))]
def B87(N:Nat):List (Nat×Go.AX.Aak):=[]
def Agy:Code:=Tryz.f104.body.getD .skip
def Ate:Code:=Tryz.f160.body.getD .skip
def Al4:Code:=Tryz.f56.body.getD .skip
def Aja(N:Nat):Go.AX.Aak:=Bbp 80 5
def Ahw:Aac:=⟨[wq1,(1,.one (.val (.int .u8)))],[(0,.cells 80 [(.same .nilptr),(.slf 1)]),Cnh]⟩
def Aks:Aac:=⟨[(0,.one (.same .nilif))],B4v⟩
abbrev Baq(R:Type):=Int->d0->(d0->Option R)->Option R
abbrev Ajb:={R:Type}→Nat→Baq R
def Abs:Ajb:=fun {R} N a b c=>if ((((List.length b)+(List.length (a::([]:List Int))))*(1:Nat))≤(70368744177664:Nat)) then (c (b++(a::([]:List Int)))) else none
def Bar(N:Nat):Ab0 Ahw [Aks]:=fun R x C=>Abs N x.1.2.1 x.2.2.1 (fun y0=>C.1 (((),()),(((),(),()),y0,())))
def Ao1(Abs:Ajb)(N:Nat):Go.AX.Aak:=Ac1 [false,true] (List.replicate 32 true) true 2 2 Ahw [Aks] (fun R x C=>Abs N x.1.2.1 x.2.2.1 (fun y0=>C.1 (((),()),(((),(),()),y0,()))))
def Au4(N:Nat):Go.AX.Aak:=Ao1 @Abs N
def Bas(N:Nat):List (Nat×Ac4):=[]
def Au5(N:Nat):List (Nat×Go.AX.Aak):=[(100,Aja N)]
def Arb(N:Nat):Go.AX.Aak:=Bbo
def Ana:Aac:=⟨[wq1,(1,.one (.val (.int .u8)))],B4v⟩
def Ajd:Aac:=⟨[(0,.one (.same .nilif))],B4v⟩
abbrev A6l(R:Type):=Int->d0->(d0->Option R)->Option R
abbrev Acb:={R:Type}→Nat→A6l R
def Aad:Acb:=fun {R} N a b c=>if ((((List.length b)+(List.length (a::([]:List Int))))*(1:Nat))≤(70368744177664:Nat)) then (c (b++(a::([]:List Int)))) else none
def A6m(N:Nat):Ab0 Ana [Ajd]:=fun R x C=>Aad N x.1.2.1 x.2.2.1 (fun y0=>C.1 (((),()),(((),(),()),y0,())))
def Ae9(Aad:Acb)(N:Nat):Go.AX.Aak:=Ac1 [false,true] (List.replicate 32 true) true 2 2 Ana [Ajd] (fun R x C=>Aad N x.1.2.1 x.2.2.1 (fun y0=>C.1 (((),()),(((),(),()),y0,()))))
def Anb(N:Nat):Go.AX.Aak:=Ae9 @Aad N
def A6n(N:Nat):List (Nat×Ac4):=[]
def Ar4(N:Nat):List (Nat×Go.AX.Aak):=[(100,Aja N)]
def Amc:Aac:=⟨[B4r,wq5,Cd5,B4t],Bw8⟩
def Axp:Aac:=⟨[(2,.one (.val .str)),Aum],[]⟩
def Axq:Aac:=⟨[B4r,wq5],Bw8⟩
def Bpg:Ack:=.cons .ret Axp (.cons (.exit 0) Axq (.nil))
abbrev Bby(R:Type):=(List UInt8)->Int->Int->d0->((List UInt8)->Int->Option R)->((List UInt8)->d0->Option R)->Option R
abbrev Bph(R:Type):=(List UInt8)->Int->Int->d0->Option R
abbrev A2n:={R:Type}→Nat→Nat→Bby R
def A2o(Aad:Acb){R:Type}(N:Nat)(rc:Bph R):Bby R:=fun b e a f g h=>if ((decide (a<e))=true) then (if (0≤a∧a<len b) then (let c:=(((UInt8.toNat (b.getD a.toNat (0:UInt8))):Nat):Int);let d:=(Blo [(10:UInt8),(9:UInt8),(42:UInt8),(34:UInt8)] c);if ((decide (d≥0))=true) then (Aad N 42 f fun i=>if ((0≤d)∧(d<4)) then (Aad N (((UInt8.toNat (List.getD [(110:UInt8),(116:UInt8),(42:UInt8),(34:UInt8)] (Int.toNat d) (0:UInt8))):Nat):Int) i fun j=>rc b e (wi (a+1)) j) else none) else if ((decide (c<32))=true) then (g ([]:List UInt8) 3) else if ((decide (c > 126))=true) then (g ([]:List UInt8) 3) else Aad N c f fun l=>rc b e (wi (a+1)) l) else none) else h b f
def Agw{R:Type}(N:Nat):Nat→Bby R
 |0=>fun _ _ _ _ _ _=>none
 |k+1=>fun a b c d e f=>A2o @Aad N (fun a b c d=>Agw N k a b c d e f) a b c d e f
def Bbz(Agw:A2n)(N k:Nat):Aao Amc:=fun R x K=>Agw N k x.1.1 x.1.2.2.1 x.1.2.2.2.1 x.2.2.1 (fun y0 y1=>K .ret (Aab Axp ((y0,y1,()),(())))) (fun y0 y1=>K (.exit 0) (Aab Axq ((y0,(),()),(((),(),()),y1,()))))
def Bb0(N k:Nat):Aao Amc:=Bbz @Agw N k
def Afa(N:Nat):Go.AX.Aak:=Beg 80 5
def Bkx:Aac:=⟨Cnk,[]⟩
def A2p:Aac:=⟨Cja,[]⟩
abbrev Cfu(R:Type):=(List UInt8)->((List UInt8)->Int->Option R)->Option R
abbrev Ald:={R:Type}→Nat→Cfu R
def Bky(Abs:Ajb)(Agw:A2n)(Aad:Acb):Ald:=fun {R} N c b=>Abs N 34 ([]:List Int) fun d=>Agw N N c (len c) 0 d (fun e f=>b e f) fun g h=>if ((decide ((len g) > 100))=true) then (b ([]:List UInt8) 2) else Aad N 34 h fun a=>if (((0:Nat)<(List.length a))∧(((List.length a)≤(70368744177664:Nat))∧((Am7 a)=true))) then (b (Axf a) 0) else none
def Adb:Ald:=@Bky @Abs @Agw @Aad
def Csv(N:Nat):Ab0 Bkx [A2p]:=fun R x C=>Adb N x.1.1 (fun y0 y1=>C.1 ((y0,y1,()),(())))
def Aqb(Adb:Ald)(N:Nat):Go.AX.Aak:=Ac1 [true] [] false 1 0 Bkx [A2p] (fun R x C=>Adb N x.1.1 (fun y0 y1=>C.1 ((y0,y1,()),(()))))
def Bkz(N:Nat):Go.AX.Aak:=Aqb @Adb N
def Csw(N:Nat):List (Nat×Ac4):=[(9,Aaa Amc (Bb0 N N))]
def Cfv(N:Nat):List (Nat×Go.AX.Aak):=[(56,Auj 2 Ahw (Au4 N) (Anb N)),(222,Arb N),(57,Afa N)]
def Bpi:Code:=Tryz.f161.body.getD .skip
def Bb1:Aac:=⟨[],[]⟩
def Axr:Aac:=⟨[(0,.agg [(.val .str),wq0,wq0,wq0,(.val .str),wq0,wq0,wq0,(.val .str),wq0,wq0,wq0,(.val .str),wq0,wq0,wq0,(.val .str),wq0,wq0,wq0,(.val .str),wq0,wq0,wq0,(.val .str),wq0,wq0,wq0,(.val .str),wq0,wq0,wq0,(.val .str),wq0,wq0,wq0,(.val .str),wq0,wq0,wq0,(.val .str),wq0,wq0,wq0,(.val .str),wq0,wq0,wq0,(.val .str),wq0,wq0,wq0,(.val .str),wq0,wq0,wq0,(.val .str),wq0,wq0,wq0,(.val .str),wq0,wq0,wq0,(.val .str),wq0,wq0,wq0,(.val .str),wq0,wq0,wq0,(.val .str),wq0,wq0,wq0,(.val .str),wq0,wq0,wq0,(.val .str),wq0,wq0,wq0,(.val .str),wq0,wq0,wq0,(.val .str),wq0,wq0,wq0,(.val .str),wq0,wq0,wq0,(.val .str),wq0,wq0,wq0,(.val .str),wq0,wq0,wq0,(.val .str),wq0,wq0,wq0,(.val .str),wq0,wq0,wq0,(.val .str),wq0,wq0,wq0,(.val .str),wq0,wq0,wq0,(.val .str),wq0,wq0,wq0])],[]⟩
abbrev B88(R:Type):=((List UInt8)->Int->Int->Int->(List UInt8)->Int->Int->Int->(List UInt8)->Int->Int->Int->(List UInt8)->Int->Int->Int->(List UInt8)->Int->Int->Int->(List UInt8)->Int->Int->Int->(List UInt8)->Int->Int->Int->(List UInt8)->Int->Int->Int->(List UInt8)->Int->Int->Int->(List UInt8)->Int->Int->Int->(List UInt8)->Int->Int->Int->(List UInt8)->Int->Int->Int->(List UInt8)->Int->Int->Int->(List UInt8)->Int->Int->Int->(List UInt8)->Int->Int->Int->(List UInt8)->Int->Int->Int->(List UInt8)->Int->Int->Int->(List UInt8)->Int->Int->Int->(List UInt8)->Int->Int->Int->(List UInt8)->Int->Int->Int->(List UInt8)->Int->Int->Int->(List UInt8)->Int->Int->Int->(List UInt8)->Int->Int->Int->(List UInt8)->Int->Int->Int->(List UInt8)->Int->Int->Int->(List UInt8)->Int->Int->Int->(List UInt8)->Int->Int->Int->(List UInt8)->Int->Int->Int->(List UInt8)->Int->Int->Int->(List UInt8)->Int->Int->Int->(List UInt8)->Int->Int->Int->Option R)->Option R
abbrev Ale:={R:Type}→Nat→B88 R
def Acn:Ale:=fun {R} N a=>a ([]:List UInt8) 0 0 0 ([(110:UInt8),(117:UInt8),(109:UInt8)]) 1 0 1 ([(108:UInt8),(111:UInt8),(99:UInt8),(97:UInt8),(108:UInt8)]) 2 0 1 ([(112:UInt8),(117:UInt8),(116:UInt8),(108:UInt8)]) 2 1 0 ([(97:UInt8),(100:UInt8),(100:UInt8),(114:UInt8),(108:UInt8)]) 2 0 1 ([(103:UInt8),(108:UInt8),(111:UInt8),(98:UInt8),(97:UInt8),(108:UInt8)]) 3 0 1 ([(112:UInt8),(117:UInt8),(116:UInt8),(103:UInt8)]) 3 1 0 ([(97:UInt8),(100:UInt8),(100:UInt8),(114:UInt8),(103:UInt8)]) 3 0 1 ([(115:UInt8),(116:UInt8),(97:UInt8),(116:UInt8),(105:UInt8),(99:UInt8)]) 4 0 1 ([(112:UInt8),(117:UInt8),(116:UInt8),(115:UInt8)]) 4 1 0 ([(97:UInt8),(100:UInt8),(100:UInt8),(114:UInt8),(115:UInt8)]) 4 0 1 ([(112:UInt8),(114:UInt8),(111:UInt8),(99:UInt8)]) 5 0 1 ([(108:UInt8),(111:UInt8),(97:UInt8),(100:UInt8)]) 0 1 1 ([(115:UInt8),(116:UInt8),(111:UInt8),(114:UInt8),(101:UInt8)]) 0 2 0 ([(103:UInt8),(101:UInt8),(116:UInt8),(98:UInt8)]) 0 2 1 ([(112:UInt8),(117:UInt8),(116:UInt8),(98:UInt8)]) 0 3 0 ([(98:UInt8),(105:UInt8),(110:UInt8)]) 7 2 1 ([(117:UInt8),(110:UInt8)]) 8 1 1 ([(115:UInt8),(116:UInt8),(97:UInt8),(99:UInt8),(107:UInt8)]) 2 0 0 ([(108:UInt8),(97:UInt8),(98:UInt8),(101:UInt8),(108:UInt8)]) 6 0 0 ([(106:UInt8),(117:UInt8),(109:UInt8),(112:UInt8)]) 6 0 0 ([(116:UInt8),(114:UInt8),(117:UInt8),(101:UInt8)]) 6 1 0 ([(102:UInt8),(97:UInt8),(108:UInt8),(115:UInt8),(101:UInt8)]) 6 1 0 ([(99:UInt8),(97:UInt8),(108:UInt8),(108:UInt8)]) 2 0 0 ([(101:UInt8),(110:UInt8),(116:UInt8),(101:UInt8),(114:UInt8)]) 5 0 0 ([(114:UInt8),(101:UInt8),(116:UInt8),(117:UInt8),(114:UInt8),(110:UInt8)]) 0 1 0 ([(98:UInt8),(97:UInt8),(99:UInt8),(107:UInt8)]) 0 0 0 ([(114:UInt8),(101:UInt8),(115:UInt8),(117:UInt8),(108:UInt8),(116:UInt8)]) 6 1 0 ([(116:UInt8),(97:UInt8),(107:UInt8),(101:UInt8)]) 2 0 0 ([(115:UInt8),(119:UInt8),(105:UInt8),(116:UInt8),(99:UInt8),(104:UInt8)]) 6 1 0 ([(99:UInt8),(97:UInt8),(115:UInt8),(101:UInt8)]) 1 0 0
def B89(N:Nat):Ab0 Bb1 [Axr]:=fun R x C=>Acn N  (fun y0 y1 y2 y3 y4 y5 y6 y7 y8 y9 y10 y11 y12 y13 y14 y15 y16 y17 y18 y19 y20 y21 y22 y23 y24 y25 y26 y27 y28 y29 y30 y31 y32 y33 y34 y35 y36 y37 y38 y39 y40 y41 y42 y43 y44 y45 y46 y47 y48 y49 y50 y51 y52 y53 y54 y55 y56 y57 y58 y59 y60 y61 y62 y63 y64 y65 y66 y67 y68 y69 y70 y71 y72 y73 y74 y75 y76 y77 y78 y79 y80 y81 y82 y83 y84 y85 y86 y87 y88 y89 y90 y91 y92 y93 y94 y95 y96 y97 y98 y99 y100 y101 y102 y103 y104 y105 y106 y107 y108 y109 y110 y111 y112 y113 y114 y115 y116 y117 y118 y119 y120 y121 y122 y123=>C.1 (((y0,y1,y2,y3,y4,y5,y6,y7,y8,y9,y10,y11,y12,y13,y14,y15,y16,y17,y18,y19,y20,y21,y22,y23,y24,y25,y26,y27,y28,y29,y30,y31,y32,y33,y34,y35,y36,y37,y38,y39,y40,y41,y42,y43,y44,y45,y46,y47,y48,y49,y50,y51,y52,y53,y54,y55,y56,y57,y58,y59,y60,y61,y62,y63,y64,y65,y66,y67,y68,y69,y70,y71,y72,y73,y74,y75,y76,y77,y78,y79,y80,y81,y82,y83,y84,y85,y86,y87,y88,y89,y90,y91,y92,y93,y94,y95,y96,y97,y98,y99,y100,y101,y102,y103,y104,y105,y106,y107,y108,y109,y110,y111,y112,y113,y114,y115,y116,y117,y118,y119,y120,y121,y122,y123,()),()),(())))
def Apj(Acn:Ale)(N:Nat):Go.AX.Aak:=Ac1 [] [] false 0 0 Bb1 [Axr] (fun R x C=>Acn N  (fun y0 y1 y2 y3 y4 y5 y6 y7 y8 y9 y10 y11 y12 y13 y14 y15 y16 y17 y18 y19 y20 y21 y22 y23 y24 y25 y26 y27 y28 y29 y30 y31 y32 y33 y34 y35 y36 y37 y38 y39 y40 y41 y42 y43 y44 y45 y46 y47 y48 y49 y50 y51 y52 y53 y54 y55 y56 y57 y58 y59 y60 y61 y62 y63 y64 y65 y66 y67 y68 y69 y70 y71 y72 y73 y74 y75 y76 y77 y78 y79 y80 y81 y82 y83 y84 y85 y86 y87 y88 y89 y90 y91 y92 y93 y94 y95 y96 y97 y98 y99 y100 y101 y102 y103 y104 y105 y106 y107 y108 y109 y110 y111 y112 y113 y114 y115 y116 y117 y118 y119 y120 y121 y122 y123=>C.1 (((y0,y1,y2,y3,y4,y5,y6,y7,y8,y9,y10,y11,y12,y13,y14,y15,y16,y17,y18,y19,y20,y21,y22,y23,y24,y25,y26,y27,y28,y29,y30,y31,y32,y33,y34,y35,y36,y37,y38,y39,y40,y41,y42,y43,y44,y45,y46,y47,y48,y49,y50,y51,y52,y53,y54,y55,y56,y57,y58,y59,y60,y61,y62,y63,y64,y65,y66,y67,y68,y69,y70,y71,y72,y73,y74,y75,y76,y77,y78,y79,y80,y81,y82,y83,y84,y85,y86,y87,y88,y89,y90,y91,y92,y93,y94,y95,y96,y97,y98,y99,y100,y101,y102,y103,y104,y105,y106,y107,y108,y109,y110,y111,y112,y113,y114,y115,y116,y117,y118,y119,y120,y121,y122,y123,()),()),(()))))
def Bb2(N:Nat):Go.AX.Aak:=Apj @Acn N
def B9a(N:Nat):List (Nat×Ac4):=[]
def Bpj(N:Nat):List (Nat×Go.AX.Aak):=[]
def Ar5:Code:=Tryz.f162.body.getD .skip
def B1m:Code:=Tryz.f224.body.getD .skip
def Bov:Aac:=⟨Cjg,[]⟩
def A6o:Aac:=⟨Akf,[]⟩
abbrev Cjo(R:Type):=Int->Int->Int->(Bool->Option R)->Option R
abbrev Aip:={R:Type}→Nat→Cjo R
def Abg:Aip:=fun {R} N a c d b=>if ((decide (a≥c))=true) then (b (decide (a≤d))) else b false
def Cjp(N:Nat):Ab0 Bov [A6o]:=fun R x C=>Abg N x.1.1 x.1.2.1 x.1.2.2.1 (fun y0=>C.1 ((y0,()),(())))
def Aox(Abg:Aip)(N:Nat):Go.AX.Aak:=Ac1 [true,true,true] [] false 3 0 Bov [A6o] (fun R x C=>Abg N x.1.1 x.1.2.1 x.1.2.2.1 (fun y0=>C.1 ((y0,()),(()))))
def A6p(N:Nat):Go.AX.Aak:=Aox @Abg N
def Cjq(N:Nat):List (Nat×Ac4):=[]
def B1n(N:Nat):List (Nat×Go.AX.Aak):=[]
def Akw:Aac:=⟨[wq4,(4,.one (.ptr 33)),Bop],[Cje,(33,.cells 89 Cb5)]⟩
def Avd:Aac:=⟨Ci1,[]⟩
def Bat:Ack:=.cons .ret Avd (.nil)
abbrev Br8(R:Type):=Bool->Int->Int->Int->(List UInt8)->d3->d2->d1->Int->Int->(Bool->Option R)->Option R
abbrev Amq:={R:Type}→Nat→Br8 R
def Ay4(Abg:Aip):Amq:=fun {R} N b d i c j l m n o e a=>if ((d==24)=true) then (if (b=true) then (Abg N c 0 8 fun f=>a f) else a false) else if ((d==29)=true) then (if (b=true) then (Abg N c 0 1000 fun g=>a g) else a false) else if ((d==30)=true) then (if (b=true) then (Abg N c 1 e fun h=>a h) else a false) else if (b=true) then (a (c==0)) else a false
def Abx:Amq:=@Ay4 @Abg
def Ay5(Abx:Amq)(N:Nat):Aao Akw:=fun R x K=>Abx N x.1.2.2.1 x.2.1.1 x.2.1.2.1 x.2.1.2.2.1 x.2.2.1.1 x.2.2.1.2.1 x.2.2.1.2.2.1 x.2.2.1.2.2.2.1 x.2.2.1.2.2.2.2.1 x.2.2.1.2.2.2.2.2.1 (fun y0=>K .ret (Aab Avd ((y0,()),(()))))
def Bau(N:Nat):Aao Akw:=Ay5 @Abx N
def Br9:Code:=Tryz.f223.body.getD .skip
def Bfp:Aac:=⟨Aun,[]⟩
def A04:Aac:=⟨Akf,[]⟩
abbrev Cd8(R:Type):=Int->(Bool->Option R)->Option R
abbrev Ao2:={R:Type}→Nat→Cd8 R
def Bfq(Abg:Aip):Ao2:=fun {R} N a b=>Abg N a (-2147483648) 2147483647 fun c=>b c
def Afb:Ao2:=@Bfq @Abg
def Cr7(N:Nat):Ab0 Bfp [A04]:=fun R x C=>Afb N x.1.1 (fun y0=>C.1 ((y0,()),(())))
def A6q(Afb:Ao2)(N:Nat):Go.AX.Aak:=Ac1 [true] [] false 1 0 Bfp [A04] (fun R x C=>Afb N x.1.1 (fun y0=>C.1 ((y0,()),(()))))
def Bfr(N:Nat):Go.AX.Aak:=A6q @Afb N
def Cr8(N:Nat):List (Nat×Ac4):=[]
def Cd9(N:Nat):List (Nat×Go.AX.Aak):=[(224,A6p N)]
def A6r:Aac:=⟨[B4y,(1,.agg Cb5),Cjf],[]⟩
def Atp:Aac:=⟨Akf,[]⟩
abbrev B1o(R:Type):=Int->Int->Int->(List UInt8)->d3->d2->d1->Int->Int->(List UInt8)->Int->Int->Int->(Bool->Option R)->Option R
abbrev Al5:={R:Type}→Nat→B1o R
def A6s(Abx:Amq)(Afb:Ao2)(Abg:Aip):Al5:=fun {R} N e a f g b h i c d E l F G j=>if ((l==0)=true) then (Abx N (a==0) e a f g b h i c d fun m=>j m) else if ((l==1)=true) then (Afb N a fun n=>Abx N n e a f g b h i c d fun o=>j o) else if ((l==2)=true) then (Abg N a 0 4000 fun p=>Abx N p e a f g b h i c d fun q=>j q) else if ((l==3)=true) then (Abg N a 0 199 fun r=>Abx N r e a f g b h i c d fun s=>j s) else if ((l==4)=true) then (Abg N a 0 (wi ((len b)-1)) fun t=>Abx N t e a f g b h i c d fun u=>j u) else if ((l==5)=true) then (Abg N a 1 c fun v=>Abx N v e a f g b h i c d fun w=>j w) else if ((l==6)=true) then (Abg N a 1 d fun x=>Abx N x e a f g b h i c d fun y=>j y) else if ((l==7)=true) then (Abg N a 1 17 fun z=>Abx N z e a f g b h i c d fun A=>j A) else if ((l==8)=true) then (if ((a==18)=true) then (Abx N true e a f g b h i c d fun B=>j B) else Abx N (a==19) e a f g b h i c d fun C=>j C) else Abx N false e a f g b h i c d fun D=>j D
def Adw:Al5:=@A6s @Abx @Afb @Abg
def Coj(N:Nat):Ab0 A6r [Atp]:=fun R x C=>Adw N x.1.1.1 x.1.1.2.1 x.1.1.2.2.1 x.1.2.1.1 x.1.2.1.2.1 x.1.2.1.2.2.1 x.1.2.1.2.2.2.1 x.1.2.1.2.2.2.2.1 x.1.2.1.2.2.2.2.2.1 x.1.2.2.1.1 x.1.2.2.1.2.1 x.1.2.2.1.2.2.1 x.1.2.2.1.2.2.2.1 (fun y0=>C.1 ((y0,()),(())))
def Ar6(Adw:Al5)(N:Nat):Go.AX.Aak:=Ac1 [true,true,true] [] false 3 0 A6r [Atp] (fun R x C=>Adw N x.1.1.1 x.1.1.2.1 x.1.1.2.2.1 x.1.2.1.1 x.1.2.1.2.1 x.1.2.1.2.2.1 x.1.2.1.2.2.2.1 x.1.2.1.2.2.2.2.1 x.1.2.1.2.2.2.2.2.1 x.1.2.2.1.1 x.1.2.2.1.2.1 x.1.2.2.1.2.2.1 x.1.2.2.1.2.2.2.1 (fun y0=>C.1 ((y0,()),(()))))
def Bi7(N:Nat):Go.AX.Aak:=Ar6 @Adw N
def Cok(N:Nat):List (Nat×Ac4):=[(42,Aaa Akw (Bau N))]
def B1p(N:Nat):List (Nat×Go.AX.Aak):=[(224,A6p N),(223,Bfr N)]
def Ahn:Aac:=⟨[wq3,(5,.one (.ptr 1000)),(35,.one (.val z4)),(36,.one wq0),(37,.one wq0)],[A6e,(1000,.row 167 (.pair .str z2))]⟩
def Ar7:Aac:=⟨A1o,[]⟩
def Ar8:Aac:=⟨Cd2,Atm⟩
def Bfs:Ack:=.cons .ret Ar7 (.cons (.exit 0) Ar8 (.nil))
abbrev A3f(R:Type):=d2->Int->Int->(List UInt8)->d3->d2->d1->Int->Int->(List ((List UInt8×(Int×(Int×Int)))))->(Bool->Option R)->((List UInt8)->d3->d2->d1->Int->Int->Option R)->Option R
abbrev Bft(R:Type):=d2->Int->Int->(List UInt8)->d3->d2->d1->Int->Int->(List ((List UInt8×(Int×(Int×Int)))))->Option R
abbrev An2:={R:Type}→Nat→Nat→A3f R
def A3g(Adw:Al5){R:Type}(N:Nat)(rc:Bft R):A3f R:=fun d m b e f g h i j c l n=>if ((decide (b<m))=true) then (if (0≤b∧b<len d) then (let a:=(d.getD b.toNat (0,(0,0))).1;if ((decide (a<1))=true) then (l false) else if ((decide (a≥31))=true) then (l false) else if ((0≤a)∧(a<31)) then (if (a<(len c)) then (Adw N a ((d.getD b.toNat (0,(0,0))).2.1) ((d.getD b.toNat (0,(0,0))).2.2) e f g h i j ((c.getD a.toNat (([]:List UInt8),(0,(0,0)))).1) ((c.getD a.toNat (([]:List UInt8),(0,(0,0)))).2.1) ((c.getD a.toNat (([]:List UInt8),(0,(0,0)))).2.2.1) ((c.getD a.toNat (([]:List UInt8),(0,(0,0)))).2.2.2) fun o=>if ((!o)=true) then (l false) else rc d m (wi (b+1)) e f g h i j c) else none) else none) else none) else n e f g h i j
def Ac6{R:Type}(N:Nat):Nat→A3f R
 |0=>fun _ _ _ _ _ _ _ _ _ _ _ _=>none
 |k+1=>fun a b c d e f g h i j l m=>A3g @Adw N (fun a b c d e f g h i j=>Ac6 N k a b c d e f g h i j l m) a b c d e f g h i j l m
def Aqo(Ac6:An2)(N k:Nat):Aao Ahn:=fun R x K=>Ac6 N k x.1.2.2.1 x.1.2.2.2.1 x.1.2.2.2.2.1 x.2.1.1 x.2.1.2.1 x.2.1.2.2.1 x.2.1.2.2.2.1 x.2.1.2.2.2.2.1 x.2.1.2.2.2.2.2.1 x.2.2.1 (fun y0=>K .ret (Aab Ar7 ((y0,()),(())))) (fun y0 y1 y2 y3 y4 y5=>K (.exit 0) (Aab Ar8 (((),()),((y0,y1,y2,y3,y4,y5,()),()))))
def A3h(N k:Nat):Aao Ahn:=Aqo @Ac6 N k
def An3:Code:=Tryz.f163.body.getD .skip
def Aje:Aac:=⟨[wq3,(2,.one (.slf 33)),(3,.one (.slf 34)),Bbs,A84,(18,.one (.val z4)),(19,.one wq0),(20,.one wq0)],[A6e,B4s,Ci2]⟩
def Ar9:Aac:=⟨[(2,.one (.slf 32)),(3,.one (.slf 33)),Cd3],Cd6⟩
def Asa:Aac:=⟨[wq3,(2,.one (.slf 33)),(3,.one (.slf 34)),Bbs,A84],[A6e,B4s,Ci2]⟩
def Bfu:Ack:=.cons .ret Ar9 (.cons (.exit 0) Asa (.nil))
abbrev A3i(R:Type):=Int->Int->d2->Int->Int->(List UInt8)->d3->d2->d1->Int->Int->d0->d0->(Bool->d0->d0->Option R)->(Int->Int->(List UInt8)->d3->d2->d1->Int->Int->d0->d0->Option R)->Option R
abbrev Bfv(R:Type):=Int->Int->d2->Int->Int->(List UInt8)->d3->d2->d1->Int->Int->d0->d0->Option R
abbrev Ave:={R:Type}→Nat→Nat→A3i R
def A3j{R:Type}(N:Nat)(rc:Bfv R):A3i R:=fun d f e h b i j l m n o g c p s=>if ((decide (b<h))=true) then (if (0≤b∧b<len e) then (let q:=(e.getD b.toNat (0,(0,0))).1;let a:=(e.getD b.toNat (0,(0,0))).2.1;if ((q==24)=true) then (let r:=(wi (d+1));if ((a != r)=true) then (p false ([]:List Int) ([]:List Int)) else rc r f e h (wi (b+1)) i j l m n o g c) else if ((q==19)=true) then (if (0≤a∧a<len c) then (if (((c.getD a.toNat 0) != 0)=true) then (p false ([]:List Int) ([]:List Int)) else if ((d==0)=true) then (p false ([]:List Int) ([]:List Int)) else if (0≤a∧a<len g) then (if (0≤a∧a<len c) then (rc d (if (a > f) then a else f) e h (wi (b+1)) i j l m n o (g.set a.toNat b) (c.set a.toNat d)) else none) else none) else none) else rc d f e h (wi (b+1)) i j l m n o g c) else none) else s d f i j l m n o g c
def Ae2{R:Type}(N:Nat):Nat→A3i R
 |0=>fun _ _ _ _ _ _ _ _ _ _ _ _ _ _ _=>none
 |k+1=>fun a b c d e f g h i j l m n o p=>A3j N (fun a b c d e f g h i j l m n=>Ae2 N k a b c d e f g h i j l m n o p) a b c d e f g h i j l m n o p
def A3k(Ae2:Ave)(N k:Nat):Aao Aje:=fun R x K=>Ae2 N k x.1.2.2.2.1 x.1.2.2.2.2.1 x.1.2.2.2.2.2.1 x.1.2.2.2.2.2.2.1 x.1.2.2.2.2.2.2.2.1 x.2.1.1 x.2.1.2.1 x.2.1.2.2.1 x.2.1.2.2.2.1 x.2.1.2.2.2.2.1 x.2.1.2.2.2.2.2.1 x.2.2.1 x.2.2.2.1 (fun y0 y1 y2=>K .ret (Aab Ar9 (((),(),y0,()),(y1,y2,())))) (fun y0 y1 y2 y3 y4 y5 y6 y7 y8 y9=>K (.exit 0) (Aab Asa (((),(),(),y0,y1,()),((y2,y3,y4,y5,y6,y7,()),y8,y9,()))))
def A3l(N k:Nat):Aao Aje:=A3k @Ae2 N k
def A85:Aac:=⟨A6d,[]⟩
def Avf:Aac:=⟨[(0,.one (.slf 32)),(1,.one (.slf 33)),Cr1],Cd6⟩
abbrev B4z(R:Type):=(List UInt8)->d3->d2->d1->Int->Int->(Bool->d0->d0->Option R)->Option R
abbrev Aiy:={R:Type}→Nat→B4z R
def A86(Ae2:Ave):Aiy:=fun {R} N h i b j l d c=>let a:=(wi (d+1));if ((0≤a)∧((a≤a)∧((a*8)≤70368744177664))) then (let e:=(List.replicate (Int.toNat a) 0);if ((0≤a)∧((a≤a)∧((a*8)≤70368744177664))) then (Ae2 N N 0 0 b (len b) 0 h i b j l d e e (fun m n o=>c m n o) fun p q t u v w r s f g=>if ((p==r)=true) then (c (q==s) f g) else c false f g) else none) else none
def Ab1:Aiy:=@A86 @Ae2
def Cpp(N:Nat):Ab0 A85 [Avf]:=fun R x C=>Ab1 N x.1.1.1 x.1.1.2.1 x.1.1.2.2.1 x.1.1.2.2.2.1 x.1.1.2.2.2.2.1 x.1.1.2.2.2.2.2.1 (fun y0 y1 y2=>C.1 (((),(),y0,()),(y1,y2,())))
def An4(Ab1:Aiy)(N:Nat):Go.AX.Aak:=Ac1 [true] [] false 1 0 A85 [Avf] (fun R x C=>Ab1 N x.1.1.1 x.1.1.2.1 x.1.1.2.2.1 x.1.1.2.2.2.1 x.1.1.2.2.2.2.1 x.1.1.2.2.2.2.2.1 (fun y0 y1 y2=>C.1 (((),(),y0,()),(y1,y2,()))))
def A87(N:Nat):Go.AX.Aak:=An4 @Ab1 N
def Cpq(N:Nat):List (Nat×Ac4):=[(9,Aaa Aje (A3l N N))]
def B40(N:Nat):List (Nat×Go.AX.Aak):=[]
def Agz:Code:=Tryz.f164.body.getD .skip
def Aho:Aac:=⟨[wq6,Aum,(28,.one wq0),(29,.one wq0)],[]⟩
def Asb:Aac:=⟨A1o,[]⟩
def Asc:Aac:=⟨Cns,[]⟩
def Bfw:Ack:=.cons .ret Asb (.cons (.exit 3) Asc (.nil))
abbrev A3m(R:Type):=d2->Int->Int->Int->(Bool->Option R)->(d2->Int->Option R)->Option R
abbrev Bfx(R:Type):=d2->Int->Int->Int->Option R
abbrev An5:={R:Type}→Nat→Nat→A3m R
def Avg{R:Type}(N:Nat)(rc:Bfx R):A3m R:=fun a c e d f g=>if ((decide (d<e))=true) then (let b:=(wi ((wi (c+1))+d));if ((decide (b≥(len a)))=true) then (f false) else if (0≤b∧b<len a) then (if (((a.getD b.toNat (0,(0,0))).1 != 30)=true) then (f false) else rc a c e (wi (d+1))) else none) else g a c
def Acv{R:Type}(N:Nat):Nat→A3m R
 |0=>fun _ _ _ _ _ _=>none
 |k+1=>fun a b c d e f=>Avg N (fun a b c d=>Acv N k a b c d e f) a b c d e f
def Aqp(Acv:An5)(N k:Nat):Aao Aho:=fun R x K=>Acv N k x.1.1 x.1.2.1 x.1.2.2.1 x.1.2.2.2.1 (fun y0=>K .ret (Aab Asb ((y0,()),(())))) (fun y0 y1=>K (.exit 3) (Aab Asc ((y0,y1,()),(()))))
def A3n(N k:Nat):Aao Aho:=Aqp @Acv N k
def Ay6:Code:=Tryz.f170.body.getD .skip
def Anc:Aac:=⟨[wq6,Am9,Bfm,(10,.one (.val .bool))],[]⟩
def A1q:Aac:=⟨Arj,[]⟩
def A1r:Aac:=⟨[],[]⟩
def Bi8:Ack:=.cons .ret A1q (.cons .normal A1r (.nil))
abbrev B1q(R:Type):=d2->Int->Int->Bool->(Bool->Option R)->(Option R)->Option R
abbrev Asd:={R:Type}→Nat→B1q R
def Ae5:Asd:=fun {R} N a b e f c g=>if (f=true) then (c true) else if ((e==29)=true) then (if (0≤b∧b<len a) then (c ((a.getD b.toNat (0,(0,0))).2.2==0)) else none) else if ((e==30)=true) then (let d:=(wi (b+1));if ((d==(len a))=true) then (c true) else if (0≤d∧d<len a) then (c ((a.getD d.toNat (0,(0,0))).1 != 30)) else none) else g
def A6t(Ae5:Asd)(N:Nat):Aao Anc:=fun R x K=>Ae5 N x.1.1 x.1.2.1 x.1.2.2.1 x.1.2.2.2.1 (fun y0=>K .ret (Aab A1q ((y0,()),(())))) (K .normal (Aab A1r ((()),(()))))
def Bi9(N:Nat):Aao Anc:=A6t @Ae5 N
def Bfy:Aac:=⟨B4u,[]⟩
def A05:Aac:=⟨Akf,[]⟩
abbrev Cea(R:Type):=d2->Int->(Bool->Option R)->Option R
abbrev Akx:={R:Type}→Nat→Cea R
def Bfz(Ae5:Asd):Akx:=fun {R} N d c b=>if (0≤c∧c<len d) then (let a:=(d.getD c.toNat (0,(0,0))).1;if ((a==20)=true) then (Ae5 N d c a (a==20) (fun e=>b e) (b false)) else if ((a==25)=true) then (Ae5 N d c a (a==25) (fun f=>b f) (b false)) else if ((a==26)=true) then (Ae5 N d c a (a==26) (fun g=>b g) (b false)) else Ae5 N d c a (a==27) (fun h=>b h) (b false)) else none
def Abz:Akx:=@Bfz @Ae5
def Cr9(N:Nat):Ab0 Bfy [A05]:=fun R x C=>Abz N x.1.1 x.1.2.1 (fun y0=>C.1 ((y0,()),(())))
def Aqq(Abz:Akx)(N:Nat):Go.AX.Aak:=Ac1 [true,true] [] false 2 0 Bfy [A05] (fun R x C=>Abz N x.1.1 x.1.2.1 (fun y0=>C.1 ((y0,()),(()))))
def Bf0(N:Nat):Go.AX.Aak:=Aqq @Abz N
def Csa(N:Nat):List (Nat×Ac4):=[(12,Aaa Anc (Bi9 N))]
def Ceb(N:Nat):List (Nat×Go.AX.Aak):=[]
def Ajf:Aac:=⟨[wq6,Aum,Cd3],[]⟩
def Ay7:Aac:=⟨A1o,[]⟩
def Ay8:Aac:=⟨Cns,[]⟩
def Bf1:Ack:=.cons .ret Ay7 (.cons .normal Ay8 (.nil))
abbrev Bxa(R:Type):=d2->Int->Bool->(Bool->Option R)->(d2->Int->Option R)->Option R
abbrev Aky:={R:Type}→Nat→Bxa R
def A3o(Abz:Akx):Aky:=fun {R} N a b f e c=>if (f=true) then (Abz N a b fun g=>if ((!g)=true) then (e false) else c a b) else let d:=(wi (b+1));if (0≤d∧d<len a) then (if (((a.getD d.toNat (0,(0,0))).1==24)=true) then (Abz N a b fun h=>if ((!h)=true) then (e false) else c a b) else c a b) else none
def Abr:Aky:=@A3o @Abz
def Aqr(Abr:Aky)(N:Nat):Aao Ajf:=fun R x K=>Abr N x.1.1 x.1.2.1 x.1.2.2.1 (fun y0=>K .ret (Aab Ay7 ((y0,()),(())))) (fun y0 y1=>K .normal (Aab Ay8 ((y0,y1,()),(()))))
def Bf2(N:Nat):Aao Ajf:=Aqr @Abr N
def Ah7:Aac:=⟨Cns,[]⟩
def Atq:Aac:=⟨A1o,[]⟩
def Atr:Aac:=⟨[wq6],[]⟩
def Bja:Ack:=.cons .ret Atq (.cons (.exit 0) Atr (.nil))
abbrev A6u(R:Type):=d2->Int->(Bool->Option R)->(d2->Option R)->Option R
abbrev Bjb(R:Type):=d2->Int->Option R
abbrev Ao7:={R:Type}→Nat→Nat→A6u R
def A6v(Acv:An5)(Abr:Aky){R:Type}(N:Nat)(rc:Bjb R):A6u R:=fun a b d l=>if ((decide (b<(len a)))=true) then (let c:=(wi (b+1));if (0≤b∧b<len a) then (let h:=(a.getD b.toNat (0,(0,0))).1;if ((h==29)=true) then (if (0≤b∧b<len a) then (Acv N N a b ((a.getD b.toNat (0,(0,0))).2.2) 0 (fun m=>d m) fun e g=>if (0≤g∧g<len e) then (let i:=(wi (g+(e.getD g.toNat (0,(0,0))).2.2));let f:=(wi (i+1));if ((!(f==(len e)))=true) then (if (0≤f∧f<len e) then (if (((e.getD f.toNat (0,(0,0))).1==30)=true) then (d false) else Abr N e i (f==(len e)) (fun n=>d n) fun o p=>rc o (wi (p+1))) else none) else Abr N e i (f==(len e)) (fun q=>d q) fun r s=>rc r (wi (s+1))) else none) else none) else if ((h==30)=true) then (d false) else if ((h==19)=true) then (if ((c==(len a))=true) then (d false) else if (0≤c∧c<len a) then (let j:=(a.getD c.toNat (0,(0,0))).1;if ((j != 18)=true) then (if (0≤c∧c<len a) then (if ((j != 28)=true) then (if (0≤c∧c<len a) then (if ((j != 19)=true) then (d false) else Abr N a b (c==(len a)) (fun t=>d t) fun u v=>rc u (wi (v+1))) else none) else Abr N a b (c==(len a)) (fun w=>d w) fun x y=>rc x (wi (y+1))) else none) else Abr N a b (c==(len a)) (fun z=>d z) fun A B=>rc A (wi (B+1))) else none) else Abr N a b (c==(len a)) (fun C=>d C) fun D E=>rc D (wi (E+1))) else none) else l a
def Acl{R:Type}(N:Nat):Nat→A6u R
 |0=>fun _ _ _ _=>none
 |k+1=>fun a b c d=>A6v @Acv @Abr N (fun a b=>Acl N k a b c d) a b c d
def Ase(Acl:Ao7)(N k:Nat):Aao Ah7:=fun R x K=>Acl N k x.1.1 x.1.2.1 (fun y0=>K .ret (Aab Atq ((y0,()),(())))) (fun y0=>K (.exit 0) (Aab Atr ((y0,()),(()))))
def A6w(N k:Nat):Aao Ah7:=Ase @Acl N k
def Bb3:Aac:=⟨[wq6],[]⟩
def Axs:Aac:=⟨Akf,[]⟩
abbrev B9b(R:Type):=d2->(Bool->Option R)->Option R
abbrev Anm:={R:Type}→Nat→B9b R
def Bb4(Acl:Ao7):Anm:=fun {R} N c a=>Acl N N c 0 (fun d=>a d) fun b=>if (((len b)==0)=true) then (a true) else if (((0 :Int)≤(0 :Int))∧(0<(len b))) then (a ((List.getD b (0:Nat) (0,(0,0))).1==24)) else none
def Aen:Anm:=@Bb4 @Acl
def Cqa(N:Nat):Ab0 Bb3 [Axs]:=fun R x C=>Aen N x.1.1 (fun y0=>C.1 ((y0,()),(())))
def Awk(Aen:Anm)(N:Nat):Go.AX.Aak:=Ac1 [true] [] false 1 0 Bb3 [Axs] (fun R x C=>Aen N x.1.1 (fun y0=>C.1 ((y0,()),(()))))
def Bpk(N:Nat):Go.AX.Aak:=Awk @Aen N
def Cqb(N:Nat):List (Nat×Ac4):=[(17,Aaa Aho (A3n N N)),(44,Aaa Ajf (Bf2 N)),(5,Aaa Ah7 (A6w N N))]
def B9c(N:Nat):List (Nat×Go.AX.Aak):=[(170,Bf0 N)]
def Aiu:Code:=Tryz.f165.body.getD .skip
def Ati:Code:=Tryz.f225.body.getD .skip
def Ag0:Code:=Tryz.f240.body.getD .skip
def Bjc:Code:=Tryz.f226.body.getD .skip
def A6x:Aac:=⟨Aun,[]⟩
def Ats:Aac:=⟨Akf,[]⟩
abbrev B1r(R:Type):=Int->(Bool->Option R)->Option R
abbrev Ao8:={R:Type}→Nat→B1r R
def A6y(Afb:Ao2):Ao8:=fun {R} N a b=>Afb N a fun c=>b (!c)
def Agc:Ao8:=@A6y @Afb
def Col(N:Nat):Ab0 A6x [Ats]:=fun R x C=>Agc N x.1.1 (fun y0=>C.1 ((y0,()),(())))
def A6z(Agc:Ao8)(N:Nat):Go.AX.Aak:=Ac1 [true] [] false 1 0 A6x [Ats] (fun R x C=>Agc N x.1.1 (fun y0=>C.1 ((y0,()),(()))))
def Bjd(N:Nat):Go.AX.Aak:=A6z @Agc N
def Com(N:Nat):List (Nat×Ac4):=[]
def B1s(N:Nat):List (Nat×Go.AX.Aak):=[(223,Bfr N)]
def Ad8:Aac:=⟨[Cnp,(1,.one (.fn 226)),Bos,Cd4],[]⟩
def Aki:Aac:=⟨Ci7,[]⟩
def Akj:Aac:=⟨[],[]⟩
def Auo:Ack:=.cons .ret Aki (.cons (.exit 0) Akj (.nil))
abbrev An6(R:Type):=d0->Int->Int->(Int->Option R)->(Option R)->Option R
abbrev Aup(R:Type):=d0->Int->Int->Option R
abbrev Ali:={R:Type}→Nat→Nat→An6 R
def Alj(Agc:Ao8){R:Type}(N:Nat)(rc:Aup R):An6 R:=fun b c a d e=>if ((decide (a<c))=true) then (if (0≤a∧a<len b) then (Agc N (b.getD a.toNat 0) fun f=>if (f=true) then (d a) else rc b c (wi (a+1))) else none) else e
def Abi{R:Type}(N:Nat):Nat→An6 R
 |0=>fun _ _ _ _ _=>none
 |k+1=>fun a b c d e=>Alj @Agc N (fun a b c=>Abi N k a b c d e) a b c d e
def An7(Abi:Ali)(N k:Nat):Aao Ad8:=fun R x K=>Abi N k x.1.1 x.1.2.2.1 x.1.2.2.2.1 (fun y0=>K .ret (Aab Aki ((y0,()),(())))) (K (.exit 0) (Aab Akj ((()),(()))))
def An8(N k:Nat):Aao Ad8:=An7 @Abi N k
def Apk:Aac:=⟨[Cnp,(1,.one (.fn 226))],[]⟩
def Alk:Aac:=⟨Aun,[]⟩
abbrev Bb5(R:Type):=d0->(Int->Option R)->Option R
abbrev Ajr:={R:Type}→Nat→Bb5 R
def Apl(Abi:Ali):Ajr:=fun {R} N a b=>Abi N N a (len a) 0 (fun c=>b c) (b (-1))
def Adp:Ajr:=@Apl @Abi
def B9d(N:Nat):Ab0 Apk [Alk]:=fun R x C=>Adp N x.1.1 (fun y0=>C.1 ((y0,()),(())))
def Awl(Adp:Ajr)(N:Nat):Go.AX.Aak:=Ac1 [true,true] [] false 2 0 Apk [Alk] (fun R x C=>Adp N x.1.1 (fun y0=>C.1 ((y0,()),(()))))
def Awm(N:Nat):Go.AX.Aak:=Awl @Adp N
def B9e(N:Nat):List (Nat×Ac4):=[(5,Aaa Ad8 (An8 N N))]
def Bb6(N:Nat):List (Nat×Go.AX.Aak):=[(226,Bjd N)]
def Anw:Aac:=⟨[Cnp,(1,.one (.fn 226))],[]⟩
def Ajw:Aac:=⟨Akf,[]⟩
abbrev A8i(R:Type):=d0->(Bool->Option R)->Option R
abbrev Afs:={R:Type}→Nat→A8i R
def Anx(Adp:Ajr):Afs:=fun {R} N a b=>Adp N a fun c=>b (decide (c≥0))
def Aa6:Afs:=@Anx @Adp
def B3u(N:Nat):Ab0 Anw [Ajw]:=fun R x C=>Aa6 N x.1.1 (fun y0=>C.1 ((y0,()),(())))
def Akt(Aa6:Afs)(N:Nat):Go.AX.Aak:=Ac1 [true,true] [] false 2 0 Anw [Ajw] (fun R x C=>Aa6 N x.1.1 (fun y0=>C.1 ((y0,()),(()))))
def Atj(N:Nat):Go.AX.Aak:=Akt @Aa6 N
def B3v(N:Nat):List (Nat×Ac4):=[]
def A8j(N:Nat):List (Nat×Go.AX.Aak):=[(240,Awm N)]
def Ai7:Aac:=⟨[wq3,(11,.one (.val z3)),Cnm,(13,.one wq0)],Atm⟩
def Att:Aac:=⟨A1o,[]⟩
def Atu:Aac:=⟨Cd2,Atm⟩
def Bje:Ack:=.cons .ret Att (.cons (.exit 0) Atu (.nil))
abbrev A60(R:Type):=d3->Int->Int->(List UInt8)->d3->d2->d1->Int->Int->(Bool->Option R)->((List UInt8)->d3->d2->d1->Int->Int->Option R)->Option R
abbrev Bjf(R:Type):=d3->Int->Int->(List UInt8)->d3->d2->d1->Int->Int->Option R
abbrev Asf:={R:Type}→Nat→Nat→A60 R
def Axt(Adb:Ald)(Aa6:Afs){R:Type}(N:Nat)(rc:Bjf R):A60 R:=fun b d a e f g h i j c n=>if ((decide (a<d))=true) then (if (0≤a∧a<len b) then (let m:=(b.getD a.toNat (([]:List UInt8),(false,([]:List Int)))).1;let l:=(b.getD a.toNat (([]:List UInt8),(false,([]:List Int)))).2.2;if ((b.getD a.toNat (([]:List UInt8),(false,([]:List Int)))).2.1=true) then (Adb N m fun q o=>if ((o != 0)=true) then (c false) else if ((decide ((len l) > 0))=true) then (c false) else rc b d (wi (a+1)) e f g h i j) else if ((!(m==([]:List UInt8)))=true) then (c false) else if (((len l)==0)=true) then (c false) else Aa6 N l fun p=>if (p=true) then (c false) else rc b d (wi (a+1)) e f g h i j) else none) else n e f g h i j
def Ad5{R:Type}(N:Nat):Nat→A60 R
 |0=>fun _ _ _ _ _ _ _ _ _ _ _=>none
 |k+1=>fun a b c d e f g h i j l=>Axt @Adb @Aa6 N (fun a b c d e f g h i=>Ad5 N k a b c d e f g h i j l) a b c d e f g h i j l
def Axu(Ad5:Asf)(N k:Nat):Aao Ai7:=fun R x K=>Ad5 N k x.1.2.1 x.1.2.2.1 x.1.2.2.2.1 x.2.1.1 x.2.1.2.1 x.2.1.2.2.1 x.2.1.2.2.2.1 x.2.1.2.2.2.2.1 x.2.1.2.2.2.2.2.1 (fun y0=>K .ret (Aab Att ((y0,()),(())))) (fun y0 y1 y2 y3 y4 y5=>K (.exit 0) (Aab Atu (((),()),((y0,y1,y2,y3,y4,y5,()),()))))
def A61(N k:Nat):Aao Ai7:=Axu @Ad5 N k
def Aid:Aac:=⟨[wq3,(7,.one (.mp 33)),(50,.one (.val z1)),(51,.one wq0),(52,.one wq0)],[A6e,(33,.amap 207 (.int .i64) .bool)]⟩
def Asg:Aac:=⟨A1o,[]⟩
def Ash:Aac:=⟨[],[]⟩
def Bf3:Ack:=.cons .ret Asg (.cons (.exit 2) Ash (.nil))
abbrev A3p(R:Type):=d1->Int->Int->(List UInt8)->d3->d2->d1->Int->Int->(List (Int×Bool))->(Bool->Option R)->(Option R)->Option R
abbrev Bf4(R:Type):=d1->Int->Int->(List UInt8)->d3->d2->d1->Int->Int->(List (Int×Bool))->Option R
abbrev Aqs:={R:Type}→Nat→Nat→A3p R
def Avh(Abg:Aip){R:Type}(N:Nat)(rc:Bf4 R):A3p R:=fun b e a h i j l f m g c n=>if ((decide (a<e))=true) then (if (0≤a∧a<len b) then (let d:=(b.getD a.toNat (0,0)).1;Abg N d 1 199 fun o=>if ((!o)=true) then (c false) else if ((Option.getD (A1n (kt:=(.int .i64)) (et:=.bool) d g) false)=true) then (c false) else Abg N ((b.getD a.toNat (0,0)).2) 1 f fun p=>if ((!p)=true) then (c false) else rc b e (wi (a+1)) h i j l f m (A26 (kt:=(.int .i64)) (et:=.bool) d true g)) else none) else n
def Adh{R:Type}(N:Nat):Nat→A3p R
 |0=>fun _ _ _ _ _ _ _ _ _ _ _ _=>none
 |k+1=>fun a b c d e f g h i j l m=>Avh @Abg N (fun a b c d e f g h i j=>Adh N k a b c d e f g h i j l m) a b c d e f g h i j l m
def Avi(Adh:Aqs)(N k:Nat):Aao Aid:=fun R x K=>Adh N k x.1.2.2.1 x.1.2.2.2.1 x.1.2.2.2.2.1 x.2.1.1 x.2.1.2.1 x.2.1.2.2.1 x.2.1.2.2.2.1 x.2.1.2.2.2.2.1 x.2.1.2.2.2.2.2.1 x.2.2.1 (fun y0=>K .ret (Aab Asg ((y0,()),(())))) (K (.exit 2) (Aab Ash ((()),(()))))
def A3q(N k:Nat):Aao Aid:=Avi @Adh N k
def Bb7:Aac:=⟨A6d,[]⟩
def Axv:Aac:=⟨Akf,[]⟩
abbrev B9f(R:Type):=(List UInt8)->d3->d2->d1->Int->Int->(Bool->Option R)->Option R
abbrev Ann:={R:Type}→Nat→B9f R
def Bb8(Ad5:Asf)(Adh:Aqs):Ann:=fun {R} N d a e f g h b=>Ad5 N N a (len a) 0 d a e f g h (fun i=>b i) fun j l m c n o=>Adh N N c (len c) 0 j l m c n o ([]:List (Int×Bool)) (fun p=>b p) (b true)
def Aeo:Ann:=@Bb8 @Ad5 @Adh
def Cqc(N:Nat):Ab0 Bb7 [Axv]:=fun R x C=>Aeo N x.1.1.1 x.1.1.2.1 x.1.1.2.2.1 x.1.1.2.2.2.1 x.1.1.2.2.2.2.1 x.1.1.2.2.2.2.2.1 (fun y0=>C.1 ((y0,()),(())))
def Awn(Aeo:Ann)(N:Nat):Go.AX.Aak:=Ac1 [true] [] false 1 0 Bb7 [Axv] (fun R x C=>Aeo N x.1.1.1 x.1.1.2.1 x.1.1.2.2.1 x.1.1.2.2.2.1 x.1.1.2.2.2.2.1 x.1.1.2.2.2.2.2.1 (fun y0=>C.1 ((y0,()),(()))))
def Bpl(N:Nat):Go.AX.Aak:=Awn @Aeo N
def Cqd(N:Nat):List (Nat×Ac4):=[(5,Aaa Ai7 (A61 N N)),(27,Aaa Aid (A3q N N))]
def B9g(N:Nat):List (Nat×Go.AX.Aak):=[(160,Bkz N),(225,Atj N),(224,A6p N)]
def Awo:Code:=Tryz.f166.body.getD .skip
def Amf:Aac:=⟨[wq3,A1p,Cni],A2m⟩
def Ay9:Aac:=⟨Bbt,[]⟩
def Aza:Aac:=⟨[],[]⟩
def Bf5:Ack:=.cons .ret Ay9 (.cons .normal Aza (.nil))
abbrev Bxb(R:Type):=Int->Bool->Int->Int->Int->(Int->Option R)->(Option R)->Option R
abbrev Aqt:={R:Type}→Nat→Bxb R
def Ad9:Aqt:=fun {R} N b c g d e a f=>if (c=true) then (a d) else if ((b==30)=true) then (a e) else f
def A3r(Ad9:Aqt)(N:Nat):Aao Amf:=fun R x K=>Ad9 N x.1.2.1 x.1.2.2.1 x.2.1.1 x.2.1.2.1 x.2.1.2.2.1 (fun y0=>K .ret (Aab Ay9 ((y0,()),(())))) (K .normal (Aab Aza ((()),(()))))
def Bf6(N:Nat):Aao Amf:=A3r @Ad9 N
def Bb9:Aac:=⟨Cjd,[]⟩
def Axw:Aac:=⟨Aun,[]⟩
abbrev B9h(R:Type):=Int->Int->Int->(Int->Option R)->Option R
abbrev Ajs:={R:Type}→Nat→B9h R
def Bca(Ad9:Aqt):Ajs:=fun {R} N a c d b=>if ((a==20)=true) then (Ad9 N a (a==20) a c d (fun e=>b e) (b 0)) else if ((a==21)=true) then (Ad9 N a (a==21) a c d (fun f=>b f) (b 0)) else if ((a==22)=true) then (Ad9 N a (a==22) a c d (fun g=>b g) (b 0)) else if ((a==27)=true) then (Ad9 N a (a==27) a c d (fun h=>b h) (b 0)) else Ad9 N a (a==29) a c d (fun i=>b i) (b 0)
def Ab4:Ajs:=@Bca @Ad9
def Cqe(N:Nat):Ab0 Bb9 [Axw]:=fun R x C=>Ab4 N x.1.1.1 x.1.1.2.1 x.1.1.2.2.1 (fun y0=>C.1 ((y0,()),(())))
def Apm(Ab4:Ajs)(N:Nat):Go.AX.Aak:=Ac1 [true] [] false 1 0 Bb9 [Axw] (fun R x C=>Ab4 N x.1.1.1 x.1.1.2.1 x.1.1.2.2.1 (fun y0=>C.1 ((y0,()),(()))))
def Bcb(N:Nat):Go.AX.Aak:=Apm @Ab4 N
def Cqf(N:Nat):List (Nat×Ac4):=[(14,Aaa Amf (Bf6 N))]
def B9i(N:Nat):List (Nat×Go.AX.Aak):=[]
def Ajg:Aac:=⟨[(8,.one (.slf 32)),(9,.one (.slf 33)),B4t,(13,.one (.ptr 34)),Cnf,Cnn,Cno],[Cr3,B4s,(34,.cells 91 Cd7)]⟩
def Azb:Aac:=⟨A1o,[]⟩
def Azc:Aac:=⟨[(8,.one (.slf 32)),(9,.one (.slf 33)),B4t,Cnf,Cnn,Cno],Cd6⟩
def Bf7:Ack:=.cons .ret Azb (.cons .normal Azc (.nil))
abbrev Bxc(R:Type):=Int->d2->Int->Int->d0->d0->Int->Int->Int->(Bool->Option R)->(Int->d2->Int->Int->d0->d0->Option R)->Option R
abbrev Akz:={R:Type}→Nat→Bxc R
def A3s(Ab4:Ajs):Akz:=fun {R} N d e f g b c j l m h i=>Ab4 N j l m fun a=>if ((decide (a > 0))=true) then (if (0≤a∧a<len c) then (if (((c.getD a.toNat 0) != d)=true) then (h false) else if (0≤a∧a<len b) then (if (((b.getD a.toNat 0)==0)=true) then (h false) else i d e f g b c) else none) else none) else i d e f g b c
def Adi:Akz:=@A3s @Ab4
def Aqu(Adi:Akz)(N:Nat):Aao Ajg:=fun R x K=>Adi N x.1.2.2.1 x.1.2.2.2.2.1 x.1.2.2.2.2.2.1 x.1.2.2.2.2.2.2.1 x.2.1 x.2.2.1 x.2.2.2.1.1 x.2.2.2.1.2.1 x.2.2.2.1.2.2.1 (fun y0=>K .ret (Aab Azb ((y0,()),(())))) (fun y0 y1 y2 y3 y4 y5=>K .normal (Aab Azc (((),(),y0,y1,y2,y3,()),(y4,y5,()))))
def Bf8(N:Nat):Aao Ajg:=Aqu @Adi N
def Ahp:Aac:=⟨[(8,.one (.slf 32)),(9,.one (.slf 33)),B4t,Cnf,Cnn,Cno],Cd6⟩
def Asi:Aac:=⟨A1o,[]⟩
def Asj:Aac:=⟨[],[]⟩
def Bf9:Ack:=.cons .ret Asi (.cons (.exit 2) Asj (.nil))
abbrev A3t(R:Type):=Int->d2->Int->Int->d0->d0->(Bool->Option R)->(Option R)->Option R
abbrev Bga(R:Type):=Int->d2->Int->Int->d0->d0->Option R
abbrev An9:={R:Type}→Nat→Nat→A3t R
def A3u(Adi:Akz){R:Type}(N:Nat)(rc:Bga R):A3t R:=fun j b c a f g h l=>if ((decide (a<c))=true) then (if (0≤a∧a<len b) then (let d:=(b.getD a.toNat (0,(0,0))).1;let e:=(b.getD a.toNat (0,(0,0))).2.1;let i:=(b.getD a.toNat (0,(0,0))).2.2;if ((d==24)=true) then (Adi N e b c a f g d e i (fun m=>h m) fun n o p q r s=>rc n o p (wi (q+1)) r s) else Adi N j b c a f g d e i (fun t=>h t) fun u v w x y z=>rc u v w (wi (x+1)) y z) else none) else l
def Acw{R:Type}(N:Nat):Nat→A3t R
 |0=>fun _ _ _ _ _ _ _ _=>none
 |k+1=>fun a b c d e f g h=>A3u @Adi N (fun a b c d e f=>Acw N k a b c d e f g h) a b c d e f g h
def Aqv(Acw:An9)(N k:Nat):Aao Ahp:=fun R x K=>Acw N k x.1.2.2.1 x.1.2.2.2.1 x.1.2.2.2.2.1 x.1.2.2.2.2.2.1 x.2.1 x.2.2.1 (fun y0=>K .ret (Aab Asi ((y0,()),(())))) (K (.exit 2) (Aab Asj ((()),(()))))
def A3v(N k:Nat):Aao Ahp:=Aqv @Acw N k
def Bcc:Aac:=⟨A6d,[]⟩
def Axx:Aac:=⟨Akf,[]⟩
abbrev B9j(R:Type):=(List UInt8)->d3->d2->d1->Int->Int->(Bool->Option R)->Option R
abbrev Awp:={R:Type}→Nat→B9j R
def Bcd(Adb:Ald)(Acn:Ale)(Ac6:An2)(Ab1:Aiy)(Aen:Anm)(Aeo:Ann)(Acw:An9):Awp:=fun {R} N d m c n e f a=>Adb N d fun y0 o=>if ((o != 0)=true) then (a false) else if ((decide (e<0))=true) then (a false) else if ((decide (f<0))=true) then (a false) else Acn N fun p q r s t u v w x y z A B C D E F G H I J L M O P Q S T U V W X Y Z aa ab ac ad ae af ag ah ai aj ak al am an ao ap aq ar au av aw ax ay az ba bb bc bd be bf bg bh bi bj bk bl bm bn bo bp bq br bs bt bu bv bw bx bz ca cb cc cd ce cf cg ch ci cj ck cl cm cn co cp cq cr cs ct cu cv cw cx cy cz da db dc dd de df dg dh di dj dk dl dm dn dp=>Ac6 N N c (len c) 0 d m c n e f ((p,(q,(r,s)))::((t,(u,(v,w)))::((x,(y,(z,A)))::((B,(C,(D,E)))::((F,(G,(H,I)))::((J,(L,(M,O)))::((P,(Q,(S,T)))::((U,(V,(W,X)))::((Y,(Z,(aa,ab)))::((ac,(ad,(ae,af)))::((ag,(ah,(ai,aj)))::((ak,(al,(am,an)))::((ao,(ap,(aq,ar)))::((au,(av,(aw,ax)))::((ay,(az,(ba,bb)))::((bc,(bd,(be,bf)))::((bg,(bh,(bi,bj)))::((bk,(bl,(bm,bn)))::((bo,(bp,(bq,br)))::((bs,(bt,(bu,bv)))::((bw,(bx,(bz,ca)))::((cb,(cc,(cd,ce)))::((cf,(cg,(ch,ci)))::((cj,(ck,(cl,cm)))::((cn,(co,(cp,cq)))::((cr,(cs,(ct,cu)))::((cv,(cw,(cx,cy)))::((cz,(da,(db,dc)))::((dd,(de,(df,dg)))::((dh,(di,(dj,dk)))::((dl,(dm,(dn,dp)))::([]:List (List UInt8×Int×Int×Int))))))))))))))))))))))))))))))))) (fun dq=>a dq) fun g h b i j l=>Ab1 N g h b i j l fun dr ds dt=>if ((!dr)=true) then (a false) else Aen N b fun du=>if ((!du)=true) then (a false) else Aeo N g h b i j l fun dv=>if ((!dv)=true) then (a false) else Acw N N 0 b (len b) 0 ds dt (fun dw=>a dw) (a true)
def Aj1:Awp:=@Bcd @Adb @Acn @Ac6 @Ab1 @Aen @Aeo @Acw
def Cqg(N:Nat):Ab0 Bcc [Axx]:=fun R x C=>Aj1 N x.1.1.1 x.1.1.2.1 x.1.1.2.2.1 x.1.1.2.2.2.1 x.1.1.2.2.2.2.1 x.1.1.2.2.2.2.2.1 (fun y0=>C.1 ((y0,()),(())))
def Bpm(Aj1:Awp)(N:Nat):Go.AX.Aak:=Ac1 [true] [] false 1 0 Bcc [Axx] (fun R x C=>Aj1 N x.1.1.1 x.1.1.2.1 x.1.1.2.2.1 x.1.1.2.2.2.1 x.1.1.2.2.2.2.1 x.1.1.2.2.2.2.2.1 (fun y0=>C.1 ((y0,()),(()))))
def Bpn(N:Nat):Go.AX.Aak:=Bpm @Aj1 N
def Cqh(N:Nat):List (Nat×Ac4):=[(13,Aaa Ahn (A3h N N)),(40,Aaa Ajg (Bf8 N)),(33,Aaa Ahp (A3v N N))]
def B9k(N:Nat):List (Nat×Go.AX.Aak):=[(160,Bkz N),(161,Bb2 N),(162,Bi7 N),(163,A87 N),(164,Bpk N),(165,Bpl N),(166,Bcb N)]
def Ane:Code:=Tryz.f105.body.getD .skip
def Ao3:Code:=Tryz.f167.body.getD .skip
def Amr:Aac:=⟨[Am9,Cnj,wq5,wq7,Cd5,(11,.one (.val .bool))],Cjn⟩
def A3w:Aac:=⟨Ci3,[]⟩
def A3x:Aac:=⟨[Am9,wq5,wq7],Cjn⟩
def Bl5:Ack:=.cons .ret A3w (.cons .normal A3x (.nil))
abbrev B41(R:Type):=Int->Bool->Int->Bool->Int->Int->Int->(List UInt8)->Int->Int->Int->(Bool->Option R)->(Int->Int->Int->Int->(List UInt8)->Int->Int->Int->Option R)->Option R
abbrev Aoa:={R:Type}→Nat→B41 R
def A88(Abg:Aip):Aoa:=fun {R} N b m l n c a d e f g h j i=>if (n=true) then (Abg N a 2 (wi (b-1)) fun o=>if ((!o)=true) then (j false) else i b c a d e f g h) else if ((l==4)=true) then (if ((decide (a<2))=true) then (j false) else i b c a d e f g h) else if ((l==23)=true) then (Abg N a 2 (wi (b-3)) fun p=>if ((!p)=true) then (j false) else i b c a d e f g h) else if ((l==18)=true) then (if ((!m)=true) then (if ((decide (a > (wi ((wi (b+2000))+2))))=true) then (j false) else i b c a d e f g h) else i b c a d e f g h) else i b c a d e f g h
def Afz:Aoa:=@A88 @Abg
def A06(Afz:Aoa)(N:Nat):Aao Amr:=fun R x K=>Afz N x.1.1 x.1.2.1 x.1.2.2.2.2.1 x.1.2.2.2.2.2.1 x.2.1.1 x.2.1.2.1 x.2.1.2.2.1 x.2.2.1.1 x.2.2.1.2.1 x.2.2.1.2.2.1 x.2.2.1.2.2.2.1 (fun y0=>K .ret (Aab A3w ((y0,()),(())))) (fun y0 y1 y2 y3 y4 y5 y6 y7=>K .normal (Aab A3x ((y0,(),(),()),((y1,y2,y3,()),(y4,y5,y6,y7,()),()))))
def Bl6(N:Nat):Aao Amr:=A06 @Afz N
def Al6:Aac:=⟨[Am9,wq5,wq7],Cjn⟩
def A1s:Aac:=⟨Ci3,[]⟩
def Bjg:Ack:=.cons .ret A1s (.nil)
abbrev B1t(R:Type):=Int->Int->Int->Int->(List UInt8)->Int->Int->Int->(Bool->Option R)->Option R
abbrev Ao9:={R:Type}→Nat→B1t R
def Aeu:Ao9:=fun {R} N b c e f g h d i a=>if ((c==24)=true) then (a true) else a (decide ((wi (b-d))≥2))
def Axy(Aeu:Ao9)(N:Nat):Aao Al6:=fun R x K=>Aeu N x.1.1 x.2.1.1 x.2.1.2.1 x.2.1.2.2.1 x.2.2.1.1 x.2.2.1.2.1 x.2.2.1.2.2.1 x.2.2.1.2.2.2.1 (fun y0=>K .ret (Aab A1s ((y0,()),(()))))
def Bjh(N:Nat):Aao Al6:=Axy @Aeu N
def Bgb:Aac:=⟨[B4y,Am9,Cjf,Cnj],[]⟩
def A07:Aac:=⟨Akf,[]⟩
abbrev Cec(R:Type):=Int->Int->Int->Int->(List UInt8)->Int->Int->Int->Bool->(Bool->Option R)->Option R
abbrev Auq:={R:Type}→Nat→Cec R
def Bgc(Afz:Aoa)(Aeu:Ao9):Auq:=fun {R} N a c d e f g h i j b=>if ((a==2)=true) then (Afz N e j a (a==2) a c d f g h i (fun l=>b l) fun m n o p q r s t=>Aeu N m n o p q r s t fun u=>b u) else Afz N e j a (a==3) a c d f g h i (fun v=>b v) fun w x y z A B C D=>Aeu N w x y z A B C D fun E=>b E
def Agv:Auq:=@Bgc @Afz @Aeu
def Csb(N:Nat):Ab0 Bgb [A07]:=fun R x C=>Agv N x.1.1.1 x.1.1.2.1 x.1.1.2.2.1 x.1.2.1 x.1.2.2.1.1 x.1.2.2.1.2.1 x.1.2.2.1.2.2.1 x.1.2.2.1.2.2.2.1 x.1.2.2.2.1 (fun y0=>C.1 ((y0,()),(())))
def Bgd(Agv:Auq)(N:Nat):Go.AX.Aak:=Ac1 [true,true,true,true] [] false 4 0 Bgb [A07] (fun R x C=>Agv N x.1.1.1 x.1.1.2.1 x.1.1.2.2.1 x.1.2.1 x.1.2.2.1.1 x.1.2.2.1.2.1 x.1.2.2.1.2.2.1 x.1.2.2.1.2.2.2.1 x.1.2.2.2.1 (fun y0=>C.1 ((y0,()),(()))))
def Bsa(N:Nat):Go.AX.Aak:=Bgd @Agv N
def Csc(N:Nat):List (Nat×Ac4):=[(8,Aaa Amr (Bl6 N)),(30,Aaa Al6 (Bjh N))]
def Ced(N:Nat):List (Nat×Go.AX.Aak):=[(224,A6p N)]
def Ano:Code:=Tryz.f168.body.getD .skip
def Ak0:Aac:=⟨A3b,A2m⟩
def Azd:Aac:=⟨[A84],[]⟩
def Bge:Ack:=.cons .ret Azd (.nil)
abbrev Bxd(R:Type):=Int->Int->Int->(Int->Option R)->Option R
abbrev Aob:={R:Type}→Nat→Bxd R
def Aea:Aob:=fun {R} N c a d b=>b (wi (a+1))
def Avj(Aea:Aob)(N:Nat):Aao Ak0:=fun R x K=>Aea N x.2.1.1 x.2.1.2.1 x.2.1.2.2.1 (fun y0=>K .ret (Aab Azd ((y0,()),(()))))
def Bgf(N:Nat):Aao Ak0:=Avj @Aea N
def Ak1:Aac:=⟨[Am9,wq8],[(32,.cells 166 Cnt)]⟩
def Aze:Aac:=⟨[A84],[]⟩
def Bgg:Ack:=.cons .ret Aze (.nil)
abbrev Bxe(R:Type):=Int->(List UInt8)->Int->Int->Int->(Int->Option R)->Option R
abbrev Aoc:={R:Type}→Nat→Bxe R
def Ael:Aoc:=fun {R} N a e f b c d=>d (wi ((wi (a-b))+c))
def Avk(Ael:Aoc)(N:Nat):Aao Ak1:=fun R x K=>Ael N x.1.1 x.2.1.1 x.2.1.2.1 x.2.1.2.2.1 x.2.1.2.2.2.1 (fun y0=>K .ret (Aab Aze ((y0,()),(()))))
def Bgh(N:Nat):Aao Ak1:=Avk @Ael N
def Bce:Aac:=⟨[B4y,Am9,Cjf],[]⟩
def Axz:Aac:=⟨Aun,[]⟩
abbrev B9l(R:Type):=Int->Int->Int->Int->(List UInt8)->Int->Int->Int->(Int->Option R)->Option R
abbrev Arl:={R:Type}→Nat→B9l R
def Bcf(Aea:Aob)(Ael:Aoc):Arl:=fun {R} N a c d e f g h i b=>if ((a==18)=true) then (b c) else if ((a==24)=true) then (b (wi (2+d))) else if ((a==23)=true) then (Aea N a c d fun j=>b j) else if ((a==28)=true) then (Aea N a c d fun l=>b l) else Ael N e f g h i fun m=>b m
def Agg:Arl:=@Bcf @Aea @Ael
def Cqi(N:Nat):Ab0 Bce [Axz]:=fun R x C=>Agg N x.1.1.1 x.1.1.2.1 x.1.1.2.2.1 x.1.2.1 x.1.2.2.1.1 x.1.2.2.1.2.1 x.1.2.2.1.2.2.1 x.1.2.2.1.2.2.2.1 (fun y0=>C.1 ((y0,()),(())))
def Bcg(Agg:Arl)(N:Nat):Go.AX.Aak:=Ac1 [true,true,true] [] false 3 0 Bce [Axz] (fun R x C=>Agg N x.1.1.1 x.1.1.2.1 x.1.1.2.2.1 x.1.2.1 x.1.2.2.1.1 x.1.2.2.1.2.1 x.1.2.2.1.2.2.1 x.1.2.2.1.2.2.2.1 (fun y0=>C.1 ((y0,()),(()))))
def Bpo(N:Nat):Go.AX.Aak:=Bcg @Agg N
def Cqj(N:Nat):List (Nat×Ac4):=[(16,Aaa Ak0 (Bgf N)),(18,Aaa Ak1 (Bgh N))]
def B9m(N:Nat):List (Nat×Go.AX.Aak):=[]
def Apn:Code:=Tryz.f169.body.getD .skip
def Akk:Aac:=⟨B4u,[]⟩
def Atv:Aac:=⟨Ci8,[]⟩
def Bji:Ack:=.cons (.exit 0) Atv (.nil)
abbrev A62(R:Type):=d2->Int->(Int->Option R)->Option R
abbrev Bjj(R:Type):=d2->Int->Option R
abbrev Ax0:={R:Type}→Nat→Nat→A62 R
def A63{R:Type}(N:Nat)(rc:Bjj R):A62 R:=fun b a c=>if (0≤a∧a<len b) then (if (((b.getD a.toNat (0,(0,0))).1==19)=true) then (rc b (wi (a+1))) else c a) else none
def Afm{R:Type}(N:Nat):Nat→A62 R
 |0=>fun _ _ _=>none
 |k+1=>fun a b c=>A63 N (fun a b=>Afm N k a b c) a b c
def A64(Afm:Ax0)(N k:Nat):Aao Akk:=fun R x K=>Afm N k x.1.1 x.1.2.1 (fun y0=>K (.exit 0) (Aab Atv ((y0,()),(()))))
def A65(N k:Nat):Aao Akk:=A64 @Afm N k
def Bch:Aac:=⟨B4u,[]⟩
def Ax1:Aac:=⟨Aun,[]⟩
abbrev B9n(R:Type):=d2->Int->(Int->Option R)->Option R
abbrev Arm:={R:Type}→Nat→B9n R
def Bci(Afm:Ax0):Arm:=fun {R} N a b c=>Afm N N a b fun d=>c d
def Ady:Arm:=@Bci @Afm
def Cqk(N:Nat):Ab0 Bch [Ax1]:=fun R x C=>Ady N x.1.1 x.1.2.1 (fun y0=>C.1 ((y0,()),(())))
def Bcj(Ady:Arm)(N:Nat):Go.AX.Aak:=Ac1 [true,true] [] false 2 0 Bch [Ax1] (fun R x C=>Ady N x.1.1 x.1.2.1 (fun y0=>C.1 ((y0,()),(()))))
def Bpp(N:Nat):Go.AX.Aak:=Bcj @Ady N
def Cql(N:Nat):List (Nat×Ac4):=[(3,Aaa Akk (A65 N N))]
def B9o(N:Nat):List (Nat×Go.AX.Aak):=[]
def Ah8:Aac:=⟨[wq3,(3,.one (.ptr 1000)),(4,.one (.slf 33)),Bos,(19,.one (.val z4)),(20,.one wq0),(21,.one wq0)],[A6e,B4s,(1000,.row 167 (.pair .str z2))]⟩
def Ap2:Aac:=⟨A1o,[]⟩
def Ap3:Aac:=⟨[],[]⟩
def Bav:Ack:=.cons .ret Ap2 (.cons (.exit 0) Ap3 (.nil))
abbrev Azf(R:Type):=Int->d2->Int->Int->(List UInt8)->d3->d2->d1->Int->Int->d0->(List ((List UInt8×(Int×(Int×Int)))))->(Bool->Option R)->(Option R)->Option R
abbrev Ao4(R:Type):=Int->d2->Int->Int->(List UInt8)->d3->d2->d1->Int->Int->d0->(List ((List UInt8×(Int×(Int×Int)))))->Option R
abbrev Ask:={R:Type}→Nat→Nat→Azf R
def Azg(Agv:Auq)(Agg:Arl)(Ab4:Ajs)(Ady:Arm)(Abz:Akx){R:Type}(N:Nat)(rc:Ao4 R):Azf R:=fun s e g c h i a j l m f d n L=>if ((decide (c<g))=true) then (if (0≤c∧c<len e) then (let b:=(e.getD c.toNat (0,(0,0))).1;let q:=(e.getD c.toNat (0,(0,0))).2.1;let r:=(e.getD c.toNat (0,(0,0))).2.2;if ((0≤b)∧(b<31)) then (if (b<(len d)) then (let t:=(d.getD b.toNat (([]:List UInt8),(0,(0,0)))).1;let u:=(d.getD b.toNat (([]:List UInt8),(0,(0,0)))).2.1;let v:=(d.getD b.toNat (([]:List UInt8),(0,(0,0)))).2.2.1;let w:=(d.getD b.toNat (([]:List UInt8),(0,(0,0)))).2.2.2;if ((decide (c > 0))=true) then (let D:=(wi (c-1));if (0≤D∧D<len a) then (Agv N b q r s t u v w ((a.getD D.toNat (0,(0,0))).1==19) fun M=>if ((!M)=true) then (n false) else if ((0≤b)∧(b<31)) then (if (b<(len d)) then (Agg N b q r s t u v w fun o=>if ((decide (o<2))=true) then (n false) else if ((decide (o > 4000))=true) then (n false) else Ab4 N b q r fun x=>if ((decide (x > 0))=true) then (if (0≤x∧x<len f) then (Ady N a (f.getD x.toNat 0) fun E=>if (0≤E∧E<len a) then (if ((!(((a.getD E.toNat (0,(0,0))).1==28)==(b==27)))=true) then (n false) else if ((b != 19)=true) then (Abz N a c fun O=>if ((!O)=true) then (let y:=(wi (c+1));if ((decide (y<(len a)))=true) then (Ady N a y fun F=>if (0≤F∧F<len a) then (if (((a.getD F.toNat (0,(0,0))).1==28)=true) then (n false) else rc o e g y h i a j l m f d) else none) else rc o e g y h i a j l m f d) else rc o e g (wi (c+1)) h i a j l m f d) else rc o e g (wi (c+1)) h i a j l m f d) else none) else none) else if ((b != 19)=true) then (Abz N a c fun P=>if ((!P)=true) then (let z:=(wi (c+1));if ((decide (z<(len a)))=true) then (Ady N a z fun G=>if (0≤G∧G<len a) then (if (((a.getD G.toNat (0,(0,0))).1==28)=true) then (n false) else rc o e g z h i a j l m f d) else none) else rc o e g z h i a j l m f d) else rc o e g (wi (c+1)) h i a j l m f d) else rc o e g (wi (c+1)) h i a j l m f d) else none) else none) else none) else Agv N b q r s t u v w false fun Q=>if ((!Q)=true) then (n false) else if ((0≤b)∧(b<31)) then (if (b<(len d)) then (Agg N b q r s t u v w fun p=>if ((decide (p<2))=true) then (n false) else if ((decide (p > 4000))=true) then (n false) else Ab4 N b q r fun A=>if ((decide (A > 0))=true) then (if (0≤A∧A<len f) then (Ady N a (f.getD A.toNat 0) fun H=>if (0≤H∧H<len a) then (if ((!(((a.getD H.toNat (0,(0,0))).1==28)==(b==27)))=true) then (n false) else if ((b != 19)=true) then (Abz N a c fun S=>if ((!S)=true) then (let B:=(wi (c+1));if ((decide (B<(len a)))=true) then (Ady N a B fun I=>if (0≤I∧I<len a) then (if (((a.getD I.toNat (0,(0,0))).1==28)=true) then (n false) else rc p e g B h i a j l m f d) else none) else rc p e g B h i a j l m f d) else rc p e g (wi (c+1)) h i a j l m f d) else rc p e g (wi (c+1)) h i a j l m f d) else none) else none) else if ((b != 19)=true) then (Abz N a c fun T=>if ((!T)=true) then (let C:=(wi (c+1));if ((decide (C<(len a)))=true) then (Ady N a C fun J=>if (0≤J∧J<len a) then (if (((a.getD J.toNat (0,(0,0))).1==28)=true) then (n false) else rc p e g C h i a j l m f d) else none) else rc p e g C h i a j l m f d) else rc p e g (wi (c+1)) h i a j l m f d) else rc p e g (wi (c+1)) h i a j l m f d) else none) else none) else none) else none) else none) else L
def Adn{R:Type}(N:Nat):Nat→Azf R
 |0=>fun _ _ _ _ _ _ _ _ _ _ _ _ _ _=>none
 |k+1=>fun a b c d e f g h i j l m n o=>Azg @Agv @Agg @Ab4 @Ady @Abz N (fun a b c d e f g h i j l m=>Adn N k a b c d e f g h i j l m n o) a b c d e f g h i j l m n o
def Azh(Adn:Ask)(N k:Nat):Aao Ah8:=fun R x K=>Adn N k x.1.2.2.2.1 x.1.2.2.2.2.1 x.1.2.2.2.2.2.1 x.1.2.2.2.2.2.2.1 x.2.1.1 x.2.1.2.1 x.2.1.2.2.1 x.2.1.2.2.2.1 x.2.1.2.2.2.2.1 x.2.1.2.2.2.2.2.1 x.2.2.1 x.2.2.2.1 (fun y0=>K .ret (Aab Ap2 ((y0,()),(())))) (K (.exit 0) (Aab Ap3 ((()),(()))))
def Azi(N k:Nat):Aao Ah8:=Azh @Adn N k
def A66:Aac:=⟨A6d,[]⟩
def Atw:Aac:=⟨Akf,[]⟩
abbrev B1u(R:Type):=(List UInt8)->d3->d2->d1->Int->Int->(Bool->Option R)->Option R
abbrev Asl:={R:Type}→Nat→B1u R
def A67(Acn:Ale)(Ab1:Aiy)(Adn:Ask):Asl:=fun {R} N b c a d e f g=>Acn N fun h i j l m n o p q r s t u v w x y z A B C D E F G H I J L M O P Q S T U V W X Y Z aa ab ac ad ae af ag ah ai aj ak al am an ao ap aq ar au av aw ax ay az ba bb bc bd be bf bg bh bi bj bk bl bm bn bo bp bq br bs bt bu bv bw bx bz ca cb cc cd ce cf cg ch ci cj ck cl cm cn co cp cq cr cs ct cu cv cw cx cy cz da db dc dd de df dg dh=>Ab1 N b c a d e f fun dk di dl=>Adn N N 0 a (len a) 0 b c a d e f di ((h,(i,(j,l)))::((m,(n,(o,p)))::((q,(r,(s,t)))::((u,(v,(w,x)))::((y,(z,(A,B)))::((C,(D,(E,F)))::((G,(H,(I,J)))::((L,(M,(O,P)))::((Q,(S,(T,U)))::((V,(W,(X,Y)))::((Z,(aa,(ab,ac)))::((ad,(ae,(af,ag)))::((ah,(ai,(aj,ak)))::((al,(am,(an,ao)))::((ap,(aq,(ar,au)))::((av,(aw,(ax,ay)))::((az,(ba,(bb,bc)))::((bd,(be,(bf,bg)))::((bh,(bi,(bj,bk)))::((bl,(bm,(bn,bo)))::((bp,(bq,(br,bs)))::((bt,(bu,(bv,bw)))::((bx,(bz,(ca,cb)))::((cc,(cd,(ce,cf)))::((cg,(ch,(ci,cj)))::((ck,(cl,(cm,cn)))::((co,(cp,(cq,cr)))::((cs,(ct,(cu,cv)))::((cw,(cx,(cy,cz)))::((da,(db,(dc,dd)))::((de,(df,(dg,dh)))::([]:List (List UInt8×Int×Int×Int))))))))))))))))))))))))))))))))) (fun dj=>g dj) (g true)
def Ah3:Asl:=@A67 @Acn @Ab1 @Adn
def Con(N:Nat):Ab0 A66 [Atw]:=fun R x C=>Ah3 N x.1.1.1 x.1.1.2.1 x.1.1.2.2.1 x.1.1.2.2.2.1 x.1.1.2.2.2.2.1 x.1.1.2.2.2.2.2.1 (fun y0=>C.1 ((y0,()),(())))
def Bjk(Ah3:Asl)(N:Nat):Go.AX.Aak:=Ac1 [true] [] false 1 0 A66 [Atw] (fun R x C=>Ah3 N x.1.1.1 x.1.1.2.1 x.1.1.2.2.1 x.1.1.2.2.2.1 x.1.1.2.2.2.2.1 x.1.1.2.2.2.2.2.1 (fun y0=>C.1 ((y0,()),(()))))
def Bjl(N:Nat):Go.AX.Aak:=Bjk @Ah3 N
def Coo(N:Nat):List (Nat×Ac4):=[(11,Aaa Ah8 (Azi N N))]
def B1v(N:Nat):List (Nat×Go.AX.Aak):=[(161,Bb2 N),(163,A87 N),(167,Bsa N),(168,Bpo N),(166,Bcb N),(169,Bpp N),(170,Bf0 N)]
def Bck:Aac:=⟨A6d,[]⟩
def Ax2:Aac:=⟨Aun,[]⟩
abbrev B9p(R:Type):=(List UInt8)->d3->d2->d1->Int->Int->(Int->Option R)->Option R
abbrev Apo:={R:Type}→Nat→B9p R
def Bcl(Aj0:Awj)(Aj1:Awp)(Ah3:Asl):Apo:=fun {R} N b c d e f g a=>Aj0 N b c d e f g fun h=>if (h=true) then (a 2) else Aj1 N b c d e f g fun i=>if ((!i)=true) then (a 60) else Ah3 N b c d e f g fun j=>if ((!j)=true) then (a 61) else a 0
def Agh:Apo:=@Bcl @Aj0 @Aj1 @Ah3
def Cqm(N:Nat):Ab0 Bck [Ax2]:=fun R x C=>Agh N x.1.1.1 x.1.1.2.1 x.1.1.2.2.1 x.1.1.2.2.2.1 x.1.1.2.2.2.2.1 x.1.1.2.2.2.2.2.1 (fun y0=>C.1 ((y0,()),(())))
def A2q(Agh:Apo)(N:Nat):Go.AX.Aak:=Ac1 [true] [] false 1 0 Bck [Ax2] (fun R x C=>Agh N x.1.1.1 x.1.1.2.1 x.1.1.2.2.1 x.1.1.2.2.2.1 x.1.1.2.2.2.2.1 x.1.1.2.2.2.2.2.1 (fun y0=>C.1 ((y0,()),(()))))
def Bpq(N:Nat):Go.AX.Aak:=A2q @Agh N
def Cqn(N:Nat):List (Nat×Ac4):=[]
def B9q(N:Nat):List (Nat×Go.AX.Aak):=[(103,Bpf N),(104,Bpn N),(105,Bjl N)]
def Bl7:Code:=Tryz.f28.body.getD .skip
def A17:Code:=Tryz.f29.body.getD .skip
def App:Aac:=⟨[wq9,Am9,Bfm,(10,.one (.val .bool))],[]⟩
def A68:Aac:=⟨Arj,[]⟩
def A69:Aac:=⟨[],[]⟩
def Bpr:Ack:=.cons .ret A68 (.cons .normal A69 (.nil))
abbrev B9r(R:Type):=d4->Int->Int->Bool->(Bool->Option R)->(Option R)->Option R
abbrev Awq:={R:Type}→Nat→B9r R
def Ahy:Awq:=fun {R} N a b e f c g=>if (f=true) then (c true) else if ((e==22)=true) then (if (0≤b∧b<len a) then (c ((a.getD b.toNat (0,(0,(0,(0,0))))).2.2.1==0)) else none) else if ((e==23)=true) then (let d:=(wi (b+1));if ((d==(len a))=true) then (c true) else if (0≤d∧d<len a) then (c ((a.getD d.toNat (0,(0,(0,(0,0))))).1 != 23)) else none) else g
def Bcm(Ahy:Awq)(N:Nat):Aao App:=fun R x K=>Ahy N x.1.1 x.1.2.1 x.1.2.2.1 x.1.2.2.2.1 (fun y0=>K .ret (Aab A68 ((y0,()),(())))) (K .normal (Aab A69 ((()),(()))))
def Bps(N:Nat):Aao App:=Bcm @Ahy N
def Bk0:Aac:=⟨[wq9,Am9],[]⟩
def A2r:Aac:=⟨Akf,[]⟩
abbrev Cfw(R:Type):=d4->Int->(Bool->Option R)->Option R
abbrev A18:={R:Type}→Nat→Cfw R
def Bk1(Ahy:Awq):A18:=fun {R} N c a d=>if (0≤a∧a<len c) then (let b:=(c.getD a.toNat (0,(0,(0,(0,0))))).1;if ((b==17)=true) then (Ahy N c a b (b==17) (fun e=>d e) (d false)) else Ahy N c a b (b==21) (fun f=>d f) (d false)) else none
def Ams:A18:=@Bk1 @Ahy
def Csx(N:Nat):Ab0 Bk0 [A2r]:=fun R x C=>Ams N x.1.1 x.1.2.1 (fun y0=>C.1 ((y0,()),(())))
def Bv9(Ams:A18)(N:Nat):Go.AX.Aak:=Ac1 [true,true] [] false 2 0 Bk0 [A2r] (fun R x C=>Ams N x.1.1 x.1.2.1 (fun y0=>C.1 ((y0,()),(()))))
def Bwa(N:Nat):Go.AX.Aak:=Bv9 @Ams N
def Csy(N:Nat):List (Nat×Ac4):=[(8,Aaa App (Bps N))]
def Cfx(N:Nat):List (Nat×Go.AX.Aak):=[]
def A89:Aac:=⟨Cnr,Bkw⟩
def Avl:Aac:=⟨Akf,Bkw⟩
abbrev B42(R:Type):=Int->(List UInt8)->d3->d1->d2->d4->(Bool->(List UInt8)->d3->d1->d2->d4->Option R)->Option R
abbrev Amt:={R:Type}→Nat→B42 R
def A08(Ams:A18):Amt:=fun {R} N b c d e f a g=>Ams N a b fun h=>g h c d e f a
def Ad1:Amt:=@A08 @Ams
def Cpr(N:Nat):Ab0 A89 [Avl]:=fun R x C=>Ad1 N x.1.1 x.2.1.1 x.2.1.2.1 x.2.1.2.2.1 x.2.1.2.2.2.1 x.2.1.2.2.2.2.1 (fun y0 y1 y2 y3 y4 y5=>C.1 ((y0,()),((y1,y2,y3,y4,y5,()),())))
def A09(Ad1:Amt)(N:Nat):Go.AX.Aak:=Ac1 [true] [] false 2 1 A89 [Avl] (fun R x C=>Ad1 N x.1.1 x.2.1.1 x.2.1.2.1 x.2.1.2.2.1 x.2.1.2.2.2.1 x.2.1.2.2.2.2.1 (fun y0 y1 y2 y3 y4 y5=>C.1 ((y0,()),((y1,y2,y3,y4,y5,()),()))))
def Bl8(N:Nat):Go.AX.Aak:=A09 @Ad1 N
def Cps(N:Nat):List (Nat×Ac4):=[]
def B43(N:Nat):List (Nat×Go.AX.Aak):=[(29,Bwa N)]
def Bl9:Code:=Tryz.f30.body.getD .skip
def A9a:Aac:=⟨Cnr,Bkw⟩
def Avm:Aac:=⟨Akf,Bkw⟩
abbrev B44(R:Type):=Int->(List UInt8)->d3->d1->d2->d4->(Bool->(List UInt8)->d3->d1->d2->d4->Option R)->Option R
abbrev Aqe:={R:Type}→Nat→B44 R
def Af0:Aqe:=fun {R} N a c d e f b g=>if (0≤a∧a<len b) then (g ((b.getD a.toNat (0,(0,(0,(0,0))))).1==23) c d e f b) else none
def B45(N:Nat):Ab0 A9a [Avm]:=fun R x C=>Af0 N x.1.1 x.2.1.1 x.2.1.2.1 x.2.1.2.2.1 x.2.1.2.2.2.1 x.2.1.2.2.2.2.1 (fun y0 y1 y2 y3 y4 y5=>C.1 ((y0,()),((y1,y2,y3,y4,y5,()),())))
def A1a(Af0:Aqe)(N:Nat):Go.AX.Aak:=Ac1 [true] [] false 2 1 A9a [Avm] (fun R x C=>Af0 N x.1.1 x.2.1.1 x.2.1.2.1 x.2.1.2.2.1 x.2.1.2.2.2.1 x.2.1.2.2.2.2.1 (fun y0 y1 y2 y3 y4 y5=>C.1 ((y0,()),((y1,y2,y3,y4,y5,()),()))))
def Bma(N:Nat):Go.AX.Aak:=A1a @Af0 N
def B46(N:Nat):List (Nat×Ac4):=[]
def Bmb(N:Nat):List (Nat×Go.AX.Aak):=[]
def Ai8:Aac:=⟨[Ciz,Ci0,wq4,(68,.one (.val z4)),(69,.one wq0),(70,.one wq0)],[Cjc,Bw9]⟩
def Atx:Aac:=⟨[Boq,Bop],Bkw⟩
def Aty:Aac:=⟨[],Bkw⟩
def Bjm:Ack:=.cons .ret Atx (.cons (.exit 3) Aty (.nil))
abbrev A7a(R:Type):=d2->Int->Int->(List UInt8)->d3->d1->d2->d4->(List UInt8)->d3->d1->d2->d4->(Bool->Bool->(List UInt8)->d3->d1->d2->d4->Option R)->((List UInt8)->d3->d1->d2->d4->Option R)->Option R
abbrev Bjn(R:Type):=d2->Int->Int->(List UInt8)->d3->d1->d2->d4->(List UInt8)->d3->d1->d2->d4->Option R
abbrev Asm:={R:Type}→Nat→Nat→A7a R
def A7b(Af0:Aqe)(Ad1:Amt){R:Type}(N:Nat)(rc:Bjn R):A7a R:=fun h p a j l m n o r s t u q b C=>if ((decide (a<p))=true) then (if (0≤a∧a<len h) then (let i:=(h.getD a.toNat (0,(0,0))).1;let v:=(h.getD a.toNat (0,(0,0))).2.1;let w:=(h.getD a.toNat (0,(0,0))).2.2;if ((decide (i<0))=true) then (b false false j l m n o) else if ((decide (i≥(len q)))=true) then (b false false j l m n o) else Af0 N i j l m n o fun D c d e f g=>if (D=true) then (b false false c d e f g) else if ((decide (v<0))=true) then (b false false c d e f g) else if ((decide (v > 8))=true) then (b false false c d e f g) else if ((decide (w<2))=true) then (b false false c d e f g) else if ((decide (w > 4001))=true) then (b false false c d e f g) else if ((decide (i > 0))=true) then (Ad1 N (wi (i-1)) c d e f g fun E x y z A B=>if ((!E)=true) then (b false false x y z A B) else rc h p (wi (a+1)) x y z A B r s t u q) else rc h p (wi (a+1)) c d e f g r s t u q) else none) else C j l m n o
def Ad6{R:Type}(N:Nat):Nat→A7a R
 |0=>fun _ _ _ _ _ _ _ _ _ _ _ _ _ _ _=>none
 |k+1=>fun a b c d e f g h i j l m n o p=>A7b @Af0 @Ad1 N (fun a b c d e f g h i j l m n=>Ad6 N k a b c d e f g h i j l m n o p) a b c d e f g h i j l m n o p
def Ax3(Ad6:Asm)(N k:Nat):Aao Ai8:=fun R x K=>Ad6 N k x.1.2.2.2.1 x.1.2.2.2.2.1 x.1.2.2.2.2.2.1 x.2.1.1 x.2.1.2.1 x.2.1.2.2.1 x.2.1.2.2.2.1 x.2.1.2.2.2.2.1 x.2.2.1.1 x.2.2.1.2.1 x.2.2.1.2.2.1 x.2.2.1.2.2.2.1 x.2.2.1.2.2.2.2.1 (fun y0 y1 y2 y3 y4 y5 y6=>K .ret (Aab Atx ((y0,y1,()),((y2,y3,y4,y5,y6,()),())))) (fun y0 y1 y2 y3 y4=>K (.exit 3) (Aab Aty ((()),((y0,y1,y2,y3,y4,()),()))))
def A7c(N k:Nat):Aao Ai8:=Ax3 @Ad6 N k
def Bgi:Aac:=⟨[B4w,Ciz,Ci0],Bkw⟩
def A1b:Aac:=⟨[Cr0,(1,.one (.val .bool))],Bkw⟩
abbrev Cee(R:Type):=(List UInt8)->d3->d1->d2->d4->(List UInt8)->d3->d1->d2->d4->(Bool->Bool->(List UInt8)->d3->d1->d2->d4->Option R)->Option R
abbrev Aur:={R:Type}→Nat→Cee R
def Bgj(Ad4:Ar2)(Agh:Apo)(Ad1:Amt)(Ad6:Asm):Aur:=fun {R} N p q r c s j l m n o a=>if ((decide ((len s) > 32000))=true) then (a true false j l m n o) else if ((decide ((len c) > 200))=true) then (a true false j l m n o) else Ad4 N N (len c) 0 j l m n o p q r c s p q r (len c) 0 ([]:List (Int×Int×Int)) fun d e f g h t u v b i C D E F G H=>Agh N C D H E F G fun w=>if ((w==2)=true) then (a true false d e f g h) else if ((w==60)=true) then (a false false d e f g h) else if ((decide ((len i) > 0))=true) then (Ad1 N (wi ((len i)-1)) d e f g h fun I x y z A B=>if ((!I)=true) then (a false false x y z A B) else Ad6 N N b (len b) 0 x y z A B t u v b i (fun J L M O P Q S=>a J L M O P Q S) fun T U V W X=>a false true T U V W X) else Ad6 N N b (len b) 0 d e f g h t u v b i (fun Y Z aa ab ac ad ae=>a Y Z aa ab ac ad ae) fun af ag ah ai aj=>a false true af ag ah ai aj
def Aiq:Aur:=@Bgj @Ad4 @Agh @Ad1 @Ad6
def Csd(N:Nat):Ab0 Bgi [A1b]:=fun R x C=>Aiq N x.1.1.1 x.1.1.2.1 x.1.1.2.2.1 x.1.1.2.2.2.1 x.1.1.2.2.2.2.1 x.2.1.1 x.2.1.2.1 x.2.1.2.2.1 x.2.1.2.2.2.1 x.2.1.2.2.2.2.1 (fun y0 y1 y2 y3 y4 y5 y6=>C.1 ((y0,y1,()),((y2,y3,y4,y5,y6,()),())))
def Bgk(Aiq:Aur)(N:Nat):Go.AX.Aak:=Ac1 [true,true,true] [] false 3 1 Bgi [A1b] (fun R x C=>Aiq N x.1.1.1 x.1.1.2.1 x.1.1.2.2.1 x.1.1.2.2.2.1 x.1.1.2.2.2.2.1 x.2.1.1 x.2.1.2.1 x.2.1.2.2.1 x.2.1.2.2.2.1 x.2.1.2.2.2.2.1 (fun y0 y1 y2 y3 y4 y5 y6=>C.1 ((y0,y1,()),((y2,y3,y4,y5,y6,()),()))))
def Bsb(N:Nat):Go.AX.Aak:=Bgk @Aiq N
def Cse(N:Nat):List (Nat×Ac4):=[(11,Aaa Ai6 (A6k N N)),(35,Aaa Ai8 (A7c N N))]
def Cef(N:Nat):List (Nat×Go.AX.Aak):=[(62,Bpq N),(28,Bl8 N),(30,Bma N)]
def Ahb:Code:=Tryz.f31.body.getD .skip
def Bjo:Code:=Tryz.f64.body.getD .skip
def A7d:Aac:=⟨Aun,[]⟩
def Atz:Aac:=⟨Akf,[]⟩
abbrev B1w(R:Type):=Int->(Bool->Option R)->Option R
abbrev Akl:={R:Type}→Nat→B1w R
def Ab2:Akl:=fun {R} N a b=>if ((decide (a≥0))=true) then (b (decide (a≤7))) else b false
def B1x(N:Nat):Ab0 A7d [Atz]:=fun R x C=>Ab2 N x.1.1 (fun y0=>C.1 ((y0,()),(())))
def Anf(Ab2:Akl)(N:Nat):Go.AX.Aak:=Ac1 [true] [] false 1 0 A7d [Atz] (fun R x C=>Ab2 N x.1.1 (fun y0=>C.1 ((y0,()),(()))))
def Bjp(N:Nat):Go.AX.Aak:=Anf @Ab2 N
def B1y(N:Nat):List (Nat×Ac4):=[]
def Bjq(N:Nat):List (Nat×Go.AX.Aak):=[]
def Ai9:Code:=Tryz.f65.body.getD .skip
def Aj2:Aac:=⟨[Bor,Aum,(15,.one (.val .bool))],[]⟩
def A3y:Aac:=⟨Bbt,[]⟩
def A3z:Aac:=⟨[],[]⟩
def Bmc:Ack:=.cons .ret A3y (.cons .normal A3z (.nil))
abbrev B47(R:Type):=Int->Int->Bool->(Int->Option R)->(Option R)->Option R
abbrev Amu:={R:Type}→Nat→B47 R
def Adf:Amu:=fun {R} N b c d a e=>if (d=true) then (a (wi ((wi (b-8))+4))) else if ((c==11)=true) then (a 7) else e
def Aqf(Adf:Amu)(N:Nat):Aao Aj2:=fun R x K=>Adf N x.1.1 x.1.2.1 x.1.2.2.1 (fun y0=>K .ret (Aab A3y ((y0,()),(())))) (K .normal (Aab A3z ((()),(()))))
def Bmd(N:Nat):Aao Aj2:=Aqf @Adf N
def Aj3:Aac:=⟨[Bor,Aum,(12,.one (.val .bool))],[]⟩
def A30:Aac:=⟨Bbt,[]⟩
def A31:Aac:=⟨[],[]⟩
def Bme:Ack:=.cons .ret A30 (.cons .normal A31 (.nil))
abbrev B48(R:Type):=Int->Int->Bool->(Int->Option R)->(Option R)->Option R
abbrev Alm:={R:Type}→Nat→B48 R
def A9b(Adf:Amu):Alm:=fun {R} N c a e b d=>if (e=true) then (b 3) else if ((a==8)=true) then (Adf N c a (a==8) (fun f=>b f) d) else if ((a==9)=true) then (Adf N c a (a==9) (fun g=>b g) d) else Adf N c a (a==10) (fun h=>b h) d
def Adt:Alm:=@A9b @Adf
def Aqg(Adt:Alm)(N:Nat):Aao Aj3:=fun R x K=>Adt N x.1.1 x.1.2.1 x.1.2.2.1 (fun y0=>K .ret (Aab A30 ((y0,()),(())))) (K .normal (Aab A31 ((()),(()))))
def Bmf(N:Nat):Aao Aj3:=Aqg @Adt N
def Aj4:Aac:=⟨[Bor,Aum,(9,.one (.val .bool))],[]⟩
def A32:Aac:=⟨Bbt,[]⟩
def A33:Aac:=⟨[],[]⟩
def Bmg:Ack:=.cons .ret A32 (.cons .normal A33 (.nil))
abbrev B49(R:Type):=Int->Int->Bool->(Int->Option R)->(Option R)->Option R
abbrev Aln:={R:Type}→Nat→B49 R
def A9c(Adt:Alm):Aln:=fun {R} N c a e b d=>if (e=true) then (b 2) else if ((a==6)=true) then (Adt N c a (a==6) (fun f=>b f) d) else Adt N c a (a==7) (fun g=>b g) d
def Adu:Aln:=@A9c @Adt
def Aqh(Adu:Aln)(N:Nat):Aao Aj4:=fun R x K=>Adu N x.1.1 x.1.2.1 x.1.2.2.1 (fun y0=>K .ret (Aab A32 ((y0,()),(())))) (K .normal (Aab A33 ((()),(()))))
def Bmh(N:Nat):Aao Aj4:=Aqh @Adu N
def Aj5:Aac:=⟨[Bor,Aum,Boq],[]⟩
def A34:Aac:=⟨Bbt,[]⟩
def A35:Aac:=⟨[],[]⟩
def Bmi:Ack:=.cons .ret A34 (.cons .normal A35 (.nil))
abbrev B5a(R:Type):=Int->Int->Bool->(Int->Option R)->(Option R)->Option R
abbrev Alo:={R:Type}→Nat→B5a R
def A9d(Adu:Aln):Alo:=fun {R} N c a e b d=>if (e=true) then (b 1) else if ((a==4)=true) then (Adu N c a (a==4) (fun f=>b f) d) else Adu N c a (a==5) (fun g=>b g) d
def Adv:Alo:=@A9d @Adu
def Aqi(Adv:Alo)(N:Nat):Aao Aj5:=fun R x K=>Adv N x.1.1 x.1.2.1 x.1.2.2.1 (fun y0=>K .ret (Aab A34 ((y0,()),(())))) (K .normal (Aab A35 ((()),(()))))
def Bmj(N:Nat):Aao Aj5:=Aqi @Adv N
def Bk2:Aac:=⟨Aun,[]⟩
def A2s:Aac:=⟨Aun,[]⟩
abbrev Cfy(R:Type):=Int->(Int->Option R)->Option R
abbrev Am2:={R:Type}→Nat→Cfy R
def Bk3(Adv:Alo):Am2:=fun {R} N a b=>if ((a==1)=true) then (b 0) else if ((a==2)=true) then (Adv N a a (a==2) (fun c=>b c) (b (-1))) else Adv N a a (a==3) (fun d=>b d) (b (-1))
def Ae3:Am2:=@Bk3 @Adv
def Csz(N:Nat):Ab0 Bk2 [A2s]:=fun R x C=>Ae3 N x.1.1 (fun y0=>C.1 ((y0,()),(())))
def Atf(Ae3:Am2)(N:Nat):Go.AX.Aak:=Ac1 [true] [] false 1 0 Bk2 [A2s] (fun R x C=>Ae3 N x.1.1 (fun y0=>C.1 ((y0,()),(()))))
def Bwb(N:Nat):Go.AX.Aak:=Atf @Ae3 N
def Cs0(N:Nat):List (Nat×Ac4):=[(32,Aaa Aj2 (Bmd N)),(24,Aaa Aj3 (Bmf N)),(18,Aaa Aj4 (Bmh N)),(12,Aaa Aj5 (Bmj N))]
def Cfz(N:Nat):List (Nat×Go.AX.Aak):=[]
def Al8:Code:=Tryz.f66.body.getD .skip
def Alp:Aac:=⟨[Bfl,wq4,Bos,(34,.one (.val .bool))],A6c⟩
def A36:Aac:=⟨Ci1,[]⟩
def A37:Aac:=⟨[],[]⟩
def Bmk:Ack:=.cons .ret A36 (.cons .normal A37 (.nil))
abbrev B5b(R:Type):=Int->Int->Bool->(List UInt8)->d3->d1->d2->d4->(Bool->Option R)->(Option R)->Option R
abbrev Aod:={R:Type}→Nat→B5b R
def Aef:Aod:=fun {R} N a c d h e i f j b g=>if (d=true) then (if ((decide (a≥0))=true) then (b (decide (a<(len e)))) else b false) else if ((c==7)=true) then (if ((decide (a≥1))=true) then (b (decide (a≤(len f)))) else b false) else g
def Aus(Aef:Aod)(N:Nat):Aao Alp:=fun R x K=>Aef N x.1.1 x.1.2.2.1 x.1.2.2.2.1 x.2.1.1 x.2.1.2.1 x.2.1.2.2.1 x.2.1.2.2.2.1 x.2.1.2.2.2.2.1 (fun y0=>K .ret (Aab A36 ((y0,()),(())))) (K .normal (Aab A37 ((()),(()))))
def Bml(N:Nat):Aao Alp:=Aus @Aef N
def Alq:Aac:=⟨[Bfl,wq4,Bos,(25,.one (.val .bool))],A6c⟩
def A38:Aac:=⟨Ci1,[]⟩
def A39:Aac:=⟨[],[]⟩
def Bmm:Ack:=.cons .ret A38 (.cons .normal A39 (.nil))
abbrev B5c(R:Type):=Int->Int->Bool->(List UInt8)->d3->d1->d2->d4->(Bool->Option R)->(Option R)->Option R
abbrev Amv:={R:Type}→Nat→B5c R
def A9e(Aef:Aod):Amv:=fun {R} N b a j d e f g h c i=>if (j=true) then (if ((decide (b≥0))=true) then (c (decide (b<200))) else c false) else if ((a==3)=true) then (Aef N b a (a==3) d e f g h (fun l=>c l) i) else Aef N b a (a==6) d e f g h (fun m=>c m) i
def Aep:Amv:=@A9e @Aef
def Aut(Aep:Amv)(N:Nat):Aao Alq:=fun R x K=>Aep N x.1.1 x.1.2.2.1 x.1.2.2.2.1 x.2.1.1 x.2.1.2.1 x.2.1.2.2.1 x.2.1.2.2.2.1 x.2.1.2.2.2.2.1 (fun y0=>K .ret (Aab A38 ((y0,()),(())))) (K .normal (Aab A39 ((()),(()))))
def Bmn(N:Nat):Aao Alq:=Aut @Aep N
def Alr:Aac:=⟨[Bfl,wq4,Bos,(16,.one (.val .bool))],A6c⟩
def A4a:Aac:=⟨Ci1,[]⟩
def A4b:Aac:=⟨[],[]⟩
def Bmo:Ack:=.cons .ret A4a (.cons .normal A4b (.nil))
abbrev B5d(R:Type):=Int->Int->Bool->(List UInt8)->d3->d1->d2->d4->(Bool->Option R)->(Option R)->Option R
abbrev Amw:={R:Type}→Nat→B5d R
def A9f(Aep:Amv):Amw:=fun {R} N b a j d e f g h c i=>if (j=true) then (if ((decide (b≥0))=true) then (c (decide (b≤4000))) else c false) else if ((a==2)=true) then (Aep N b a (a==2) d e f g h (fun l=>c l) i) else Aep N b a (a==5) d e f g h (fun m=>c m) i
def Aeq:Amw:=@A9f @Aep
def Auu(Aeq:Amw)(N:Nat):Aao Alr:=fun R x K=>Aeq N x.1.1 x.1.2.2.1 x.1.2.2.2.1 x.2.1.1 x.2.1.2.1 x.2.1.2.2.1 x.2.1.2.2.2.1 x.2.1.2.2.2.2.1 (fun y0=>K .ret (Aab A4a ((y0,()),(())))) (K .normal (Aab A4b ((()),(()))))
def Bmp(N:Nat):Aao Alr:=Auu @Aeq N
def Bk4:Aac:=⟨[B4w,Am9,Bfl],[]⟩
def A2t:Aac:=⟨Akf,[]⟩
abbrev Cf0(R:Type):=(List UInt8)->d3->d1->d2->d4->Int->Int->(Bool->Option R)->Option R
abbrev Am3:={R:Type}→Nat→Cf0 R
def Bk5(Aeq:Amw):Am3:=fun {R} N d e f g h a c b=>if ((a==0)=true) then (if ((decide (c≥(-2147483648)))=true) then (b (decide (c≤2147483647))) else b false) else if ((a==1)=true) then (Aeq N c a (a==1) d e f g h (fun i=>b i) (b false)) else Aeq N c a (a==4) d e f g h (fun j=>b j) (b false)
def Aes:Am3:=@Bk5 @Aeq
def Cs1(N:Nat):Ab0 Bk4 [A2t]:=fun R x C=>Aes N x.1.1.1 x.1.1.2.1 x.1.1.2.2.1 x.1.1.2.2.2.1 x.1.1.2.2.2.2.1 x.1.2.1 x.1.2.2.1 (fun y0=>C.1 ((y0,()),(())))
def Atg(Aes:Am3)(N:Nat):Go.AX.Aak:=Ac1 [true,true,true] [] false 3 0 Bk4 [A2t] (fun R x C=>Aes N x.1.1.1 x.1.1.2.1 x.1.1.2.2.1 x.1.1.2.2.2.1 x.1.1.2.2.2.2.1 x.1.2.1 x.1.2.2.1 (fun y0=>C.1 ((y0,()),(()))))
def Bwc(N:Nat):Go.AX.Aak:=Atg @Aes N
def Cs2(N:Nat):List (Nat×Ac4):=[(24,Aaa Alp (Bml N)),(18,Aaa Alq (Bmn N)),(12,Aaa Alr (Bmp N))]
def Cf1(N:Nat):List (Nat×Go.AX.Aak):=[]
def Bpt:Code:=Tryz.f63.body.getD .skip
def Bcn:Aac:=⟨Cnr,Bkw⟩
def Ax4:Aac:=⟨Akf,Bkw⟩
abbrev B9s(R:Type):=Int->(List UInt8)->d3->d1->d2->d4->(Bool->(List UInt8)->d3->d1->d2->d4->Option R)->Option R
abbrev Alf:={R:Type}→Nat→B9s R
def Ace:Alf:=fun {R} N b c d e f a g=>if ((decide (b≥0))=true) then (if ((decide (b<(len a)))=true) then (if (0≤b∧b<len a) then (g ((a.getD b.toNat (0,(0,(0,(0,0))))).1 != 23) c d e f a) else none) else g false c d e f a) else g false c d e f a
def B9t(N:Nat):Ab0 Bcn [Ax4]:=fun R x C=>Ace N x.1.1 x.2.1.1 x.2.1.2.1 x.2.1.2.2.1 x.2.1.2.2.2.1 x.2.1.2.2.2.2.1 (fun y0 y1 y2 y3 y4 y5=>C.1 ((y0,()),((y1,y2,y3,y4,y5,()),())))
def Apq(Ace:Alf)(N:Nat):Go.AX.Aak:=Ac1 [true] [] false 2 1 Bcn [Ax4] (fun R x C=>Ace N x.1.1 x.2.1.1 x.2.1.2.1 x.2.1.2.2.1 x.2.1.2.2.2.1 x.2.1.2.2.2.2.1 (fun y0 y1 y2 y3 y4 y5=>C.1 ((y0,()),((y1,y2,y3,y4,y5,()),()))))
def Bpu(N:Nat):Go.AX.Aak:=Apq @Ace N
def B9u(N:Nat):List (Nat×Ac4):=[]
def Bpv(N:Nat):List (Nat×Go.AX.Aak):=[]
def Aiz:Aac:=⟨[wq4,Ci4,Boq,Bop,Bw6,Ci5,(99,.one (.val .bool))],Cb6⟩
def A4c:Aac:=⟨Arj,[]⟩
def A4d:Aac:=⟨B1l,Axj⟩
def Bmq:Ack:=.cons .ret A4c (.cons .normal A4d (.nil))
abbrev B5e(R:Type):=Bool->Bool->Bool->Int->Bool->Int->Int->Int->Int->Int->(List UInt8)->d3->d1->d2->d4->(Bool->Option R)->(Bool->Bool->Bool->Int->Int->Int->Int->Int->Option R)->Option R
abbrev Aj6:={R:Type}→Nat→B5e R
def A9g(Ace:Alf):Aj6:=fun {R} N d m n e o p l b c q f g h i j a r=>if (o=true) then (if (d=true) then (if ((c==0)=true) then (Ace N b f g h i j fun s v w x y z=>a s) else a false) else a false) else if ((e==20)=true) then (if (d=true) then (if ((c==0)=true) then (if ((decide (b≥0))=true) then (a (decide (b≤4000))) else a false) else a false) else a false) else if ((e==21)=true) then (if (d=true) then (if ((b==0)=true) then (a (c==0)) else a false) else a false) else if ((e==22)=true) then (if (d=true) then (if ((decide (b≥0))=true) then (if ((decide (b≤1000))=true) then (Ace N c f g h i j fun t A B C D E=>a t) else a false) else a false) else a false) else if ((e==23)=true) then (if ((l==0)=true) then (if ((decide (b≥(-2147483648)))=true) then (if ((decide (b≤2147483647))=true) then (Ace N c f g h i j fun u F G H I J=>a u) else a false) else a false) else a false) else r d m n p l b c q
def Ac7:Aj6:=@A9g @Ace
def Aoe(Ac7:Aj6)(N:Nat):Aao Aiz:=fun R x K=>Ac7 N x.1.2.2.1 x.1.2.2.2.1 x.1.2.2.2.2.1 x.1.2.2.2.2.2.1 x.1.2.2.2.2.2.2.1 x.2.1.1 x.2.1.2.1 x.2.1.2.2.1 x.2.1.2.2.2.1 x.2.1.2.2.2.2.1 x.2.2.1.1 x.2.2.1.2.1 x.2.2.1.2.2.1 x.2.2.1.2.2.2.1 x.2.2.1.2.2.2.2.1 (fun y0=>K .ret (Aab A4c ((y0,()),(())))) (fun y0 y1 y2 y3 y4 y5 y6 y7=>K .normal (Aab A4d (((),y0,y1,y2,()),((y3,y4,y5,y6,y7,()),()))))
def Bmr(N:Nat):Aao Aiz:=Aoe @Ac7 N
def Ai0:Aac:=⟨[wq4,Ci4,Boq,Bop,Bw6,Ci5,(73,.one (.val .bool))],Cb6⟩
def A4e:Aac:=⟨Arj,[]⟩
def A4f:Aac:=⟨B1l,Axj⟩
def Bms:Ack:=.cons .ret A4e (.cons .normal A4f (.nil))
abbrev B5f(R:Type):=Bool->Bool->Bool->Int->Bool->Int->Int->Int->Int->Int->(List UInt8)->d3->d1->d2->d4->(Bool->Option R)->(Bool->Bool->Bool->Int->Int->Int->Int->Int->Option R)->Option R
abbrev Aj7:={R:Type}→Nat→B5f R
def A9h(Ace:Alf)(Ac7:Aj6):Aj7:=fun {R} N c d e b r o f g h p i j l m n a q=>if (r=true) then (if (c=true) then (if (d=true) then (a e) else a false) else a false) else if ((b==17)=true) then (if ((f==0)=true) then (if ((h==0)=true) then (Ace N g i j l m n fun s M O P Q S=>a s) else a false) else a false) else if ((b==18)=true) then (Ac7 N c d e b (b==18) o f g h p i j l m n (fun t=>a t) fun u v w x y z A B=>q u v w x y z A B) else Ac7 N c d e b (b==19) o f g h p i j l m n (fun C=>a C) fun D E F G H I J L=>q D E F G H I J L
def Ac8:Aj7:=@A9h @Ace @Ac7
def Aof(Ac8:Aj7)(N:Nat):Aao Ai0:=fun R x K=>Ac8 N x.1.2.2.1 x.1.2.2.2.1 x.1.2.2.2.2.1 x.1.2.2.2.2.2.1 x.1.2.2.2.2.2.2.1 x.2.1.1 x.2.1.2.1 x.2.1.2.2.1 x.2.1.2.2.2.1 x.2.1.2.2.2.2.1 x.2.2.1.1 x.2.2.1.2.1 x.2.2.1.2.2.1 x.2.2.1.2.2.2.1 x.2.2.1.2.2.2.2.1 (fun y0=>K .ret (Aab A4e ((y0,()),(())))) (fun y0 y1 y2 y3 y4 y5 y6 y7=>K .normal (Aab A4f (((),y0,y1,y2,()),((y3,y4,y5,y6,y7,()),()))))
def Bmt(N:Nat):Aao Ai0:=Aof @Ac8 N
def Ai1:Aac:=⟨[wq4,Ci4,Boq,Bop,Bw6,Ci5,(56,.one (.val .bool))],Cb6⟩
def A4g:Aac:=⟨Arj,[]⟩
def A4h:Aac:=⟨B1l,Axj⟩
def Bmu:Ack:=.cons .ret A4g (.cons .normal A4h (.nil))
abbrev B5g(R:Type):=Bool->Bool->Bool->Int->Bool->Int->Int->Int->Int->Int->(List UInt8)->d3->d1->d2->d4->(Bool->Option R)->(Bool->Bool->Bool->Int->Int->Int->Int->Int->Option R)->Option R
abbrev Aj8:={R:Type}→Nat→B5g R
def A9i(Ac8:Aj7):Aj8:=fun {R} N d e f b r g h i c j l m n o p a q=>if (r=true) then (if (d=true) then (if (e=true) then (if ((decide (c≥(-4000)))=true) then (a (decide (c≤4000))) else a false) else a false) else a false) else if ((b==15)=true) then (Ac8 N d e f b (b==15) g h i c j l m n o p (fun s=>a s) fun t u v w x y z A=>q t u v w x y z A) else Ac8 N d e f b (b==16) g h i c j l m n o p (fun B=>a B) fun C D E F G H I J=>q C D E F G H I J
def Ac9:Aj8:=@A9i @Ac8
def Aog(Ac9:Aj8)(N:Nat):Aao Ai1:=fun R x K=>Ac9 N x.1.2.2.1 x.1.2.2.2.1 x.1.2.2.2.2.1 x.1.2.2.2.2.2.1 x.1.2.2.2.2.2.2.1 x.2.1.1 x.2.1.2.1 x.2.1.2.2.1 x.2.1.2.2.2.1 x.2.1.2.2.2.2.1 x.2.2.1.1 x.2.2.1.2.1 x.2.2.1.2.2.1 x.2.2.1.2.2.2.1 x.2.2.1.2.2.2.2.1 (fun y0=>K .ret (Aab A4g ((y0,()),(())))) (fun y0 y1 y2 y3 y4 y5 y6 y7=>K .normal (Aab A4h (((),y0,y1,y2,()),((y3,y4,y5,y6,y7,()),()))))
def Bmv(N:Nat):Aao Ai1:=Aog @Ac9 N
def Ai2:Aac:=⟨[wq4,Ci4,Boq,Bop,Bw6,Ci5,Cnl],Cb6⟩
def A4i:Aac:=⟨Arj,[]⟩
def A4j:Aac:=⟨B1l,Axj⟩
def Bmw:Ack:=.cons .ret A4i (.cons .normal A4j (.nil))
abbrev B5h(R:Type):=Bool->Bool->Bool->Int->Bool->Int->Int->Int->Int->Int->(List UInt8)->d3->d1->d2->d4->(Bool->Option R)->(Bool->Bool->Bool->Int->Int->Int->Int->Int->Option R)->Option R
abbrev Aj9:={R:Type}→Nat→B5h R
def A9j(Ac9:Aj8):Aj9:=fun {R} N c d f a r g h i e j l m n o p b q=>if (r=true) then (if (c=true) then (if (d=true) then (b (e==0)) else b false) else b false) else if ((a==13)=true) then (Ac9 N c d f a (a==13) g h i e j l m n o p (fun s=>b s) fun t u v w x y z A=>q t u v w x y z A) else Ac9 N c d f a (a==14) g h i e j l m n o p (fun B=>b B) fun C D E F G H I J=>q C D E F G H I J
def Acz:Aj9:=@A9j @Ac9
def Aoh(Acz:Aj9)(N:Nat):Aao Ai2:=fun R x K=>Acz N x.1.2.2.1 x.1.2.2.2.1 x.1.2.2.2.2.1 x.1.2.2.2.2.2.1 x.1.2.2.2.2.2.2.1 x.2.1.1 x.2.1.2.1 x.2.1.2.2.1 x.2.1.2.2.2.1 x.2.1.2.2.2.2.1 x.2.2.1.1 x.2.2.1.2.1 x.2.2.1.2.2.1 x.2.2.1.2.2.2.1 x.2.2.1.2.2.2.2.1 (fun y0=>K .ret (Aab A4i ((y0,()),(())))) (fun y0 y1 y2 y3 y4 y5 y6 y7=>K .normal (Aab A4j (((),y0,y1,y2,()),((y3,y4,y5,y6,y7,()),()))))
def Bmx(N:Nat):Aao Ai2:=Aoh @Acz N
def Ai3:Aac:=⟨B1l,Axj⟩
def A4k:Aac:=⟨Arj,[]⟩
def Bmy:Ack:=.cons .ret A4k (.nil)
abbrev B5i(R:Type):=Bool->Bool->Bool->Int->Int->Int->Int->Int->(Bool->Option R)->Option R
abbrev Als:={R:Type}→Nat→B5i R
def Aco:Als:=fun {R} N c d e b f g h i a=>if ((decide (b≥41))=true) then (if ((decide (b≤57))=true) then (if (c=true) then (if (d=true) then (a e) else a false) else a false) else a false) else a false
def Aoi(Aco:Als)(N:Nat):Aao Ai3:=fun R x K=>Aco N x.1.2.1 x.1.2.2.1 x.1.2.2.2.1 x.2.1.1 x.2.1.2.1 x.2.1.2.2.1 x.2.1.2.2.2.1 x.2.1.2.2.2.2.1 (fun y0=>K .ret (Aab A4k ((y0,()),(()))))
def Bmz(N:Nat):Aao Ai3:=Aoi @Aco N
def Bk6:Aac:=⟨[B4w,(1,.agg Bt4)],[]⟩
def A2u:Aac:=⟨Akf,[]⟩
abbrev Cf2(R:Type):=(List UInt8)->d3->d1->d2->d4->Int->Int->Int->Int->Int->(Bool->Option R)->Option R
abbrev Aw6:={R:Type}→Nat→Cf2 R
def Bk7(Ab2:Akl)(Ae3:Am2)(Aes:Am3)(Acz:Aj9)(Aco:Als):Aw6:=fun {R} N e f g h i a j c d l b=>Ab2 N j fun m=>Ab2 N c fun n=>Ab2 N d fun o=>if ((l != 0)=true) then (b false) else Ae3 N a fun p=>if ((decide (p≥0))=true) then (if (m=true) then (if ((d==0)=true) then (Aes N e f g h i p c fun q=>b q) else b false) else b false) else if ((a==12)=true) then (Acz N m n o a (a==12) a j c d l e f g h i (fun r=>b r) fun s t u v w x y z=>Aco N s t u v w x y z fun A=>b A) else if ((a==58)=true) then (Acz N m n o a (a==58) a j c d l e f g h i (fun B=>b B) fun C D E F G H I J=>Aco N C D E F G H I J fun L=>b L) else Acz N m n o a (a==59) a j c d l e f g h i (fun M=>b M) fun O P Q S T U V W=>Aco N O P Q S T U V W fun X=>b X
def Akb:Aw6:=@Bk7 @Ab2 @Ae3 @Aes @Acz @Aco
def Cs3(N:Nat):Ab0 Bk6 [A2u]:=fun R x C=>Akb N x.1.1.1 x.1.1.2.1 x.1.1.2.2.1 x.1.1.2.2.2.1 x.1.1.2.2.2.2.1 x.1.2.1.1 x.1.2.1.2.1 x.1.2.1.2.2.1 x.1.2.1.2.2.2.1 x.1.2.1.2.2.2.2.1 (fun y0=>C.1 ((y0,()),(())))
def Bk8(Akb:Aw6)(N:Nat):Go.AX.Aak:=Ac1 [true,true] [] false 2 0 Bk6 [A2u] (fun R x C=>Akb N x.1.1.1 x.1.1.2.1 x.1.1.2.2.1 x.1.1.2.2.2.1 x.1.1.2.2.2.2.1 x.1.2.1.1 x.1.2.1.2.1 x.1.2.1.2.2.1 x.1.2.1.2.2.2.1 x.1.2.1.2.2.2.2.1 (fun y0=>C.1 ((y0,()),(()))))
def Bwd(N:Nat):Go.AX.Aak:=Bk8 @Akb N
def Cs4(N:Nat):List (Nat×Ac4):=[(46,Aaa Aiz (Bmr N)),(36,Aaa Ai0 (Bmt N)),(30,Aaa Ai1 (Bmv N)),(24,Aaa Ai2 (Bmx N)),(64,Aaa Ai3 (Bmz N))]
def Cf3(N:Nat):List (Nat×Go.AX.Aak):=[(64,Bjp N),(65,Bwb N),(66,Bwc N),(63,Bpu N)]
def Akm:Aac:=⟨[wq3,Cd3,(16,.one (.val z6)),(17,.one wq0),(18,.one wq0)],A6c⟩
def At0:Aac:=⟨Bbt,[]⟩
def At1:Aac:=⟨[wq3,Cd3],A6c⟩
def Bjr:Ack:=.cons .ret At0 (.cons (.exit 0) At1 (.nil))
abbrev A7e(R:Type):=Bool->d4->Int->Int->(List UInt8)->d3->d1->d2->d4->(Int->Option R)->(Bool->(List UInt8)->d3->d1->d2->d4->Option R)->Option R
abbrev Bjs(R:Type):=Bool->d4->Int->Int->(List UInt8)->d3->d1->d2->d4->Option R
abbrev Ax5:={R:Type}→Nat→Nat→A7e R
def Ax6(Akb:Aw6){R:Type}(N:Nat)(rc:Bjs R):A7e R:=fun h b i a c d e f g j l=>if ((decide (a<i))=true) then (if (0≤a∧a<len b) then (Akb N c d e f g ((b.getD a.toNat (0,(0,(0,(0,0))))).1) ((b.getD a.toNat (0,(0,(0,(0,0))))).2.1) ((b.getD a.toNat (0,(0,(0,(0,0))))).2.2.1) ((b.getD a.toNat (0,(0,(0,(0,0))))).2.2.2.1) ((b.getD a.toNat (0,(0,(0,(0,0))))).2.2.2.2) fun m=>if ((!m)=true) then (j 60) else rc h b i (wi (a+1)) c d e f g) else none) else l h c d e f g
def Ae6{R:Type}(N:Nat):Nat→A7e R
 |0=>fun _ _ _ _ _ _ _ _ _ _ _=>none
 |k+1=>fun a b c d e f g h i j l=>Ax6 @Akb N (fun a b c d e f g h i=>Ae6 N k a b c d e f g h i j l) a b c d e f g h i j l
def A7f(Ae6:Ax5)(N k:Nat):Aao Akm:=fun R x K=>Ae6 N k x.1.2.1 x.1.2.2.1 x.1.2.2.2.1 x.1.2.2.2.2.1 x.2.1.1 x.2.1.2.1 x.2.1.2.2.1 x.2.1.2.2.2.1 x.2.1.2.2.2.2.1 (fun y0=>K .ret (Aab At0 ((y0,()),(())))) (fun y0 y1 y2 y3 y4 y5=>K (.exit 0) (Aab At1 (((),y0,()),((y1,y2,y3,y4,y5,()),()))))
def A7g(N k:Nat):Aao Akm:=A7f @Ae6 N k
def Ahk:Code:=Tryz.f32.body.getD .skip
def Bm0:Code:=Tryz.f33.body.getD .skip
def A9k:Aac:=⟨[(0,.agg Bt4)],[]⟩
def Avn:Aac:=⟨Aun,[]⟩
abbrev B5j(R:Type):=Int->Int->Int->Int->Int->(Int->Option R)->Option R
abbrev Aqj:={R:Type}→Nat→B5j R
def Af1:Aqj:=fun {R} N c d a e f b=>b a
def B5k(N:Nat):Ab0 A9k [Avn]:=fun R x C=>Af1 N x.1.1.1 x.1.1.2.1 x.1.1.2.2.1 x.1.1.2.2.2.1 x.1.1.2.2.2.2.1 (fun y0=>C.1 ((y0,()),(())))
def A1c(Af1:Aqj)(N:Nat):Go.AX.Aak:=Ac1 [true] [] false 1 0 A9k [Avn] (fun R x C=>Af1 N x.1.1.1 x.1.1.2.1 x.1.1.2.2.1 x.1.1.2.2.2.1 x.1.1.2.2.2.2.1 (fun y0=>C.1 ((y0,()),(()))))
def Bm1(N:Nat):Go.AX.Aak:=A1c @Af1 N
def B5l(N:Nat):List (Nat×Ac4):=[]
def Bm2(N:Nat):List (Nat×Go.AX.Aak):=[]
def Ahc:Aac:=⟨[wq9,Am9,Bfl,wq2,Bfm,Cd5,(32,.one wq0),(33,.one wq0)],[]⟩
def Ap4:Aac:=⟨Ci3,[]⟩
def Ap5:Aac:=⟨[wq9,Am9,Bfl,wq2,Bfm,Cd5],[]⟩
def Baw:Ack:=.cons .ret Ap4 (.cons (.exit 3) Ap5 (.nil))
abbrev Azj(R:Type):=d4->Int->Int->Int->Int->Int->Int->(Bool->Option R)->(d4->Int->Int->Int->Int->Option R)->Option R
abbrev Bax(R:Type):=d4->Int->Int->Int->Int->Int->Int->Option R
abbrev Ao5:={R:Type}→Nat→Nat→Azj R
def Asn{R:Type}(N:Nat)(rc:Bax R):Azj R:=fun a f c d g h e i j=>if ((decide (e<h))=true) then (let b:=(wi ((wi (d+1))+e));if ((decide (b≥(len a)))=true) then (i false) else if (0≤b∧b<len a) then (if (((a.getD b.toNat (0,(0,(0,(0,0))))).1 != c)=true) then (i false) else rc a f c d g h (wi (e+1))) else none) else j a f c d g
def Acr{R:Type}(N:Nat):Nat→Azj R
 |0=>fun _ _ _ _ _ _ _ _ _=>none
 |k+1=>fun a b c d e f g h i=>Asn N (fun a b c d e f g=>Acr N k a b c d e f g h i) a b c d e f g h i
def Aso(Acr:Ao5)(N k:Nat):Aao Ahc:=fun R x K=>Acr N k x.1.1 x.1.2.1 x.1.2.2.1 x.1.2.2.2.2.1 x.1.2.2.2.2.2.1 x.1.2.2.2.2.2.2.1 x.1.2.2.2.2.2.2.2.1 (fun y0=>K .ret (Aab Ap4 ((y0,()),(())))) (fun y0 y1 y2 y3 y4=>K (.exit 3) (Aab Ap5 ((y0,y1,y2,(),y3,y4,()),(()))))
def Azk(N k:Nat):Aao Ahc:=Aso @Acr N k
def Ahz:Aac:=⟨[wq9,Am9,Bfl,wq2,Bfm],[]⟩
def Arc:Aac:=⟨Ci3,[]⟩
def Ard:Aac:=⟨[],[]⟩
def Bd0:Ack:=.cons .ret Arc (.cons (.exit 0) Ard (.nil))
abbrev A1t(R:Type):=d4->Int->Int->Int->(Bool->Option R)->(Option R)->Option R
abbrev Bd1(R:Type):=d4->Int->Int->Int->Option R
abbrev Apx:={R:Type}→Nat→Nat→A1t R
def A1u(Af1:Aqj)(Acr:Ao5){R:Type}(N:Nat)(rc:Bd1 R):A1t R:=fun b e f a g m=>if ((decide (a<(len b)))=true) then (if (0≤a∧a<len b) then (let h:=(b.getD a.toNat (0,(0,(0,(0,0))))).1;if ((h==e)=true) then (if (0≤a∧a<len b) then (Af1 N h ((b.getD a.toNat (0,(0,(0,(0,0))))).2.1) ((b.getD a.toNat (0,(0,(0,(0,0))))).2.2.1) ((b.getD a.toNat (0,(0,(0,(0,0))))).2.2.2.1) ((b.getD a.toNat (0,(0,(0,(0,0))))).2.2.2.2) fun j=>Acr N N b e f a j j 0 (fun n=>g n) fun d l i o p=>let c:=(wi ((wi (o+p))+1));if ((decide (c<(len d)))=true) then (if (0≤c∧c<len d) then (if (((d.getD c.toNat (0,(0,(0,(0,0))))).1==i)=true) then (g false) else rc d l i c) else none) else rc d l i c) else none) else if ((h==f)=true) then (g false) else rc b e f (wi (a+1))) else none) else m
def Ac2{R:Type}(N:Nat):Nat→A1t R
 |0=>fun _ _ _ _ _ _=>none
 |k+1=>fun a b c d e f=>A1u @Af1 @Acr N (fun a b c d=>Ac2 N k a b c d e f) a b c d e f
def At2(Ac2:Apx)(N k:Nat):Aao Ahz:=fun R x K=>Ac2 N k x.1.1 x.1.2.1 x.1.2.2.1 x.1.2.2.2.2.1 (fun y0=>K .ret (Aab Arc ((y0,()),(())))) (K (.exit 0) (Aab Ard ((()),(()))))
def A1v(N k:Nat):Aao Ahz:=At2 @Ac2 N k
def A7h:Aac:=⟨[wq9,Am9,Bfl,wq2],[]⟩
def At3:Aac:=⟨Akf,[]⟩
abbrev B1z(R:Type):=d4->Int->Int->(Bool->Option R)->Option R
abbrev Apa:={R:Type}→Nat→B1z R
def A7i(Ac2:Apx):Apa:=fun {R} N b c d a=>Ac2 N N b c d 0 (fun e=>a e) (a true)
def Afn:Apa:=@A7i @Ac2
def Cop(N:Nat):Ab0 A7h [At3]:=fun R x C=>Afn N x.1.1 x.1.2.1 x.1.2.2.1 (fun y0=>C.1 ((y0,()),(())))
def A7j(Afn:Apa)(N:Nat):Go.AX.Aak:=Ac1 [true,true,true,true] [] false 4 0 A7h [At3] (fun R x C=>Afn N x.1.1 x.1.2.1 x.1.2.2.1 (fun y0=>C.1 ((y0,()),(()))))
def Bjt(N:Nat):Go.AX.Aak:=A7j @Afn N
def Coq(N:Nat):List (Nat×Ac4):=[(17,Aaa Ahc (Azk N N)),(5,Aaa Ahz (A1v N N))]
def B10(N:Nat):List (Nat×Go.AX.Aak):=[(33,Bm1 N)]
def Bgl:Aac:=⟨B4x,[]⟩
def A1d:Aac:=⟨Aun,[]⟩
abbrev Ceg(R:Type):=(List UInt8)->d3->d1->d2->d4->(Int->Option R)->Option R
abbrev Aqw:={R:Type}→Nat→Ceg R
def Bgm(Aiq:Aur)(Ae6:Ax5)(Afn:Apa):Aqw:=fun {R} N c d e f g a=>Aiq N c d e f g c d e f g fun h i j l m n b=>if (h=true) then (a 2) else Ae6 N N i b (len b) 0 j l m n b (fun o=>a o) fun p s t u v q=>if ((!p)=true) then (a 60) else Afn N q 22 23 fun r=>if ((!r)=true) then (a 60) else a 0
def Agi:Aqw:=@Bgm @Aiq @Ae6 @Afn
def Csf(N:Nat):Ab0 Bgl [A1d]:=fun R x C=>Agi N x.1.1.1 x.1.1.2.1 x.1.1.2.2.1 x.1.1.2.2.2.1 x.1.1.2.2.2.2.1 (fun y0=>C.1 ((y0,()),(())))
def Bgn(Agi:Aqw)(N:Nat):Go.AX.Aak:=Ac1 [true] [] false 1 0 Bgl [A1d] (fun R x C=>Agi N x.1.1.1 x.1.1.2.1 x.1.1.2.2.1 x.1.1.2.2.2.1 x.1.1.2.2.2.2.1 (fun y0=>C.1 ((y0,()),(()))))
def Bgo(N:Nat):Go.AX.Aak:=Bgn @Agi N
def Csg(N:Nat):List (Nat×Ac4):=[(11,Aaa Akm (A7g N N))]
def Ceh(N:Nat):List (Nat×Go.AX.Aak):=[(27,Bsb N),(31,Bwd N),(32,Bjt N)]
def Ahd:Code:=Tryz.f23.body.getD .skip
def Aqk(N:Nat):Go.AX.Aak:=Boa
def Aku:Code:=Tryz.f54.body.getD .skip
def Aet:Aac:=⟨[wq1,(1,.one (.val .str))],[(0,.cells 80 [(.same .nilptr),(.slf 1)]),Cnh]⟩
def Ajx:Aac:=⟨[Bor,(1,.one (.same .nilif))],B4v⟩
abbrev A8k(R:Type):=(List UInt8)->d0->(Int->d0->Option R)->Option R
abbrev Aft:={R:Type}→Nat→A8k R
def Aay:Aft:=fun {R} N a c d=>if ((((List.length c)+(List.length (List.map (fun b:UInt8=>(((UInt8.toNat b):Nat):Int)) a)))*(1:Nat))≤(70368744177664:Nat)) then (d (len a) (c++(List.map (fun b:UInt8=>(((UInt8.toNat b):Nat):Int)) a))) else none
def A8l(N:Nat):Ab0 Aet [Ajx]:=fun R x C=>Aay N x.1.2.1 x.2.2.1 (fun y0 y1=>C.1 ((y0,(),()),(((),(),()),y1,())))
def Ain(Aay:Aft)(N:Nat):Go.AX.Aak:=Ac1 [false,true] (List.replicate 32 true) true 2 2 Aet [Ajx] (fun R x C=>Aay N x.1.2.1 x.2.2.1 (fun y0 y1=>C.1 ((y0,(),()),(((),(),()),y1,()))))
def Atk(N:Nat):Go.AX.Aak:=Ain @Aay N
def A8m(N:Nat):List (Nat×Ac4):=[]
def Atl(N:Nat):List (Nat×Go.AX.Aak):=[(100,Aja N)]
def Amg:Aac:=⟨[wq1,(1,.one (.val .str))],B4v⟩
def Air:Aac:=⟨[Bor,(1,.one (.same .nilif))],B4v⟩
abbrev A4l(R:Type):=(List UInt8)->d0->(Int->d0->Option R)->Option R
abbrev Ad2:={R:Type}→Nat→A4l R
def Aas:Ad2:=fun {R} N a c d=>if ((((List.length c)+(List.length (List.map (fun b:UInt8=>(((UInt8.toNat b):Nat):Int)) a)))*(1:Nat))≤(70368744177664:Nat)) then (d (len a) (c++(List.map (fun b:UInt8=>(((UInt8.toNat b):Nat):Int)) a))) else none
def A4m(N:Nat):Ab0 Amg [Air]:=fun R x C=>Aas N x.1.2.1 x.2.2.1 (fun y0 y1=>C.1 ((y0,(),()),(((),(),()),y1,())))
def Ahq(Aas:Ad2)(N:Nat):Go.AX.Aak:=Ac1 [false,true] (List.replicate 32 true) true 2 2 Amg [Air] (fun R x C=>Aas N x.1.2.1 x.2.2.1 (fun y0 y1=>C.1 ((y0,(),()),(((),(),()),y1,()))))
def Aqx(N:Nat):Go.AX.Aak:=Ahq @Aas N
def A4n(N:Nat):List (Nat×Ac4):=[]
def Aqy(N:Nat):List (Nat×Go.AX.Aak):=[(100,Aja N)]
def Ai4:Aac:=⟨[Am9,wq8,Crz,B4t,Cnm,(33,.one Bw7),(34,.one wq0),(35,.one wq0)],Bw8⟩
def Avo:Aac:=⟨Cjl,Bw8⟩
def Bm3:Ack:=.cons (.exit 2) Avo (.nil)
abbrev A9l(R:Type):=Int->d4->Int->Int->d0->Int->Int->d0->(Int->d4->Int->Int->d0->Option R)->Option R
abbrev Bm4(R:Type):=Int->d4->Int->Int->d0->Int->Int->d0->Option R
abbrev Aoj:={R:Type}→Nat→Nat→A9l R
def A1e(Aas:Ad2){R:Type}(N:Nat)(rc:Bm4 R):A9l R:=fun d e f g b h a i j=>if ((decide (a<h))=true) then (if (0≤a∧a<len b) then (let c:=(b.getD a.toNat 0);if ((Amb c)=true) then (if (((1:Nat)+(List.length (Adl c)))≤(70368744177664:Nat)) then (Aas N ((32:UInt8)::(List.append ([]:List UInt8) (Adl c))) i fun m l=>rc d e f g b h (wi (a+1)) l) else none) else none) else none) else j d e f g i
def Ac0{R:Type}(N:Nat):Nat→A9l R
 |0=>fun _ _ _ _ _ _ _ _ _=>none
 |k+1=>fun a b c d e f g h i=>A1e @Aas N (fun a b c d e f g h=>Ac0 N k a b c d e f g h i) a b c d e f g h i
def Auv(Ac0:Aoj)(N k:Nat):Aao Ai4:=fun R x K=>Ac0 N k x.1.1 x.1.2.2.1 x.1.2.2.2.1 x.1.2.2.2.2.1 x.1.2.2.2.2.2.1 x.1.2.2.2.2.2.2.1 x.1.2.2.2.2.2.2.2.1 x.2.2.1 (fun y0 y1 y2 y3 y4=>K (.exit 2) (Aab Avo ((y0,(),y1,y2,y3,()),(((),(),()),y4,()))))
def A9m(N k:Nat):Aao Ai4:=Auv @Ac0 N k
def Adq:Aac:=⟨Cjl,Bw8⟩
def Asp:Aac:=⟨Cng,Bw8⟩
def Bgp:Ack:=.cons (.exit 0) Asp (.nil)
abbrev A4o(R:Type):=Int->d4->Int->Int->d0->(d0->Option R)->Option R
abbrev Bgq(R:Type):=Int->d4->Int->Int->d0->Option R
abbrev Aok:={R:Type}→Nat→Nat→A4o R
def Avp(Aas:Ad2)(Ac0:Aoj)(Aad:Acb){R:Type}(N:Nat)(rc:Bgq R):A4o R:=fun d b e a f m=>if ((decide (a<e))=true) then (if (0≤a∧a<len b) then (let g:=(b.getD a.toNat (0,(0,(0,(0,0))))).1;let h:=(b.getD a.toNat (0,(0,(0,(0,0))))).2.1;let i:=(b.getD a.toNat (0,(0,(0,(0,0))))).2.2.1;let j:=(b.getD a.toNat (0,(0,(0,(0,0))))).2.2.2.1;let l:=(b.getD a.toNat (0,(0,(0,(0,0))))).2.2.2.2;if ((Amb a)=true) then (Aas N (Adl a) f fun u n=>let c:=(wi (d+1));if ((0≤c)∧(c≤(((List.length (g::(h::(i::(j::(l::([]:List Int))))))):Nat):Int))) then (if (((0 :Int)≤(0 :Int))∧(0≤c)) then (Ac0 N N d b e a (List.take ((Int.toNat c)-(0:Nat)) (g::(h::(i::(j::(l::([]:List Int))))))) ((((Int.toNat c)-(0:Nat)):Nat):Int) 0 n fun o p q r s=>Aad N 10 s fun t=>rc o p q (wi (r+1)) t) else none) else none) else none) else none) else m f
def Acm{R:Type}(N:Nat):Nat→A4o R
 |0=>fun _ _ _ _ _ _=>none
 |k+1=>fun a b c d e f=>Avp @Aas @Ac0 @Aad N (fun a b c d e=>Acm N k a b c d e f) a b c d e f
def Aol(Acm:Aok)(N k:Nat):Aao Adq:=fun R x K=>Acm N k x.1.1 x.1.2.2.1 x.1.2.2.2.1 x.1.2.2.2.2.1 x.2.2.1 (fun y0=>K (.exit 0) (Aab Asp (((),()),(((),(),()),y0,()))))
def Avq(N k:Nat):Aao Adq:=Aol @Acm N k
def Ajt:Aac:=⟨Cjl,[(32,.cells 80 [(.same .nilptr),(.same .nilsl)])]⟩
def Ax7:Aac:=⟨Cng,Bw8⟩
def Ax8:Aac:=⟨Cng,[(32,.cells 80 [(.same .nilptr),(.same .nilsl)])]⟩
def Bpw:Ack:=.cons (.exit 0) Ax7 (.cons (.exit 0) Ax8 (.nil))
abbrev Bco(R:Type):=Int->d4->Int->Int->(d0->Option R)->(Option R)->Option R
abbrev Bpx(R:Type):=Int->d4->Int->Int->Option R
abbrev Arn:={R:Type}→Nat→Nat→Bco R
def A2v(Aay:Aft)(Ac0:Aoj)(Aad:Acb)(Acm:Aok){R:Type}(N:Nat)(rc:Bpx R):Bco R:=fun d b e a l m=>if ((decide (a<e))=true) then (if (0≤a∧a<len b) then (let f:=(b.getD a.toNat (0,(0,(0,(0,0))))).1;let g:=(b.getD a.toNat (0,(0,(0,(0,0))))).2.1;let h:=(b.getD a.toNat (0,(0,(0,(0,0))))).2.2.1;let i:=(b.getD a.toNat (0,(0,(0,(0,0))))).2.2.2.1;let j:=(b.getD a.toNat (0,(0,(0,(0,0))))).2.2.2.2;if ((Amb a)=true) then (Aay N (Adl a) ([]:List Int) fun u n=>let c:=(wi (d+1));if ((0≤c)∧(c≤(((List.length (f::(g::(h::(i::(j::([]:List Int))))))):Nat):Int))) then (if (((0 :Int)≤(0 :Int))∧(0≤c)) then (Ac0 N N d b e a (List.take ((Int.toNat c)-(0:Nat)) (f::(g::(h::(i::(j::([]:List Int))))))) ((((Int.toNat c)-(0:Nat)):Nat):Int) 0 n fun o p q r s=>Aad N 10 s fun t=>Acm N N o p q (wi (r+1)) t l) else none) else none) else none) else none) else m
def Aeg{R:Type}(N:Nat):Nat→Bco R
 |0=>fun _ _ _ _ _ _=>none
 |k+1=>fun a b c d e f=>A2v @Aay @Ac0 @Aad @Acm N (fun a b c d=>Aeg N k a b c d e f) a b c d e f
def Awr(Aeg:Arn)(N k:Nat):Aao Ajt:=fun R x K=>Aeg N k x.1.1 x.1.2.2.1 x.1.2.2.2.1 x.1.2.2.2.2.1 (fun y0=>K (.exit 0) (Aab Ax7 (((),()),(((),(),()),y0,())))) (K (.exit 0) (Aab Ax8 (((),()),(((),(),()),()))))
def Bcp(N k:Nat):Aao Ajt:=Awr @Aeg N k
def Bk9:Aac:=⟨[wq9,Am9],[]⟩
def A2w:Aac:=⟨Cnk,[]⟩
abbrev Cf4(R:Type):=d4->Int->((List UInt8)->Option R)->Option R
abbrev A19:={R:Type}→Nat→Cf4 R
def Bla(Aeg:Arn):A19:=fun {R} N b d c=>Aeg N N d b (len b) 0 (fun a=>if (((0:Nat)<(List.length a))∧(((List.length a)≤(70368744177664:Nat))∧((Am7 a)=true))) then (c (Axf a)) else none) (c ([]:List UInt8))
def Amx:A19:=@Bla @Aeg
def Cs5(N:Nat):Ab0 Bk9 [A2w]:=fun R x C=>Amx N x.1.1 x.1.2.1 (fun y0=>C.1 ((y0,()),(())))
def Bwe(Amx:A19)(N:Nat):Go.AX.Aak:=Ac1 [true,true] [] false 2 0 Bk9 [A2w] (fun R x C=>Amx N x.1.1 x.1.2.1 (fun y0=>C.1 ((y0,()),(()))))
def Bwf(N:Nat):Go.AX.Aak:=Bwe @Amx N
def Cs6(N:Nat):List (Nat×Ac4):=[(15,Aaa Ai4 (A9m N N)),(7,A0y (Aaa Adq (Avq N N)) (Aaa Ajt (Bcp N N)) (fun st=>(dec Adq st).isSome))]
def Cf5(N:Nat):List (Nat×Go.AX.Aak):=[(55,Aqk N),(54,Auj 2 Aet (Atk N) (Aqx N)),(56,Anb N),(57,Afa N)]
def Blb:Aac:=⟨B4x,[]⟩
def A2x:Aac:=⟨Cja,[]⟩
abbrev Cf6(R:Type):=(List UInt8)->d3->d1->d2->d4->((List UInt8)->Int->Option R)->Option R
abbrev A2a:={R:Type}→Nat→Cf6 R
def Blc(Agi:Aqw)(Amx:A19):A2a:=fun {R} N d e f g a b=>Agi N d e f g a fun c=>if ((c != 0)=true) then (b ([]:List UInt8) c) else Amx N a 3 fun h=>b h 0
def Anp:A2a:=@Blc @Agi @Amx
def Cs7(N:Nat):Ab0 Blb [A2x]:=fun R x C=>Anp N x.1.1.1 x.1.1.2.1 x.1.1.2.2.1 x.1.1.2.2.2.1 x.1.1.2.2.2.2.1 (fun y0 y1=>C.1 ((y0,y1,()),(())))
def Bwg(Anp:A2a)(N:Nat):Go.AX.Aak:=Ac1 [true] [] false 1 0 Blb [A2x] (fun R x C=>Anp N x.1.1.1 x.1.1.2.1 x.1.1.2.2.1 x.1.1.2.2.2.1 x.1.1.2.2.2.2.1 (fun y0 y1=>C.1 ((y0,y1,()),(()))))
def Bwh(N:Nat):Go.AX.Aak:=Bwg @Anp N
def Cs8(N:Nat):List (Nat×Ac4):=[]
def Cf7(N:Nat):List (Nat×Go.AX.Aak):=[(13,Bgo N),(23,Bwf N)]
def Aqz:Code:=Tryz.f12.body.getD .skip
def Ag1:Code:=Tryz.f14.body.getD .skip
def Apr:Code:=Tryz.f34.body.getD .skip
def Ajh:Aac:=⟨[wq3,Bbr,A1p],[Bw9,Cjj,(34,.row 91 z2)]⟩
def Asq:Aac:=⟨A3b,[(32,.cells 89 [(.val .str),(.val z3),(.slf 33),(.val z1),wq0,wq0]),(33,.row 91 z2)]⟩
def Bgr:Ack:=.cons (.exit 0) Asq (.nil)
abbrev A4p(R:Type):=Int->(List UInt8)->d3->d1->d2->d4->(List UInt8)->d3->d1->Int->Int->d2->((List UInt8)->d3->d1->Int->Int->d2->Option R)->Option R
abbrev Bgs(R:Type):=Int->(List UInt8)->d3->d1->d2->d4->(List UInt8)->d3->d1->Int->Int->d2->Option R
abbrev Avr:={R:Type}→Nat→Nat→A4p R
def Avs{R:Type}(N:Nat)(rc:Bgs R):A4p R:=fun c j l m d n e f g h i a o=>if ((decide (c<(len d)))=true) then (let b:=(wi (c+1));if ((((List.length a)+(List.length ((24,(b,0))::[(26,(0,0))])))*(24:Nat))≤(70368744177664:Nat)) then (rc b j l m d n e f g h i (a++((24,(b,0))::[(26,(0,0))]))) else none) else o e f g h i a
def Aem{R:Type}(N:Nat):Nat→A4p R
 |0=>fun _ _ _ _ _ _ _ _ _ _ _ _ _=>none
 |k+1=>fun a b c d e f g h i j l m n=>Avs N (fun a b c d e f g h i j l m=>Aem N k a b c d e f g h i j l m n) a b c d e f g h i j l m n
def A4q(Aem:Avr)(N k:Nat):Aao Ajh:=fun R x K=>Aem N k x.1.2.2.1 x.2.1.1 x.2.1.2.1 x.2.1.2.2.1 x.2.1.2.2.2.1 x.2.1.2.2.2.2.1 x.2.2.1.1 x.2.2.1.2.1 x.2.2.1.2.2.2.1 x.2.2.1.2.2.2.2.1 x.2.2.1.2.2.2.2.2.1 x.2.2.2.1 (fun y0 y1 y2 y3 y4 y5=>K (.exit 0) (Aab Asq (((),()),((y0,y1,(),y2,y3,y4,()),y5,()))))
def A4r(N k:Nat):Aao Ajh:=A4q @Aem N k
def Aps:Code:=Tryz.f67.body.getD .skip
def Ang:Code:=Tryz.f106.body.getD .skip
def Ah9:Aac:=⟨[wq3,Aum,A1p],Atm⟩
def Ap6:Aac:=⟨[Aum],[]⟩
def Bay:Ack:=.cons (.exit 0) Ap6 (.nil)
abbrev Azl(R:Type):=Int->Int->(List UInt8)->d3->d2->d1->Int->Int->(Int->Option R)->Option R
abbrev Baz(R:Type):=Int->Int->(List UInt8)->d3->d2->d1->Int->Int->Option R
abbrev Asr:={R:Type}→Nat→Nat→Azl R
def Ass{R:Type}(N:Nat)(rc:Baz R):Azl R:=fun c a d b e f g h j=>if ((decide (a<(len b)))=true) then (if (0≤a∧a<len b) then (let i:=(wi (c+(((List.length (b.getD a.toNat (([]:List UInt8),(false,([]:List Int)))).2.2):Nat):Int)));if (0≤a∧a<len b) then (if ((b.getD a.toNat (([]:List UInt8),(false,([]:List Int)))).2.1=true) then (if (0≤a∧a<len b) then (rc (wi (i+(wi (Int.tdiv (wi ((((List.length (b.getD a.toNat (([]:List UInt8),(false,([]:List Int)))).1):Nat):Int)+2)) 2)))) (wi (a+1)) d b e f g h) else none) else rc i (wi (a+1)) d b e f g h) else none) else none) else j c
def Adr{R:Type}(N:Nat):Nat→Azl R
 |0=>fun _ _ _ _ _ _ _ _ _=>none
 |k+1=>fun a b c d e f g h i=>Ass N (fun a b c d e f g h=>Adr N k a b c d e f g h i) a b c d e f g h i
def Azm(Adr:Asr)(N k:Nat):Aao Ah9:=fun R x K=>Adr N k x.1.2.1 x.1.2.2.1 x.2.1.1 x.2.1.2.1 x.2.1.2.2.1 x.2.1.2.2.2.1 x.2.1.2.2.2.2.1 x.2.1.2.2.2.2.2.1 (fun y0=>K (.exit 0) (Aab Ap6 ((y0,()),(()))))
def Azn(N k:Nat):Aao Ah9:=Azm @Adr N k
def A7k:Aac:=⟨A6d,[]⟩
def At4:Aac:=⟨Akf,[]⟩
abbrev B11(R:Type):=(List UInt8)->d3->d2->d1->Int->Int->(Bool->Option R)->Option R
abbrev Apb:={R:Type}→Nat→B11 R
def A7l(Adr:Asr):Apb:=fun {R} N f b c g d e a=>if ((decide ((len c) > 40000))=true) then (a true) else if ((decide ((len b) > 2000))=true) then (a true) else if ((decide (d > 200))=true) then (a true) else if ((decide (e > 20000))=true) then (a true) else Adr N N 0 0 f b c g d e fun h=>a (decide (h > 7800))
def Agd:Apb:=@A7l @Adr
def Cor(N:Nat):Ab0 A7k [At4]:=fun R x C=>Agd N x.1.1.1 x.1.1.2.1 x.1.1.2.2.1 x.1.1.2.2.2.1 x.1.1.2.2.2.2.1 x.1.1.2.2.2.2.2.1 (fun y0=>C.1 ((y0,()),(())))
def A7m(Agd:Apb)(N:Nat):Go.AX.Aak:=Ac1 [true] [] false 1 0 A7k [At4] (fun R x C=>Agd N x.1.1.1 x.1.1.2.1 x.1.1.2.2.1 x.1.1.2.2.2.1 x.1.1.2.2.2.2.1 x.1.1.2.2.2.2.2.1 (fun y0=>C.1 ((y0,()),(()))))
def Bju(N:Nat):Go.AX.Aak:=A7m @Agd N
def Cos(N:Nat):List (Nat×Ac4):=[(11,Aaa Ah9 (Azn N N))]
def B12(N:Nat):List (Nat×Go.AX.Aak):=[]
def Adx:Code:=Tryz.f107.body.getD .skip
def Apt:Code:=Tryz.f171.body.getD .skip
def Akn:Aac:=⟨[B4r,(4,.one (.val .str)),Bbs],[]⟩
def At5:Aac:=⟨[(2,.one (.val .str)),Aum],[]⟩
def At6:Aac:=⟨[B4r,(4,.one (.val .str))],[]⟩
def Bjv:Ack:=.cons .ret At5 (.cons (.exit 0) At6 (.nil))
abbrev A7n(R:Type):=(List UInt8)->(List UInt8)->Int->((List UInt8)->Int->Option R)->((List UInt8)->(List UInt8)->Option R)->Option R
abbrev Bjw(R:Type):=(List UInt8)->(List UInt8)->Int->Option R
abbrev Ax9:={R:Type}→Nat→Nat→A7n R
def Aya{R:Type}(N:Nat)(rc:Bjw R):A7n R:=fun b c a j m=>if ((decide (a<(len b)))=true) then (if (0≤a∧a<len b) then (let d:=(((UInt8.toNat (b.getD a.toNat (0:UInt8))):Nat):Int);if ((d==10)=true) then (if (((List.length c)+(2:Nat))≤(70368744177664:Nat)) then (rc b (c++[(42:UInt8),(110:UInt8)]) (wi (a+1))) else none) else if ((d==9)=true) then (if (((List.length c)+(2:Nat))≤(70368744177664:Nat)) then (rc b (c++[(42:UInt8),(116:UInt8)]) (wi (a+1))) else none) else if ((d==42)=true) then (let e:=(wi (a+1));if ((0≤e)∧(e≤(len b))) then (if ((0≤a)∧(a≤e)) then (let h:=(List.drop (Int.toNat a) (List.take (Int.toNat e) b));if (((1:Nat)+(List.length h))≤(70368744177664:Nat)) then (if (((List.length c)+(List.length ((42:UInt8)::h)))≤(70368744177664:Nat)) then (rc b (c++((42:UInt8)::h)) e) else none) else none) else none) else none) else if ((d==34)=true) then (let f:=(wi (a+1));if ((0≤f)∧(f≤(len b))) then (if ((0≤a)∧(a≤f)) then (let i:=(List.drop (Int.toNat a) (List.take (Int.toNat f) b));if (((1:Nat)+(List.length i))≤(70368744177664:Nat)) then (if (((List.length c)+(List.length ((42:UInt8)::i)))≤(70368744177664:Nat)) then (rc b (c++((42:UInt8)::i)) f) else none) else none) else none) else none) else if ((decide (d<32))=true) then (j ([]:List UInt8) 3) else if ((decide (d > 126))=true) then (j ([]:List UInt8) 3) else let g:=(wi (a+1));if ((0≤g)∧(g≤(len b))) then (if ((0≤a)∧(a≤g)) then (let l:=(List.drop (Int.toNat a) (List.take (Int.toNat g) b));if (((List.length c)+(List.length l))≤(70368744177664:Nat)) then (rc b (c++l) g) else none) else none) else none) else none) else m b c
def Aev{R:Type}(N:Nat):Nat→A7n R
 |0=>fun _ _ _ _ _=>none
 |k+1=>fun a b c d e=>Aya N (fun a b c=>Aev N k a b c d e) a b c d e
def A7o(Aev:Ax9)(N k:Nat):Aao Akn:=fun R x K=>Aev N k x.1.1 x.1.2.1 x.1.2.2.1 (fun y0 y1=>K .ret (Aab At5 ((y0,y1,()),(())))) (fun y0 y1=>K (.exit 0) (Aab At6 ((y0,y1,()),(()))))
def A7p(N k:Nat):Aao Akn:=A7o @Aev N k
def Bcq:Aac:=⟨Cnk,[]⟩
def Ayb:Aac:=⟨Cja,[]⟩
abbrev B9v(R:Type):=(List UInt8)->((List UInt8)->Int->Option R)->Option R
abbrev Alg:={R:Type}→Nat→B9v R
def Bcr(Aev:Ax9):Alg:=fun {R} N c a=>Aev N N c ([(34:UInt8)]) 0 (fun d e=>a d e) fun f b=>if ((decide ((len f) > 100))=true) then (a ([]:List UInt8) 2) else if (((List.length b)+(1:Nat))≤(70368744177664:Nat)) then (a (b++[(34:UInt8)]) 0) else none
def Acs:Alg:=@Bcr @Aev
def Cqo(N:Nat):Ab0 Bcq [Ayb]:=fun R x C=>Acs N x.1.1 (fun y0 y1=>C.1 ((y0,y1,()),(())))
def Aro(Acs:Alg)(N:Nat):Go.AX.Aak:=Ac1 [true] [] false 1 0 Bcq [Ayb] (fun R x C=>Acs N x.1.1 (fun y0 y1=>C.1 ((y0,y1,()),(()))))
def Bpy(N:Nat):Go.AX.Aak:=Aro @Acs N
def Cqp(N:Nat):List (Nat×Ac4):=[(7,Aaa Akn (A7p N N))]
def B9w(N:Nat):List (Nat×Go.AX.Aak):=[]
def B13:Code:=Tryz.f172.body.getD .skip
def Bow:Aac:=⟨Cjg,[]⟩
def A7q:Aac:=⟨Akf,[]⟩
abbrev Cjr(R:Type):=Int->Int->Int->(Bool->Option R)->Option R
abbrev Aei:={R:Type}→Nat→Cjr R
def Aaq:Aei:=fun {R} N a c d b=>if ((decide (a≥c))=true) then (b (decide (a≤d))) else b false
def Cjs(N:Nat):Ab0 Bow [A7q]:=fun R x C=>Aaq N x.1.1 x.1.2.1 x.1.2.2.1 (fun y0=>C.1 ((y0,()),(())))
def Ais(Aaq:Aei)(N:Nat):Go.AX.Aak:=Ac1 [true,true,true] [] false 3 0 Bow [A7q] (fun R x C=>Aaq N x.1.1 x.1.2.1 x.1.2.2.1 (fun y0=>C.1 ((y0,()),(()))))
def A7r(N:Nat):Go.AX.Aak:=Ais @Aaq N
def Cjt(N:Nat):List (Nat×Ac4):=[]
def B14(N:Nat):List (Nat×Go.AX.Aak):=[]
def Ag2:Aac:=⟨[wq3,Aum,(4,.one (.ptr 33)),Bos],[A6e,(33,.cells 36 [(.val .str),(.val .bool),Bw7])]⟩
def Ast:Aac:=⟨A1o,[]⟩
def Asu:Aac:=⟨Ci9,Atm⟩
def Bgt:Ack:=.cons .ret Ast (.cons (.exit 2) Asu (.nil))
abbrev A4s(R:Type):=Int->Int->(List UInt8)->d3->d2->d1->Int->Int->(List UInt8)->Bool->d0->(Bool->Option R)->(Int->(List UInt8)->d3->d2->d1->Int->Int->Option R)->Option R
abbrev Bgu(R:Type):=Int->Int->(List UInt8)->d3->d2->d1->Int->Int->(List UInt8)->Bool->d0->Option R
abbrev Amh:={R:Type}→Nat→Nat→A4s R
def Avt(Aaq:Aei){R:Type}(N:Nat)(rc:Bgu R):A4s R:=fun c a d e f g h i j l b m n=>if ((decide (a<(len b)))=true) then (if (0≤a∧a<len b) then (Aaq N (b.getD a.toNat 0) (-2147483648) 2147483647 fun o=>if ((!o)=true) then (m false) else rc c (wi (a+1)) d e f g h i j l b) else none) else n c d e f g h i
def Ab6{R:Type}(N:Nat):Nat→A4s R
 |0=>fun _ _ _ _ _ _ _ _ _ _ _ _ _=>none
 |k+1=>fun a b c d e f g h i j l m n=>Avt @Aaq N (fun a b c d e f g h i j l=>Ab6 N k a b c d e f g h i j l m n) a b c d e f g h i j l m n
def Aom(Ab6:Amh)(N k:Nat):Aao Ag2:=fun R x K=>Ab6 N k x.1.2.1 x.1.2.2.2.1 x.2.1.1 x.2.1.2.1 x.2.1.2.2.1 x.2.1.2.2.2.1 x.2.1.2.2.2.2.1 x.2.1.2.2.2.2.2.1 x.2.2.1.1 x.2.2.1.2.1 x.2.2.1.2.2.1 (fun y0=>K .ret (Aab Ast ((y0,()),(())))) (fun y0 y1 y2 y3 y4 y5 y6=>K (.exit 2) (Aab Asu (((),y0,()),((y1,y2,y3,y4,y5,y6,()),()))))
def A4t(N k:Nat):Aao Ag2:=Aom @Ab6 N k
def Ahl:Aac:=⟨Ci9,Atm⟩
def At7:Aac:=⟨A1o,[]⟩
def At8:Aac:=⟨Cd2,Atm⟩
def Bjx:Ack:=.cons .ret At7 (.cons (.exit 0) At8 (.nil))
abbrev A7s(R:Type):=Int->(List UInt8)->d3->d2->d1->Int->Int->(Bool->Option R)->((List UInt8)->d3->d2->d1->Int->Int->Option R)->Option R
abbrev Bjy(R:Type):=Int->(List UInt8)->d3->d2->d1->Int->Int->Option R
abbrev Anh:={R:Type}→Nat→Nat→A7s R
def Ayc(Acs:Alg)(Ab6:Amh){R:Type}(N:Nat)(rc:Bjy R):A7s R:=fun a d b e f g h c l=>if ((decide (a<(len b)))=true) then (if (0≤a∧a<len b) then (let i:=(b.getD a.toNat (([]:List UInt8),(false,([]:List Int)))).1;let j:=(b.getD a.toNat (([]:List UInt8),(false,([]:List Int)))).2.2;if ((b.getD a.toNat (([]:List UInt8),(false,([]:List Int)))).2.1=true) then (Acs N i fun v m=>if ((m != 0)=true) then (c false) else if ((decide ((len j) > 0))=true) then (c false) else rc (wi (a+1)) d b e f g h) else if ((!(i==([]:List UInt8)))=true) then (c false) else if (((len j)==0)=true) then (c false) else Ab6 N N a 0 d b e f g h i ((b.getD a.toNat (([]:List UInt8),(false,([]:List Int)))).2.1) j (fun n=>c n) fun o p q r s t u=>rc (wi (o+1)) p q r s t u) else none) else l d b e f g h
def Acc{R:Type}(N:Nat):Nat→A7s R
 |0=>fun _ _ _ _ _ _ _ _ _=>none
 |k+1=>fun a b c d e f g h i=>Ayc @Acs @Ab6 N (fun a b c d e f g=>Acc N k a b c d e f g h i) a b c d e f g h i
def Apc(Acc:Anh)(N k:Nat):Aao Ahl:=fun R x K=>Acc N k x.1.2.1 x.2.1.1 x.2.1.2.1 x.2.1.2.2.1 x.2.1.2.2.2.1 x.2.1.2.2.2.2.1 x.2.1.2.2.2.2.2.1 (fun y0=>K .ret (Aab At7 ((y0,()),(())))) (fun y0 y1 y2 y3 y4 y5=>K (.exit 0) (Aab At8 (((),()),((y0,y1,y2,y3,y4,y5,()),()))))
def A7t(N k:Nat):Aao Ahl:=Apc @Acc N k
def Ag3:Aac:=⟨[wq3,Cd4,(9,.one (.ptr 33)),Cd5],[A6e,(33,.cells 71 [wq0,wq0])]⟩
def Asv:Aac:=⟨A1o,[]⟩
def Asw:Aac:=⟨[wq3,Cd4],Atm⟩
def Bgv:Ack:=.cons .ret Asv (.cons (.exit 6) Asw (.nil))
abbrev A4u(R:Type):=Int->Int->(List UInt8)->d3->d2->d1->Int->Int->Int->Int->(Bool->Option R)->(Int->(List UInt8)->d3->d2->d1->Int->Int->Option R)->Option R
abbrev Bgw(R:Type):=Int->Int->(List UInt8)->d3->d2->d1->Int->Int->Int->Int->Option R
abbrev Ami:={R:Type}→Nat→Nat→A4u R
def Avu{R:Type}(N:Nat)(rc:Bgw R):A4u R:=fun c a d e f b g h i j l m=>if ((decide (a<c))=true) then (if (0≤a∧a<len b) then (if (((b.getD a.toNat (0,0)).1==i)=true) then (l false) else rc c (wi (a+1)) d e f b g h i j) else none) else m c d e f b g h
def Ab7{R:Type}(N:Nat):Nat→A4u R
 |0=>fun _ _ _ _ _ _ _ _ _ _ _ _=>none
 |k+1=>fun a b c d e f g h i j l m=>Avu N (fun a b c d e f g h i j=>Ab7 N k a b c d e f g h i j l m) a b c d e f g h i j l m
def Aon(Ab7:Ami)(N k:Nat):Aao Ag3:=fun R x K=>Ab7 N k x.1.2.1 x.1.2.2.2.1 x.2.1.1 x.2.1.2.1 x.2.1.2.2.1 x.2.1.2.2.2.1 x.2.1.2.2.2.2.1 x.2.1.2.2.2.2.2.1 x.2.2.1.1 x.2.2.1.2.1 (fun y0=>K .ret (Aab Asv ((y0,()),(())))) (fun y0 y1 y2 y3 y4 y5 y6=>K (.exit 6) (Aab Asw (((),y0,()),((y1,y2,y3,y4,y5,y6,()),()))))
def A4v(N k:Nat):Aao Ag3:=Aon @Ab7 N k
def Ag4:Aac:=⟨[wq3,Cd4],Atm⟩
def Asx:Aac:=⟨A1o,[]⟩
def Asy:Aac:=⟨Cd2,Atm⟩
def Bgx:Ack:=.cons .ret Asx (.cons (.exit 4) Asy (.nil))
abbrev A4w(R:Type):=Int->(List UInt8)->d3->d2->d1->Int->Int->(Bool->Option R)->((List UInt8)->d3->d2->d1->Int->Int->Option R)->Option R
abbrev Bgy(R:Type):=Int->(List UInt8)->d3->d2->d1->Int->Int->Option R
abbrev Amj:={R:Type}→Nat→Nat→A4w R
def Avv(Aaq:Aei)(Ab7:Ami){R:Type}(N:Nat)(rc:Bgy R):A4w R:=fun a e f g b c h d l=>if ((decide (a<(len b)))=true) then (if (0≤a∧a<len b) then (let i:=(b.getD a.toNat (0,0)).1;let j:=(b.getD a.toNat (0,0)).2;Aaq N i 1 199 fun m=>if ((!m)=true) then (d false) else Aaq N j 1 c fun n=>if ((!n)=true) then (d false) else Ab7 N N a 0 e f g b c h i j (fun o=>d o) fun p q r s t u v=>rc (wi (p+1)) q r s t u v) else none) else l e f g b c h
def Abu{R:Type}(N:Nat):Nat→A4w R
 |0=>fun _ _ _ _ _ _ _ _ _=>none
 |k+1=>fun a b c d e f g h i=>Avv @Aaq @Ab7 N (fun a b c d e f g=>Abu N k a b c d e f g h i) a b c d e f g h i
def Aoo(Abu:Amj)(N k:Nat):Aao Ag4:=fun R x K=>Abu N k x.1.2.1 x.2.1.1 x.2.1.2.1 x.2.1.2.2.1 x.2.1.2.2.2.1 x.2.1.2.2.2.2.1 x.2.1.2.2.2.2.2.1 (fun y0=>K .ret (Aab Asx ((y0,()),(())))) (fun y0 y1 y2 y3 y4 y5=>K (.exit 4) (Aab Asy (((),()),((y0,y1,y2,y3,y4,y5,()),()))))
def A4x(N k:Nat):Aao Ag4:=Aoo @Abu N k
def Bcs:Aac:=⟨A6d,[]⟩
def Ayd:Aac:=⟨Akf,[]⟩
abbrev B9x(R:Type):=(List UInt8)->d3->d2->d1->Int->Int->(Bool->Option R)->Option R
abbrev Arp:={R:Type}→Nat→B9x R
def Bct(Acc:Anh)(Abu:Amj)(Acs:Alg):Arp:=fun {R} N b c d e f g a=>Acc N N 0 b c d e f g (fun h=>a h) fun i j l m n o=>Abu N N 0 i j l m n o (fun p=>a p) fun q s t u v w=>Acs N q fun x r=>a (r==0)
def Ah0:Arp:=@Bct @Acc @Abu @Acs
def Cqq(N:Nat):Ab0 Bcs [Ayd]:=fun R x C=>Ah0 N x.1.1.1 x.1.1.2.1 x.1.1.2.2.1 x.1.1.2.2.2.1 x.1.1.2.2.2.2.1 x.1.1.2.2.2.2.2.1 (fun y0=>C.1 ((y0,()),(())))
def Bcu(Ah0:Arp)(N:Nat):Go.AX.Aak:=Ac1 [true] [] false 1 0 Bcs [Ayd] (fun R x C=>Ah0 N x.1.1.1 x.1.1.2.1 x.1.1.2.2.1 x.1.1.2.2.2.1 x.1.1.2.2.2.2.1 x.1.1.2.2.2.2.2.1 (fun y0=>C.1 ((y0,()),(()))))
def Bpz(N:Nat):Go.AX.Aak:=Bcu @Ah0 N
def Cqr(N:Nat):List (Nat×Ac4):=[(25,Aaa Ag2 (A4t N N)),(5,Aaa Ahl (A7t N N)),(47,Aaa Ag3 (A4v N N)),(35,Aaa Ag4 (A4x N N))]
def B9y(N:Nat):List (Nat×Go.AX.Aak):=[(171,Bpy N),(172,A7r N)]
def Aej:Code:=Tryz.f108.body.getD .skip
def Agm:Aac:=⟨[Ay3,Bbr,Ci6,(93,.one (.val .bool))],Bt5⟩
def Avw:Aac:=⟨Arj,[]⟩
def Avx:Aac:=⟨A3b,A2m⟩
def Ba0:Ack:=.cons .ret Avw (.cons .normal Avx (.nil))
abbrev Bsc(R:Type):=Int->Bool->(List UInt8)->d3->d2->d1->Int->Int->Int->Int->Int->(Bool->Option R)->(Int->Int->Int->Option R)->Option R
abbrev Ahe:={R:Type}→Nat→Bsc R
def Azo(Aaq:Aei):Ahe:=fun {R} N d f q r s t g e h b c a i=>if (f=true) then (Aaq N b 1 e fun j=>a j) else if ((d==24)=true) then (Aaq N b 1 g fun l=>if (l=true) then (Aaq N c 0 8 fun m=>a m) else a false) else if ((d==29)=true) then (Aaq N b 1 e fun n=>if (n=true) then (Aaq N c 0 1000 fun o=>a o) else a false) else if ((d==30)=true) then (Aaq N c 1 e fun p=>a p) else i h b c
def Abh:Ahe:=@Azo @Aaq
def Ak2(Abh:Ahe)(N:Nat):Aao Agm:=fun R x K=>Abh N x.1.2.2.1 x.1.2.2.2.1 x.2.1.1 x.2.1.2.1 x.2.1.2.2.1 x.2.1.2.2.2.1 x.2.1.2.2.2.2.1 x.2.1.2.2.2.2.2.1 x.2.2.1.1 x.2.2.1.2.1 x.2.2.1.2.2.1 (fun y0=>K .ret (Aab Avw ((y0,()),(())))) (fun y0 y1 y2=>K .normal (Aab Avx (((),()),((y0,y1,y2,()),()))))
def Ba1(N:Nat):Aao Agm:=Ak2 @Abh N
def Agn:Aac:=⟨[Ay3,Bbr,Ci6,(60,.one (.val .bool))],Bt5⟩
def Avy:Aac:=⟨Arj,[]⟩
def Avz:Aac:=⟨A3b,A2m⟩
def Ba2:Ack:=.cons .ret Avy (.cons .normal Avz (.nil))
abbrev Bsd(R:Type):=Int->Bool->(List UInt8)->d3->d2->d1->Int->Int->Int->Int->Int->(Bool->Option R)->(Int->Int->Int->Option R)->Option R
abbrev Ahf:={R:Type}→Nat→Bsd R
def Azp(Aaq:Aei)(Abh:Ahe):Ahf:=fun {R} N a n f d g h e i j b l c m=>if (n=true) then (Aaq N b 0 (wi ((len d)-1)) fun o=>c o) else if ((a==11)=true) then (Aaq N b 1 e fun p=>c p) else if ((a==16)=true) then (Aaq N b 1 17 fun q=>c q) else if ((a==17)=true) then (if ((b==18)=true) then (c true) else c (b==19)) else if ((a==19)=true) then (Abh N a (a==19) f d g h e i j b l (fun r=>c r) fun s t u=>m s t u) else if ((a==20)=true) then (Abh N a (a==20) f d g h e i j b l (fun v=>c v) fun w x y=>m w x y) else if ((a==21)=true) then (Abh N a (a==21) f d g h e i j b l (fun z=>c z) fun A B C=>m A B C) else if ((a==22)=true) then (Abh N a (a==22) f d g h e i j b l (fun D=>c D) fun E F G=>m E F G) else Abh N a (a==27) f d g h e i j b l (fun H=>c H) fun I J L=>m I J L
def Abl:Ahf:=@Azp @Aaq @Abh
def Ak3(Abl:Ahf)(N:Nat):Aao Agn:=fun R x K=>Abl N x.1.2.2.1 x.1.2.2.2.1 x.2.1.1 x.2.1.2.1 x.2.1.2.2.1 x.2.1.2.2.2.1 x.2.1.2.2.2.2.1 x.2.1.2.2.2.2.2.1 x.2.2.1.1 x.2.2.1.2.1 x.2.2.1.2.2.1 (fun y0=>K .ret (Aab Avy ((y0,()),(())))) (fun y0 y1 y2=>K .normal (Aab Avz (((),()),((y0,y1,y2,()),()))))
def Ba3(N:Nat):Aao Agn:=Ak3 @Abl N
def Ago:Aac:=⟨[Ay3,Bbr,Ci6,(53,.one (.val .bool))],Bt5⟩
def Av0:Aac:=⟨Arj,[]⟩
def Av1:Aac:=⟨A3b,A2m⟩
def Ba4:Ack:=.cons .ret Av0 (.cons .normal Av1 (.nil))
abbrev Bse(R:Type):=Int->Bool->(List UInt8)->d3->d2->d1->Int->Int->Int->Int->Int->(Bool->Option R)->(Int->Int->Int->Option R)->Option R
abbrev Ahg:={R:Type}→Nat→Bse R
def Azq(Aaq:Aei)(Abl:Ahf):Ahg:=fun {R} N a n d e f g h i j b l c m=>if (n=true) then (Aaq N b 0 199 fun o=>c o) else if ((a==8)=true) then (Abl N a (a==8) d e f g h i j b l (fun p=>c p) fun q r s=>m q r s) else if ((a==9)=true) then (Abl N a (a==9) d e f g h i j b l (fun t=>c t) fun u v w=>m u v w) else Abl N a (a==10) d e f g h i j b l (fun x=>c x) fun y z A=>m y z A
def Abm:Ahg:=@Azq @Aaq @Abl
def Ak4(Abm:Ahg)(N:Nat):Aao Ago:=fun R x K=>Abm N x.1.2.2.1 x.1.2.2.2.1 x.2.1.1 x.2.1.2.1 x.2.1.2.2.1 x.2.1.2.2.2.1 x.2.1.2.2.2.2.1 x.2.1.2.2.2.2.2.1 x.2.2.1.1 x.2.2.1.2.1 x.2.2.1.2.2.1 (fun y0=>K .ret (Aab Av0 ((y0,()),(())))) (fun y0 y1 y2=>K .normal (Aab Av1 (((),()),((y0,y1,y2,()),()))))
def Ba5(N:Nat):Aao Ago:=Ak4 @Abm N
def Agp:Aac:=⟨[Ay3,Bbr,Ci6,Cnl],Bt5⟩
def Av2:Aac:=⟨Arj,[]⟩
def Av3:Aac:=⟨A3b,A2m⟩
def Ba6:Ack:=.cons .ret Av2 (.cons .normal Av3 (.nil))
abbrev Bsf(R:Type):=Int->Bool->(List UInt8)->d3->d2->d1->Int->Int->Int->Int->Int->(Bool->Option R)->(Int->Int->Int->Option R)->Option R
abbrev Ahh:={R:Type}→Nat→Bsf R
def Azr(Aaq:Aei)(Abm:Ahg):Ahh:=fun {R} N a n d e f g h i j b l c m=>if (n=true) then (Aaq N b 0 4000 fun o=>c o) else if ((a==5)=true) then (Abm N a (a==5) d e f g h i j b l (fun p=>c p) fun q r s=>m q r s) else if ((a==6)=true) then (Abm N a (a==6) d e f g h i j b l (fun t=>c t) fun u v w=>m u v w) else Abm N a (a==7) d e f g h i j b l (fun x=>c x) fun y z A=>m y z A
def Aat:Ahh:=@Azr @Aaq @Abm
def Ak5(Aat:Ahh)(N:Nat):Aao Agp:=fun R x K=>Aat N x.1.2.2.1 x.1.2.2.2.1 x.2.1.1 x.2.1.2.1 x.2.1.2.2.1 x.2.1.2.2.2.1 x.2.1.2.2.2.2.1 x.2.1.2.2.2.2.2.1 x.2.2.1.1 x.2.2.1.2.1 x.2.2.1.2.2.1 (fun y0=>K .ret (Aab Av2 ((y0,()),(())))) (fun y0 y1 y2=>K .normal (Aab Av3 (((),()),((y0,y1,y2,()),()))))
def Ba7(N:Nat):Aao Agp:=Ak5 @Aat N
def Agq:Aac:=⟨A3b,A2m⟩
def Av4:Aac:=⟨Arj,[]⟩
def Ba8:Ack:=.cons .ret Av4 (.nil)
abbrev Bsg(R:Type):=Int->Int->Int->(Bool->Option R)->Option R
abbrev Aia:={R:Type}→Nat→Bsg R
def Aar:Aia:=fun {R} N c a d b=>b (a==0)
def Ak6(Aar:Aia)(N:Nat):Aao Agq:=fun R x K=>Aar N x.2.1.1 x.2.1.2.1 x.2.1.2.2.1 (fun y0=>K .ret (Aab Av4 ((y0,()),(()))))
def Ba9(N:Nat):Aao Agq:=Ak6 @Aar N
def A7u:Aac:=⟨[Cji,(1,.agg Cd7)],[]⟩
def At9:Aac:=⟨Akf,[]⟩
abbrev B15(R:Type):=(List UInt8)->d3->d2->d1->Int->Int->Int->Int->Int->(Bool->Option R)->Option R
abbrev Apd:={R:Type}→Nat→B15 R
def Asz(Aaq:Aei)(Aat:Ahh)(Aar:Aia):Apd:=fun {R} N e f g h i j a d c b=>Aaq N a 1 30 fun l=>if ((!l)=true) then (b false) else Aaq N d (-2147483648) 2147483647 fun m=>if ((!m)=true) then (b false) else Aaq N c (-2147483648) 2147483647 fun n=>if ((!n)=true) then (b false) else if ((a != 24)=true) then (if ((a != 29)=true) then (if ((a != 30)=true) then (if ((c != 0)=true) then (b false) else if ((a==1)=true) then (b true) else if ((a==2)=true) then (Aat N a (a==2) e f g h i j a d c (fun o=>b o) fun p q r=>Aar N p q r fun s=>b s) else if ((a==3)=true) then (Aat N a (a==3) e f g h i j a d c (fun t=>b t) fun u v w=>Aar N u v w fun x=>b x) else if ((a==4)=true) then (Aat N a (a==4) e f g h i j a d c (fun y=>b y) fun z A B=>Aar N z A B fun C=>b C) else if ((a==23)=true) then (Aat N a (a==23) e f g h i j a d c (fun D=>b D) fun E F G=>Aar N E F G fun H=>b H) else if ((a==18)=true) then (Aat N a (a==18) e f g h i j a d c (fun I=>b I) fun J L M=>Aar N J L M fun O=>b O) else Aat N a (a==28) e f g h i j a d c (fun P=>b P) fun Q S T=>Aar N Q S T fun U=>b U) else if ((a==1)=true) then (b true) else if ((a==2)=true) then (Aat N a (a==2) e f g h i j a d c (fun V=>b V) fun W X Y=>Aar N W X Y fun Z=>b Z) else if ((a==3)=true) then (Aat N a (a==3) e f g h i j a d c (fun aa=>b aa) fun ab ac ad=>Aar N ab ac ad fun ae=>b ae) else if ((a==4)=true) then (Aat N a (a==4) e f g h i j a d c (fun af=>b af) fun ag ah ai=>Aar N ag ah ai fun aj=>b aj) else if ((a==23)=true) then (Aat N a (a==23) e f g h i j a d c (fun ak=>b ak) fun al am an=>Aar N al am an fun ao=>b ao) else if ((a==18)=true) then (Aat N a (a==18) e f g h i j a d c (fun ap=>b ap) fun aq ar au=>Aar N aq ar au fun av=>b av) else Aat N a (a==28) e f g h i j a d c (fun aw=>b aw) fun ax ay az=>Aar N ax ay az fun ba=>b ba) else if ((a==1)=true) then (b true) else if ((a==2)=true) then (Aat N a (a==2) e f g h i j a d c (fun bb=>b bb) fun bc bd be=>Aar N bc bd be fun bf=>b bf) else if ((a==3)=true) then (Aat N a (a==3) e f g h i j a d c (fun bg=>b bg) fun bh bi bj=>Aar N bh bi bj fun bk=>b bk) else if ((a==4)=true) then (Aat N a (a==4) e f g h i j a d c (fun bl=>b bl) fun bm bn bo=>Aar N bm bn bo fun bp=>b bp) else if ((a==23)=true) then (Aat N a (a==23) e f g h i j a d c (fun bq=>b bq) fun br bs bt=>Aar N br bs bt fun bu=>b bu) else if ((a==18)=true) then (Aat N a (a==18) e f g h i j a d c (fun bv=>b bv) fun bw bx bz=>Aar N bw bx bz fun ca=>b ca) else Aat N a (a==28) e f g h i j a d c (fun cb=>b cb) fun cc cd ce=>Aar N cc cd ce fun cf=>b cf) else if ((a==1)=true) then (b true) else if ((a==2)=true) then (Aat N a (a==2) e f g h i j a d c (fun cg=>b cg) fun ch ci cj=>Aar N ch ci cj fun ck=>b ck) else if ((a==3)=true) then (Aat N a (a==3) e f g h i j a d c (fun cl=>b cl) fun cm cn co=>Aar N cm cn co fun cp=>b cp) else if ((a==4)=true) then (Aat N a (a==4) e f g h i j a d c (fun cq=>b cq) fun cr cs ct=>Aar N cr cs ct fun cu=>b cu) else if ((a==23)=true) then (Aat N a (a==23) e f g h i j a d c (fun cv=>b cv) fun cw cx cy=>Aar N cw cx cy fun cz=>b cz) else if ((a==18)=true) then (Aat N a (a==18) e f g h i j a d c (fun da=>b da) fun db dc dd=>Aar N db dc dd fun de=>b de) else Aat N a (a==28) e f g h i j a d c (fun df=>b df) fun dg dh di=>Aar N dg dh di fun dj=>b dj
def Aew:Apd:=@Asz @Aaq @Aat @Aar
def Cot(N:Nat):Ab0 A7u [At9]:=fun R x C=>Aew N x.1.1.1 x.1.1.2.1 x.1.1.2.2.1 x.1.1.2.2.2.1 x.1.1.2.2.2.2.1 x.1.1.2.2.2.2.2.1 x.1.2.1.1 x.1.2.1.2.1 x.1.2.1.2.2.1 (fun y0=>C.1 ((y0,()),(())))
def A7v(Aew:Apd)(N:Nat):Go.AX.Aak:=Ac1 [true,true] [] false 2 0 A7u [At9] (fun R x C=>Aew N x.1.1.1 x.1.1.2.1 x.1.1.2.2.1 x.1.1.2.2.2.1 x.1.1.2.2.2.2.1 x.1.1.2.2.2.2.2.1 x.1.2.1.1 x.1.2.1.2.1 x.1.2.1.2.2.1 (fun y0=>C.1 ((y0,()),(()))))
def Bjz(N:Nat):Go.AX.Aak:=A7v @Aew N
def Cou(N:Nat):List (Nat×Ac4):=[(68,Aaa Agm (Ba1 N)),(44,Aaa Agn (Ba3 N)),(36,Aaa Ago (Ba5 N)),(28,Aaa Agp (Ba7 N)),(82,Aaa Agq (Ba9 N))]
def B16(N:Nat):List (Nat×Go.AX.Aak):=[(172,A7r N)]
def Aji:Aac:=⟨Ci9,Atm⟩
def As0:Aac:=⟨Bbt,[]⟩
def As1:Aac:=⟨Cd2,Atm⟩
def Bgz:Ack:=.cons .ret As0 (.cons (.exit 0) As1 (.nil))
abbrev A4y(R:Type):=Int->(List UInt8)->d3->d2->d1->Int->Int->(Int->Option R)->((List UInt8)->d3->d2->d1->Int->Int->Option R)->Option R
abbrev Bg0(R:Type):=Int->(List UInt8)->d3->d2->d1->Int->Int->Option R
abbrev Av5:={R:Type}→Nat→Nat→A4y R
def A4z(Aew:Apd){R:Type}(N:Nat)(rc:Bg0 R):A4y R:=fun b c d a e f g h i=>if ((decide (b<(len a)))=true) then (if (0≤b∧b<len a) then (Aew N c d a e f g ((a.getD b.toNat (0,(0,0))).1) ((a.getD b.toNat (0,(0,0))).2.1) ((a.getD b.toNat (0,(0,0))).2.2) fun j=>if ((!j)=true) then (h 60) else rc (wi (b+1)) c d a e f g) else none) else i c d a e f g
def Ae4{R:Type}(N:Nat):Nat→A4y R
 |0=>fun _ _ _ _ _ _ _ _ _=>none
 |k+1=>fun a b c d e f g h i=>A4z @Aew N (fun a b c d e f g=>Ae4 N k a b c d e f g h i) a b c d e f g h i
def A40(Ae4:Av5)(N k:Nat):Aao Aji:=fun R x K=>Ae4 N k x.1.2.1 x.2.1.1 x.2.1.2.1 x.2.1.2.2.1 x.2.1.2.2.2.1 x.2.1.2.2.2.2.1 x.2.1.2.2.2.2.2.1 (fun y0=>K .ret (Aab As0 ((y0,()),(())))) (fun y0 y1 y2 y3 y4 y5=>K (.exit 0) (Aab As1 (((),()),((y0,y1,y2,y3,y4,y5,()),()))))
def A41(N k:Nat):Aao Aji:=A40 @Ae4 N k
def Ah4:Code:=Tryz.f109.body.getD .skip
def Bm5:Code:=Tryz.f173.body.getD .skip
def A9n:Aac:=⟨Cjd,[]⟩
def Av6:Aac:=⟨Akf,[]⟩
abbrev B5m(R:Type):=Int->Int->Int->(Bool->Option R)->Option R
abbrev Aka:={R:Type}→Nat→B5m R
def Aa2:Aka:=fun {R} N a c d b=>if ((a != 20)=true) then (if ((a != 25)=true) then (if ((a != 26)=true) then (if ((a != 27)=true) then (if ((a != 29)=true) then (b (a != 30)) else b false) else b false) else b false) else b false) else b false
def B5n(N:Nat):Ab0 A9n [Av6]:=fun R x C=>Aa2 N x.1.1.1 x.1.1.2.1 x.1.1.2.2.1 (fun y0=>C.1 ((y0,()),(())))
def Aop(Aa2:Aka)(N:Nat):Go.AX.Aak:=Ac1 [true] [] false 1 0 A9n [Av6] (fun R x C=>Aa2 N x.1.1.1 x.1.1.2.1 x.1.1.2.2.1 (fun y0=>C.1 ((y0,()),(()))))
def A9o(N:Nat):Go.AX.Aak:=Aop @Aa2 N
def B5o(N:Nat):List (Nat×Ac4):=[]
def Bm6(N:Nat):List (Nat×Go.AX.Aak):=[]
def Ajj:Aac:=⟨[wq3,Aum,A1p,Bbs,A84,(7,.one (.ptr 33)),Bw6],Bt5⟩
def Azs:Aac:=⟨A1o,[]⟩
def Azt:Aac:=⟨Cjm,Atm⟩
def Bg1:Ack:=.cons .ret Azs (.cons .normal Azt (.nil))
abbrev Bxf(R:Type):=Int->Int->Int->Int->Bool->(List UInt8)->d3->d2->d1->Int->Int->Int->Int->Int->(Bool->Option R)->(Int->Int->Int->Int->(List UInt8)->d3->d2->d1->Int->Int->Option R)->Option R
abbrev Ak7:={R:Type}→Nat→Bxf R
def A42(Aa2:Aka):Ak7:=fun {R} N c d e a p f g b h i j n q r l m=>Aa2 N n q r fun s=>if (s=true) then (if (p=true) then (l false) else let o:=(wi (a+1));if (0≤o∧o<len b) then (if (((b.getD o.toNat (0,(0,0))).1==24)=true) then (l false) else if ((a==0)=true) then (if ((n != 24)=true) then (l false) else m c d e a f g b h i j) else m c d e a f g b h i j) else none) else if ((a==0)=true) then (if ((n != 24)=true) then (l false) else m c d e a f g b h i j) else m c d e a f g b h i j
def Ab8:Ak7:=@A42 @Aa2
def Aq0(Ab8:Ak7)(N:Nat):Aao Ajj:=fun R x K=>Ab8 N x.1.2.1 x.1.2.2.1 x.1.2.2.2.1 x.1.2.2.2.2.1 x.1.2.2.2.2.2.2.1 x.2.1.1 x.2.1.2.1 x.2.1.2.2.1 x.2.1.2.2.2.1 x.2.1.2.2.2.2.1 x.2.1.2.2.2.2.2.1 x.2.2.1.1 x.2.2.1.2.1 x.2.2.1.2.2.1 (fun y0=>K .ret (Aab Azs ((y0,()),(())))) (fun y0 y1 y2 y3 y4 y5 y6 y7 y8 y9=>K .normal (Aab Azt (((),y0,y1,y2,y3,()),((y4,y5,y6,y7,y8,y9,()),()))))
def Bg2(N:Nat):Aao Ajj:=Aq0 @Ab8 N
def Ajk:Aac:=⟨[wq3,Aum,A1p,Bbs,A84,(7,.one (.ptr 33))],Bt5⟩
def Azu:Aac:=⟨A1o,[]⟩
def Azv:Aac:=⟨Cjm,Atm⟩
def Bg3:Ack:=.cons .ret Azu (.cons .normal Azv (.nil))
abbrev Bxg(R:Type):=Int->Int->Int->Int->(List UInt8)->d3->d2->d1->Int->Int->Int->Int->Int->(Bool->Option R)->(Int->Int->Int->Int->(List UInt8)->d3->d2->d1->Int->Int->Option R)->Option R
abbrev Ak8:={R:Type}→Nat→Bxg R
def A43(Ab8:Ak7):Ak8:=fun {R} N h p q f i j a l m n c d g e o=>let b:=(wi (f+1));if ((c==24)=true) then (let t:=(wi (h+1));if ((d != t)=true) then (e false) else Ab8 N t p q f (decide (b≥(len a))) i j a l m n c d g (fun u=>e u) fun v w x y z A B C D E=>o v w x y z A B C D E) else if ((c==29)=true) then (Ab8 N h p g f (decide (b≥(len a))) i j a l m n c d g (fun F=>e F) fun G H I J L M O P Q S=>o G H I J L M O P Q S) else if ((c==19)=true) then (let r:=(if (d > p) then d else p);if ((decide (b≥(len a)))=true) then (e false) else if (0≤b∧b<len a) then (let s:=(a.getD b.toNat (0,(0,0))).1;if ((s != 18)=true) then (if (0≤b∧b<len a) then (if ((s != 28)=true) then (if (0≤b∧b<len a) then (if ((s != 19)=true) then (e false) else Ab8 N h r q f (decide (b≥(len a))) i j a l m n c d g (fun T=>e T) fun U V W X Y Z aa ab ac ad=>o U V W X Y Z aa ab ac ad) else none) else Ab8 N h r q f (decide (b≥(len a))) i j a l m n c d g (fun ae=>e ae) fun af ag ah ai aj ak al am an ao=>o af ag ah ai aj ak al am an ao) else none) else Ab8 N h r q f (decide (b≥(len a))) i j a l m n c d g (fun ap=>e ap) fun aq ar au av aw ax ay az ba bb=>o aq ar au av aw ax ay az ba bb) else none) else Ab8 N h p q f (decide (b≥(len a))) i j a l m n c d g (fun bc=>e bc) fun bd be bf bg bh bi bj bk bl bm=>o bd be bf bg bh bi bj bk bl bm
def Adj:Ak8:=@A43 @Ab8
def Aq1(Adj:Ak8)(N:Nat):Aao Ajk:=fun R x K=>Adj N x.1.2.1 x.1.2.2.1 x.1.2.2.2.1 x.1.2.2.2.2.1 x.2.1.1 x.2.1.2.1 x.2.1.2.2.1 x.2.1.2.2.2.1 x.2.1.2.2.2.2.1 x.2.1.2.2.2.2.2.1 x.2.2.1.1 x.2.2.1.2.1 x.2.2.1.2.2.1 (fun y0=>K .ret (Aab Azu ((y0,()),(())))) (fun y0 y1 y2 y3 y4 y5 y6 y7 y8 y9=>K .normal (Aab Azv (((),y0,y1,y2,y3,()),((y4,y5,y6,y7,y8,y9,()),()))))
def Bg4(N:Nat):Aao Ajk:=Aq1 @Adj N
def Aib:Aac:=⟨Cjm,Atm⟩
def Aua:Aac:=⟨A1o,[]⟩
def Aub:Aac:=⟨[wq3,Aum,A1p,Bbs],Atm⟩
def Bj0:Ack:=.cons .ret Aua (.cons (.exit 0) Aub (.nil))
abbrev A7w(R:Type):=Int->Int->Int->Int->(List UInt8)->d3->d2->d1->Int->Int->(Bool->Option R)->(Int->Int->Int->(List UInt8)->d3->d2->d1->Int->Int->Option R)->Option R
abbrev Bj1(R:Type):=Int->Int->Int->Int->(List UInt8)->d3->d2->d1->Int->Int->Option R
abbrev Ape:={R:Type}→Nat→Nat→A7w R
def A7x(Adj:Ak8){R:Type}(N:Nat)(rc:Bj1 R):A7w R:=fun d e c a f g b h i j l p=>if ((decide (a<(len b)))=true) then (if (0≤a∧a<len b) then (let m:=(b.getD a.toNat (0,(0,0))).1;let n:=(b.getD a.toNat (0,(0,0))).2.1;let o:=(b.getD a.toNat (0,(0,0))).2.2;if ((!((decide (c > 0))==(m==30)))=true) then (l false) else if ((decide (c > 0))=true) then (Adj N d e (wi (c-1)) a f g b h i j m n o (fun q=>l q) fun r s t u v w x y z A=>rc r s t (wi (u+1)) v w x y z A) else Adj N d e c a f g b h i j m n o (fun B=>l B) fun C D E F G H I J L M=>rc C D E (wi (F+1)) G H I J L M) else none) else p d e c f g b h i j
def Ac5{R:Type}(N:Nat):Nat→A7w R
 |0=>fun _ _ _ _ _ _ _ _ _ _ _ _=>none
 |k+1=>fun a b c d e f g h i j l m=>A7x @Adj N (fun a b c d e f g h i j=>Ac5 N k a b c d e f g h i j l m) a b c d e f g h i j l m
def As2(Ac5:Ape)(N k:Nat):Aao Aib:=fun R x K=>Ac5 N k x.1.2.1 x.1.2.2.1 x.1.2.2.2.1 x.1.2.2.2.2.1 x.2.1.1 x.2.1.2.1 x.2.1.2.2.1 x.2.1.2.2.2.1 x.2.1.2.2.2.2.1 x.2.1.2.2.2.2.2.1 (fun y0=>K .ret (Aab Aua ((y0,()),(())))) (fun y0 y1 y2 y3 y4 y5 y6 y7 y8=>K (.exit 0) (Aab Aub (((),y0,y1,y2,()),((y3,y4,y5,y6,y7,y8,()),()))))
def A7y(N k:Nat):Aao Aib:=As2 @Ac5 N k
def Bcv:Aac:=⟨A6d,[]⟩
def Aye:Aac:=⟨Akf,[]⟩
abbrev B9z(R:Type):=(List UInt8)->d3->d2->d1->Int->Int->(Bool->Option R)->Option R
abbrev Arq:={R:Type}→Nat→B9z R
def Bcw(Ac5:Ape):Arq:=fun {R} N b c d e f g a=>Ac5 N N 0 0 0 0 b c d e f g (fun h=>a h) fun i j l o p q r m n=>if ((l==0)=true) then (if ((i==m)=true) then (a (j==n)) else a false) else a false
def Ahi:Arq:=@Bcw @Ac5
def Cqs(N:Nat):Ab0 Bcv [Aye]:=fun R x C=>Ahi N x.1.1.1 x.1.1.2.1 x.1.1.2.2.1 x.1.1.2.2.2.1 x.1.1.2.2.2.2.1 x.1.1.2.2.2.2.2.1 (fun y0=>C.1 ((y0,()),(())))
def Bcx(Ahi:Arq)(N:Nat):Go.AX.Aak:=Ac1 [true] [] false 1 0 Bcv [Aye] (fun R x C=>Ahi N x.1.1.1 x.1.1.2.1 x.1.1.2.2.1 x.1.1.2.2.2.1 x.1.1.2.2.2.2.1 x.1.1.2.2.2.2.2.1 (fun y0=>C.1 ((y0,()),(()))))
def Bp0(N:Nat):Go.AX.Aak:=Bcx @Ahi N
def Cqt(N:Nat):List (Nat×Ac4):=[(44,Aaa Ajj (Bg2 N)),(20,Aaa Ajk (Bg4 N)),(7,Aaa Aib (A7y N N))]
def B90(N:Nat):List (Nat×Go.AX.Aak):=[(173,A9o N)]
def Adz:Code:=Tryz.f110.body.getD .skip
def Ag5:Aac:=⟨[wq3,Cd0,Cd1,Bbs],Bou⟩
def As3:Aac:=⟨[wq3,Cd0,Cd1],Bou⟩
def Bg5:Ack:=.cons (.exit 0) As3 (.nil)
abbrev A44(R:Type):=Int->(List UInt8)->d3->d2->d1->Int->Int->d0->d0->d0->d0->((List UInt8)->d3->d2->d1->Int->Int->d0->d0->d0->d0->Option R)->Option R
abbrev Bg6(R:Type):=Int->(List UInt8)->d3->d2->d1->Int->Int->d0->d0->d0->d0->Option R
abbrev Amk:={R:Type}→Nat→Nat→A44 R
def Av7{R:Type}(N:Nat)(rc:Bg6 R):A44 R:=fun a d e f g h b i j c l m=>if ((decide (a≤b))=true) then (if (0≤a∧a<len c) then (rc (wi (a+1)) d e f g h b i j (c.set a.toNat (-1)) l) else none) else m d e f g h b i j c l
def Ab9{R:Type}(N:Nat):Nat→A44 R
 |0=>fun _ _ _ _ _ _ _ _ _ _ _ _=>none
 |k+1=>fun a b c d e f g h i j l m=>Av7 N (fun a b c d e f g h i j l=>Ab9 N k a b c d e f g h i j l m) a b c d e f g h i j l m
def Aoq(Ab9:Amk)(N k:Nat):Aao Ag5:=fun R x K=>Ab9 N k x.1.2.2.2.1 x.2.1.1 x.2.1.2.1 x.2.1.2.2.1 x.2.1.2.2.2.1 x.2.1.2.2.2.2.1 x.2.1.2.2.2.2.2.1 x.2.2.2.2.1 x.2.2.2.2.2.1 x.2.2.2.2.2.2.1 x.2.2.2.2.2.2.2.1 (fun y0 y1 y2 y3 y4 y5 y6 y7 y8 y9=>K (.exit 0) (Aab As3 (((),(),(),()),((y0,y1,y2,y3,y4,y5,()),((),(),()),((),(),()),y6,y7,y8,y9,()))))
def A45(N k:Nat):Aao Ag5:=Aoq @Ab9 N k
def Ah1:Aac:=⟨Cjk,Bou⟩
def Axa:Aac:=⟨Cnq,Cjh⟩
def Axb:Aac:=⟨Cjk,Bou⟩
def Bd2:Ack:=.cons .ret Axa (.cons .normal Axb (.nil))
abbrev Bua(R:Type):=Int->Int->(List UInt8)->d3->d2->d1->Int->Int->d0->d0->d0->d0->(Bool->d0->d0->Option R)->(Int->Int->(List UInt8)->d3->d2->d1->Int->Int->d0->d0->d0->d0->Option R)->Option R
abbrev Akc:={R:Type}→Nat→Bua R
def Acd:Akc:=fun {R} N e a g h b i j l m n c f p o=>if (0≤a∧a<len f) then (if (0≤a∧a<len b) then (if (((b.getD a.toNat (0,(0,0))).1==19)=true) then (if (0≤a∧a<len b) then (let d:=(b.getD a.toNat (0,(0,0))).2.1;if (0≤d∧d<len c) then (if ((decide ((c.getD d.toNat 0)≥0))=true) then (p false c (f.set a.toNat e)) else if (0≤a∧a<len b) then (if (0≤d∧d<len c) then (o e a g h b i j l m n (c.set d.toNat a) (f.set a.toNat e)) else none) else none) else none) else none) else o e a g h b i j l m n c (f.set a.toNat e)) else none) else none
def Anj(Acd:Akc)(N:Nat):Aao Ah1:=fun R x K=>Acd N x.1.2.2.2.1 x.1.2.2.2.2.1 x.2.1.1 x.2.1.2.1 x.2.1.2.2.1 x.2.1.2.2.2.1 x.2.1.2.2.2.2.1 x.2.1.2.2.2.2.2.1 x.2.2.2.2.1 x.2.2.2.2.2.1 x.2.2.2.2.2.2.1 x.2.2.2.2.2.2.2.1 (fun y0 y1 y2=>K .ret (Aab Axa (((),y0,()),(((),(),()),y1,y2,())))) (fun y0 y1 y2 y3 y4 y5 y6 y7 y8 y9 y10 y11=>K .normal (Aab Axb (((),(),(),y0,y1,()),((y2,y3,y4,y5,y6,y7,()),((),(),()),((),(),()),y8,y9,y10,y11,()))))
def Bd3(N:Nat):Aao Ah1:=Anj @Acd N
def Age:Aac:=⟨Cjk,Bou⟩
def Are:Aac:=⟨Cnq,Cjh⟩
def Arf:Aac:=⟨[wq3,Cd0,Cd1],Bou⟩
def Bd4:Ack:=.cons .ret Are (.cons (.exit 2) Arf (.nil))
abbrev A1w(R:Type):=Int->Int->(List UInt8)->d3->d2->d1->Int->Int->d0->d0->d0->d0->(Bool->d0->d0->Option R)->((List UInt8)->d3->d2->d1->Int->Int->d0->d0->d0->d0->Option R)->Option R
abbrev Bd5(R:Type):=Int->Int->(List UInt8)->d3->d2->d1->Int->Int->d0->d0->d0->d0->Option R
abbrev Alz:={R:Type}→Nat→Nat→A1w R
def A1x(Acd:Akc){R:Type}(N:Nat)(rc:Bd5 R):A1w R:=fun m a c d b e f g h i j l n o=>if ((decide (a<(len b)))=true) then (if (0≤a∧a<len b) then (if (((b.getD a.toNat (0,(0,0))).1==24)=true) then (Acd N (wi (m+1)) a c d b e f g h i j l (fun p q r=>n p q r) fun s t u v w x y z A B C D=>rc s (wi (t+1)) u v w x y z A B C D) else Acd N m a c d b e f g h i j l (fun E F G=>n E F G) fun H I J L M O P Q S T U V=>rc H (wi (I+1)) J L M O P Q S T U V) else none) else o c d b e f g h i j l
def Abv{R:Type}(N:Nat):Nat→A1w R
 |0=>fun _ _ _ _ _ _ _ _ _ _ _ _ _ _=>none
 |k+1=>fun a b c d e f g h i j l m n o=>A1x @Acd N (fun a b c d e f g h i j l m=>Abv N k a b c d e f g h i j l m n o) a b c d e f g h i j l m n o
def Ank(Abv:Alz)(N k:Nat):Aao Age:=fun R x K=>Abv N k x.1.2.2.2.1 x.1.2.2.2.2.1 x.2.1.1 x.2.1.2.1 x.2.1.2.2.1 x.2.1.2.2.2.1 x.2.1.2.2.2.2.1 x.2.1.2.2.2.2.2.1 x.2.2.2.2.1 x.2.2.2.2.2.1 x.2.2.2.2.2.2.1 x.2.2.2.2.2.2.2.1 (fun y0 y1 y2=>K .ret (Aab Are (((),y0,()),(((),(),()),y1,y2,())))) (fun y0 y1 y2 y3 y4 y5 y6 y7 y8 y9=>K (.exit 2) (Aab Arf (((),(),(),()),((y0,y1,y2,y3,y4,y5,()),((),(),()),((),(),()),y6,y7,y8,y9,()))))
def A1y(N k:Nat):Aao Age:=Ank @Abv N k
def Aws:Code:=Tryz.f174.body.getD .skip
def Aml:Aac:=⟨[wq3,A1p,Cni],A2m⟩
def Azw:Aac:=⟨Bbt,[]⟩
def Azx:Aac:=⟨[],[]⟩
def Bg7:Ack:=.cons .ret Azw (.cons .normal Azx (.nil))
abbrev Bxh(R:Type):=Int->Bool->Int->Int->Int->(Int->Option R)->(Option R)->Option R
abbrev Aq2:={R:Type}→Nat→Bxh R
def Aeb:Aq2:=fun {R} N b c g d e a f=>if (c=true) then (a d) else if ((b==30)=true) then (a e) else f
end
end Q

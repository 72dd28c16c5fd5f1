/- Part D1 of the proof. -/
import Derived.Test.YtamaoomcbegaiaaGreatX7
import Derived.Test.YtamaoomcbegaiaaGreatProg
import Derived.KernelRfl
open Go Go.AX Go.Proofs
namespace Q
noncomputable section
set_option maxRecDepth 100000
set_option linter.unusedVariables false
abbrev z0:Ty:=.pair (.int .i64) (.int .i64)
abbrev z1:Ty:=.list z0
abbrev z2:Ty:=.pair (.int .i64) z0
abbrev z3:Ty:=.list (.pair .str (.pair .bool (.list (.int .i64))))
abbrev z4:Ty:=.list z2
abbrev d0:Type:=List (Int)
abbrev d1:Type:=List ((Int×Int))
abbrev d2:Type:=List ((Int)×(Int))
abbrev d3:Type:=List ((Int)×(Bool))
abbrev d4:Type:=List ((Int×(Int×Int)))
abbrev d5:Type:=List ((List UInt8×(Bool×d0)))
abbrev d6:Type:=List ((List UInt8×(Int×(Int×Int))))
def types:List Nat:=[43,81,23,51,3,78,79,4,28,0,158,29,26,9,22,42,24,114,30,120,119,68,96,103,97,112,98,162,99,228,101,107,55,226,224,192,152,222,155,151,157,153,149,57,94,5,115,104,87,93,91,143,237,233,165,178,139,88,58,36,206,175,136,63,64,45,48,49,202,201,199,2,74,75,130,54,164,167,197,229,169]
def tt:TT:=[(43,(.mk (.ptr 81) 1 8 (.some [(.a .nilptr)]) false)),(81,(.mk (.struct [(0,(1,23)),(1,(1,78)),(2,(1,79)),(3,(1,28))]) 4 64 (.some [(.a .nilsl),(.a .nilmap),(.a .nilmap),(.a .nilsl)]) true)),(23,(.mk (.slice 51) 1 24 (.some [(.a .nilsl)]) false)),(51,(.mk (.struct [(0,(1,3)),(1,(1,3)),(2,(1,3))]) 3 24 (.some [(.a (.val (.int .i64) ((0:Int):Int))),(.a (.val (.int .i64) ((0:Int):Int))),(.a (.val (.int .i64) ((0:Int):Int)))]) true)),(3,(.mk (.int .i64) 1 8 (.some [(.a (.val (.int .i64) ((0:Int):Int)))]) false)),(78,(.mk (.map 3 3) 1 8 (.some [(.a .nilmap)]) false)),(79,(.mk (.map 3 4) 1 8 (.some [(.a .nilmap)]) false)),(4,(.mk .bool 1 1 (.some [(.a (.val .bool (false:Bool)))]) false)),(28,(.mk (.slice 3) 1 24 (.some [(.a .nilsl)]) false)),(0,(.mk .other 1 0 (.some [(.a .undef)]) false)),(158,(.mk .other 1 0 (.some [(.a .undef)]) false)),(29,(.mk (.int .i64) 1 8 (.some [(.a (.val (.int .i64) ((0:Int):Int)))]) false)),(26,(.mk (.struct [(0,(1,9)),(1,(1,22)),(2,(1,23)),(3,(1,24)),(4,(1,3)),(5,(1,3))]) 6 104 (.some [(.a (.val .str (([]:List UInt8):List UInt8))),(.a .nilsl),(.a .nilsl),(.a .nilsl),(.a (.val (.int .i64) ((0:Int):Int))),(.a (.val (.int .i64) ((0:Int):Int)))]) true)),(9,(.mk .str 1 16 (.some [(.a (.val .str (([]:List UInt8):List UInt8)))]) false)),(22,(.mk (.slice 42) 1 24 (.some [(.a .nilsl)]) false)),(42,(.mk (.struct [(0,(1,9)),(1,(1,4)),(2,(1,28))]) 3 48 (.some [(.a (.val .str (([]:List UInt8):List UInt8))),(.a (.val .bool (false:Bool))),(.a .nilsl)]) true)),(24,(.mk (.slice 114) 1 24 (.some [(.a .nilsl)]) false)),(114,(.mk (.struct [(0,(1,3)),(1,(1,3))]) 2 16 (.some [(.a (.val (.int .i64) ((0:Int):Int))),(.a (.val (.int .i64) ((0:Int):Int)))]) true)),(30,(.mk .other 1 0 (.some [(.a .undef)]) false)),(120,(.mk .other 1 0 (.some [(.a .undef)]) false)),(119,(.mk (.ptr 51) 1 8 (.some [(.a .nilptr)]) false)),(68,(.mk .other 1 0 (.some [(.a .undef)]) false)),(96,(.mk (.ptr 103) 1 8 (.some [(.a .nilptr)]) false)),(103,(.mk (.struct [(0,(6,26)),(6,(1,97)),(7,(1,3)),(8,(1,3)),(9,(1,98)),(10,(1,99)),(11,(4,101)),(15,(1,28)),(16,(1,3))]) 17 256 (.some [(.a (.val .str (([]:List UInt8):List UInt8))),(.a .nilsl),(.a .nilsl),(.a .nilsl),(.a (.val (.int .i64) ((0:Int):Int))),(.a (.val (.int .i64) ((0:Int):Int))),(.a .nilsl),(.a (.val (.int .i64) ((0:Int):Int))),(.a (.val (.int .i64) ((0:Int):Int))),(.a .nilsl),(.a .nilsl),(.a (.val (.int .i64) ((0:Int):Int))),(.a (.val (.int .i64) ((0:Int):Int))),(.a (.val (.int .i64) ((0:Int):Int))),(.a (.val (.int .i64) ((0:Int):Int))),(.a .nilsl),(.a (.val (.int .i64) ((0:Int):Int)))]) true)),(97,(.mk (.slice 112) 1 24 (.some [(.a .nilsl)]) false)),(112,(.mk (.struct [(0,(1,9)),(1,(1,3)),(2,(1,3)),(3,(1,3))]) 4 40 (.some [(.a (.val .str (([]:List UInt8):List UInt8))),(.a (.val (.int .i64) ((0:Int):Int))),(.a (.val (.int .i64) ((0:Int):Int))),(.a (.val (.int .i64) ((0:Int):Int)))]) true)),(98,(.mk (.slice 162) 1 24 (.some [(.a .nilsl)]) false)),(162,(.mk (.struct [(0,(1,9)),(1,(1,3))]) 2 24 (.some [(.a (.val .str (([]:List UInt8):List UInt8))),(.a (.val (.int .i64) ((0:Int):Int)))]) true)),(99,(.mk (.slice 228) 1 24 (.some [(.a .nilsl)]) false)),(228,(.mk (.struct [(0,(1,9)),(1,(1,3))]) 2 24 (.some [(.a (.val .str (([]:List UInt8):List UInt8))),(.a (.val (.int .i64) ((0:Int):Int)))]) true)),(101,(.mk (.struct [(0,(1,3)),(1,(1,3)),(2,(1,3)),(3,(1,3))]) 4 32 (.some [(.a (.val (.int .i64) ((0:Int):Int))),(.a (.val (.int .i64) ((0:Int):Int))),(.a (.val (.int .i64) ((0:Int):Int))),(.a (.val (.int .i64) ((0:Int):Int)))]) true)),(107,(.mk (.struct [(0,(1,3)),(1,(1,3)),(2,(1,9)),(3,(1,55)),(4,(1,3))]) 5 64 (.some [(.a (.val (.int .i64) ((0:Int):Int))),(.a (.val (.int .i64) ((0:Int):Int))),(.a (.val .str (([]:List UInt8):List UInt8))),(.a .nilsl),(.a (.val (.int .i64) ((0:Int):Int)))]) true)),(55,(.mk (.slice 107) 1 24 (.some [(.a .nilsl)]) false)),(226,(.mk .other 1 0 (.some [(.a .undef)]) false)),(224,(.mk .other 1 0 (.some [(.a .undef)]) false)),(192,(.mk .other 1 0 (.some [(.a .undef)]) false)),(152,(.mk (.slice 9) 1 24 (.some [(.a .nilsl)]) false)),(222,(.mk .other 1 0 (.some [(.a .undef)]) false)),(155,(.mk (.struct [(0,(1,151)),(1,(1,3)),(2,(1,4)),(3,(1,152)),(4,(1,153)),(5,(1,3)),(6,(1,4)),(7,(1,4)),(8,(1,4)),(9,(1,28)),(10,(1,4)),(11,(1,29)),(12,(1,3))]) 13 152 (.some [(.a .nilsl),(.a (.val (.int .i64) ((0:Int):Int))),(.a (.val .bool (false:Bool))),(.a .nilsl),(.a .nilsl),(.a (.val (.int .i64) ((0:Int):Int))),(.a (.val .bool (false:Bool))),(.a (.val .bool (false:Bool))),(.a (.val .bool (false:Bool))),(.a .nilsl),(.a (.val .bool (false:Bool))),(.a (.val (.int .i64) ((0:Int):Int))),(.a (.val (.int .i64) ((0:Int):Int)))]) true)),(151,(.mk (.slice 157) 1 24 (.some [(.a .nilsl)]) false)),(157,(.mk (.struct [(0,(1,9)),(1,(1,3)),(2,(1,3)),(3,(5,107))]) 8 96 (.some [(.a (.val .str (([]:List UInt8):List UInt8))),(.a (.val (.int .i64) ((0:Int):Int))),(.a (.val (.int .i64) ((0:Int):Int))),(.a (.val (.int .i64) ((0:Int):Int))),(.a (.val (.int .i64) ((0:Int):Int))),(.a (.val .str (([]:List UInt8):List UInt8))),(.a .nilsl),(.a (.val (.int .i64) ((0:Int):Int)))]) true)),(153,(.mk (.slice 152) 1 24 (.some [(.a .nilsl)]) false)),(149,(.mk (.ptr 155) 1 8 (.some [(.a .nilptr)]) false)),(57,(.mk (.struct [(0,(1,9)),(1,(1,55))]) 2 40 (.some [(.a (.val .str (([]:List UInt8):List UInt8))),(.a .nilsl)]) true)),(94,(.mk .other 1 0 (.some [(.a .undef)]) false)),(5,(.mk (.int .u8) 1 1 (.some [(.a (.val (.int .u8) ((0:Int):Int)))]) false)),(115,(.mk .other 1 0 (.some [(.a .undef)]) false)),(104,(.mk .other 1 0 (.some [(.a .undef)]) false)),(87,(.mk (.ptr 93) 1 8 (.some [(.a .nilptr)]) false)),(93,(.mk (.struct [(0,(1,91)),(1,(1,3)),(2,(1,29)),(3,(1,3)),(4,(1,3)),(5,(1,3))]) 6 64 (.some [(.a .nilsl),(.a (.val (.int .i64) ((0:Int):Int))),(.a (.val (.int .i64) ((0:Int):Int))),(.a (.val (.int .i64) ((0:Int):Int))),(.a (.val (.int .i64) ((0:Int):Int))),(.a (.val (.int .i64) ((0:Int):Int)))]) true)),(91,(.mk (.slice 143) 1 24 (.some [(.a .nilsl)]) false)),(143,(.mk (.struct [(0,(1,3)),(1,(1,9)),(2,(1,3)),(3,(1,3))]) 4 40 (.some [(.a (.val (.int .i64) ((0:Int):Int))),(.a (.val .str (([]:List UInt8):List UInt8))),(.a (.val (.int .i64) ((0:Int):Int))),(.a (.val (.int .i64) ((0:Int):Int)))]) true)),(237,(.mk (.slice 28) 1 24 (.some [(.a .nilsl)]) false)),(233,(.mk .other 1 0 (.some [(.a .undef)]) false)),(165,(.mk (.slice 5) 1 24 (.some [(.a .nilsl)]) false)),(178,(.mk .other 1 0 (.some [(.a .undef)]) false)),(139,(.mk .other 1 0 (.some [(.a .undef)]) false)),(88,(.mk .other 1 0 (.some [(.a .undef)]) false)),(58,(.mk .other 1 0 (.some [(.a .undef)]) false)),(36,(.mk .other 1 0 (.some [(.a .undef)]) false)),(206,(.mk (.arr 4 3) 4 32 (.some [(.a (.val (.int .i64) ((0:Int):Int))),(.a (.val (.int .i64) ((0:Int):Int))),(.a (.val (.int .i64) ((0:Int):Int))),(.a (.val (.int .i64) ((0:Int):Int)))]) false)),(175,(.mk .other 1 0 (.some [(.a .undef)]) false)),(136,(.mk .other 1 0 (.some [(.a .undef)]) false)),(63,(.mk (.struct [(0,(1,28)),(1,(1,28))]) 2 48 (.some [(.a .nilsl),(.a .nilsl)]) true)),(64,(.mk .other 1 0 (.some [(.a .undef)]) false)),(45,(.mk (.slice 48) 1 24 (.some [(.a .nilsl)]) false)),(48,(.mk .func 1 8 (.some [(.a .nilfn)]) false)),(49,(.mk .func 1 8 (.some [(.a .nilfn)]) false)),(202,(.mk (.slice 201) 1 24 (.some [(.a .nilsl)]) false)),(201,(.mk (.struct [(0,(1,199))]) 1 8 (.some [(.a .nilfn)]) true)),(199,(.mk .func 1 8 (.some [(.a .nilfn)]) false)),(2,(.mk (.int .i64) 1 8 (.some [(.a (.val (.int .i64) ((0:Int):Int)))]) false)),(74,(.mk (.struct [(0,(1,9)),(1,(1,3)),(2,(1,3)),(3,(1,3))]) 4 40 (.some [(.a (.val .str (([]:List UInt8):List UInt8))),(.a (.val (.int .i64) ((0:Int):Int))),(.a (.val (.int .i64) ((0:Int):Int))),(.a (.val (.int .i64) ((0:Int):Int)))]) true)),(75,(.mk (.arr 31 74) 124 1240 (.some [(.a (.val .str (([]:List UInt8):List UInt8))),(.a (.val (.int .i64) ((0:Int):Int))),(.a (.val (.int .i64) ((0:Int):Int))),(.a (.val (.int .i64) ((0:Int):Int))),(.a (.val .str (([]:List UInt8):List UInt8))),(.a (.val (.int .i64) ((0:Int):Int))),(.a (.val (.int .i64) ((0:Int):Int))),(.a (.val (.int .i64) ((0:Int):Int))),(.a (.val .str (([]:List UInt8):List UInt8))),(.a (.val (.int .i64) ((0:Int):Int))),(.a (.val (.int .i64) ((0:Int):Int))),(.a (.val (.int .i64) ((0:Int):Int))),(.a (.val .str (([]:List UInt8):List UInt8))),(.a (.val (.int .i64) ((0:Int):Int))),(.a (.val (.int .i64) ((0:Int):Int))),(.a (.val (.int .i64) ((0:Int):Int))),(.a (.val .str (([]:List UInt8):List UInt8))),(.a (.val (.int .i64) ((0:Int):Int))),(.a (.val (.int .i64) ((0:Int):Int))),(.a (.val (.int .i64) ((0:Int):Int))),(.a (.val .str (([]:List UInt8):List UInt8))),(.a (.val (.int .i64) ((0:Int):Int))),(.a (.val (.int .i64) ((0:Int):Int))),(.a (.val (.int .i64) ((0:Int):Int))),(.a (.val .str (([]:List UInt8):List UInt8))),(.a (.val (.int .i64) ((0:Int):Int))),(.a (.val (.int .i64) ((0:Int):Int))),(.a (.val (.int .i64) ((0:Int):Int))),(.a (.val .str (([]:List UInt8):List UInt8))),(.a (.val (.int .i64) ((0:Int):Int))),(.a (.val (.int .i64) ((0:Int):Int))),(.a (.val (.int .i64) ((0:Int):Int))),(.a (.val .str (([]:List UInt8):List UInt8))),(.a (.val (.int .i64) ((0:Int):Int))),(.a (.val (.int .i64) ((0:Int):Int))),(.a (.val (.int .i64) ((0:Int):Int))),(.a (.val .str (([]:List UInt8):List UInt8))),(.a (.val (.int .i64) ((0:Int):Int))),(.a (.val (.int .i64) ((0:Int):Int))),(.a (.val (.int .i64) ((0:Int):Int))),(.a (.val .str (([]:List UInt8):List UInt8))),(.a (.val (.int .i64) ((0:Int):Int))),(.a (.val (.int .i64) ((0:Int):Int))),(.a (.val (.int .i64) ((0:Int):Int))),(.a (.val .str (([]:List UInt8):List UInt8))),(.a (.val (.int .i64) ((0:Int):Int))),(.a (.val (.int .i64) ((0:Int):Int))),(.a (.val (.int .i64) ((0:Int):Int))),(.a (.val .str (([]:List UInt8):List UInt8))),(.a (.val (.int .i64) ((0:Int):Int))),(.a (.val (.int .i64) ((0:Int):Int))),(.a (.val (.int .i64) ((0:Int):Int))),(.a (.val .str (([]:List UInt8):List UInt8))),(.a (.val (.int .i64) ((0:Int):Int))),(.a (.val (.int .i64) ((0:Int):Int))),(.a (.val (.int .i64) ((0:Int):Int))),(.a (.val .str (([]:List UInt8):List UInt8))),(.a (.val (.int .i64) ((0:Int):Int))),(.a (.val (.int .i64) ((0:Int):Int))),(.a (.val (.int .i64) ((0:Int):Int))),(.a (.val .str (([]:List UInt8):List UInt8))),(.a (.val (.int .i64) ((0:Int):Int))),(.a (.val (.int .i64) ((0:Int):Int))),(.a (.val (.int .i64) ((0:Int):Int))),(.a (.val .str (([]:List UInt8):List UInt8))),(.a (.val (.int .i64) ((0:Int):Int))),(.a (.val (.int .i64) ((0:Int):Int))),(.a (.val (.int .i64) ((0:Int):Int))),(.a (.val .str (([]:List UInt8):List UInt8))),(.a (.val (.int .i64) ((0:Int):Int))),(.a (.val (.int .i64) ((0:Int):Int))),(.a (.val (.int .i64) ((0:Int):Int))),(.a (.val .str (([]:List UInt8):List UInt8))),(.a (.val (.int .i64) ((0:Int):Int))),(.a (.val (.int .i64) ((0:Int):Int))),(.a (.val (.int .i64) ((0:Int):Int))),(.a (.val .str (([]:List UInt8):List UInt8))),(.a (.val (.int .i64) ((0:Int):Int))),(.a (.val (.int .i64) ((0:Int):Int))),(.a (.val (.int .i64) ((0:Int):Int))),(.a (.val .str (([]:List UInt8):List UInt8))),(.a (.val (.int .i64) ((0:Int):Int))),(.a (.val (.int .i64) ((0:Int):Int))),(.a (.val (.int .i64) ((0:Int):Int))),(.a (.val .str (([]:List UInt8):List UInt8))),(.a (.val (.int .i64) ((0:Int):Int))),(.a (.val (.int .i64) ((0:Int):Int))),(.a (.val (.int .i64) ((0:Int):Int))),(.a (.val .str (([]:List UInt8):List UInt8))),(.a (.val (.int .i64) ((0:Int):Int))),(.a (.val (.int .i64) ((0:Int):Int))),(.a (.val (.int .i64) ((0:Int):Int))),(.a (.val .str (([]:List UInt8):List UInt8))),(.a (.val (.int .i64) ((0:Int):Int))),(.a (.val (.int .i64) ((0:Int):Int))),(.a (.val (.int .i64) ((0:Int):Int))),(.a (.val .str (([]:List UInt8):List UInt8))),(.a (.val (.int .i64) ((0:Int):Int))),(.a (.val (.int .i64) ((0:Int):Int))),(.a (.val (.int .i64) ((0:Int):Int))),(.a (.val .str (([]:List UInt8):List UInt8))),(.a (.val (.int .i64) ((0:Int):Int))),(.a (.val (.int .i64) ((0:Int):Int))),(.a (.val (.int .i64) ((0:Int):Int))),(.a (.val .str (([]:List UInt8):List UInt8))),(.a (.val (.int .i64) ((0:Int):Int))),(.a (.val (.int .i64) ((0:Int):Int))),(.a (.val (.int .i64) ((0:Int):Int))),(.a (.val .str (([]:List UInt8):List UInt8))),(.a (.val (.int .i64) ((0:Int):Int))),(.a (.val (.int .i64) ((0:Int):Int))),(.a (.val (.int .i64) ((0:Int):Int))),(.a (.val .str (([]:List UInt8):List UInt8))),(.a (.val (.int .i64) ((0:Int):Int))),(.a (.val (.int .i64) ((0:Int):Int))),(.a (.val (.int .i64) ((0:Int):Int))),(.a (.val .str (([]:List UInt8):List UInt8))),(.a (.val (.int .i64) ((0:Int):Int))),(.a (.val (.int .i64) ((0:Int):Int))),(.a (.val (.int .i64) ((0:Int):Int))),(.a (.val .str (([]:List UInt8):List UInt8))),(.a (.val (.int .i64) ((0:Int):Int))),(.a (.val (.int .i64) ((0:Int):Int))),(.a (.val (.int .i64) ((0:Int):Int)))]) false)),(130,(.mk .other 1 0 (.some [(.a .undef)]) false)),(54,(.mk .func 1 8 (.some [(.a .nilfn)]) false)),(164,(.mk (.ptr 167) 1 8 (.some [(.a .nilptr)]) false)),(167,(.mk (.struct [(0,(1,164)),(1,(1,165))]) 2 32 (.some [(.a .nilptr),(.a .nilsl)]) true)),(197,(.mk (.ptr 5) 1 8 (.some [(.a .nilptr)]) false)),(229,(.mk .other 1 8 (.some [(.a .nilptr)]) false)),(169,(.mk .iface 1 16 (.some [(.a .nilif)]) false))]
abbrev nK(R:Type):ASt→(Ex→ASt→Option R)→Option R:=fun _ _=>none
abbrev wq0:Are:=(.val (.int .i64))
abbrev wq1:Nat×Ac4:=(0,.one (.ptr 0))
abbrev wq2:Nat×Ac4:=(1,.one (.ptr 0))
abbrev wq3:Nat×Ac4:=(2,.one (.ptr 4))
abbrev wq4:Nat×Ac4:=(2,.one (.ptr 32))
abbrev wq5:Nat×Ac4:=(4,.one (.ptr 32))
abbrev wq6:Nat×Ac4:=(3,.one (.ptr 32))
abbrev wq7:Nat×Ac4:=(1,.one (.ptr 32))
abbrev wq8:Nat×Ac4:=(0,.one (.slf 32))
abbrev wq9:Nat×Ac4:=(0,.one (.val z4))
abbrev C8a:Nat×Ac4:=(8,.one (.slf 32))
abbrev C13:Nat×Ac4:=(5,.one (.ptr 32))
abbrev C8b:Nat×Ac4:=(6,.one (.slf 32))
abbrev C14:Nat×Ac4:=(3,.one (.ptr 33))
abbrev C15:Nat×Ac4:=(2,.one (.ptr 33))
abbrev C16:Nat×Ac4:=(4,.one (.ptr 34))
abbrev Ded:Nat×Ac4:=(4,.one (.slf 32))
abbrev Dee:Nat×Ac4:=(6,.one (.val z4))
abbrev Def:Nat×Ac4:=(7,.one (.slf 33))
abbrev Dmk:Nat×Ac4:=(9,.one (.ptr 34))
abbrev Dml:List Are:=[(.ptr 0),(.slf 1)]
abbrev Deg:Nat×Ac4:=(80,.one (.val z4))
abbrev Deh:Nat×Ac4:=(17,.one (.val z4))
abbrev Dei:Nat×Ac4:=(15,.one (.val z4))
abbrev Dkh:List Are:=[wq0]
abbrev B9p:Nat×Ac4:=(0,.one (.val .str))
abbrev C8c:Nat×Ac4:=(5,.one (.ptr 1000))
abbrev C17:List (Nat×Ac4):=[wq7]
abbrev Csi:List (Nat×Ac4):=[wq6]
abbrev Dej:Nat×Ac4:=(0,.one (.val .bool))
abbrev Dki:Nat×Afi:=(1,.row 5 (.int .u8))
abbrev Dek:Nat×Ac4:=(7,.one (.val .bool))
abbrev Del:Nat×Ac4:=(6,.one (.val .bool))
abbrev Dkj:Nat×Ac4:=(2,.one (.val .bool))
abbrev Dem:Nat×Ac4:=(4,.one (.val .bool))
abbrev Den:Nat×Ac4:=(5,.one (.val .bool))
abbrev C18:Nat×Ac4:=(3,.one (.val .bool))
abbrev C19:Nat×Ac4:=(8,.one (.val .bool))
abbrev Dmm:List Are:=[(.slf 35),(.slf 36)]
abbrev Dmn:List Are:=[(.slf 37),(.slf 38)]
abbrev Dmo:List Are:=[(.slf 33),(.slf 34)]
abbrev C8d:Nat×Ac4:=(10,.one (.val .bool))
abbrev Agj:List (Nat×Ac4):=[Dej]
abbrev Bbu:List (Nat×Ac4):=[Dkj]
abbrev Cie:Nat×Afi:=(33,.row 3 (.int .i64))
abbrev C2a:Nat×Afi:=(34,.row 3 (.int .i64))
abbrev Csj:Nat×Afi:=(32,.row 3 (.int .i64))
abbrev A1z:List (Nat×Ac4):=[Dem]
abbrev Dkk:Nat×Afi:=(35,.row 3 (.int .i64))
abbrev Dkl:Nat×Afi:=(36,.row 3 (.int .i64))
abbrev Dkm:Nat×Afi:=(37,.row 3 (.int .i64))
abbrev Dmp:Nat×Afi:=(38,.row 3 (.int .i64))
abbrev Dmq:Nat×Afi:=(0,.cells 43 [(.ptr 1)])
abbrev Dmr:Nat×Afi:=(1,.cells 43 [(.ptr 2)])
abbrev Blj:Are:=(.val (.list (.int .i64)))
abbrev B9q:List (Nat×Afi):=[Csj]
abbrev Deo:Nat×Ac4:=(1,.one (.fnp 19 [1,5]))
abbrev Akb:Nat×Ac4:=(1,.one wq0)
abbrev Axt:Nat×Ac4:=(5,.one wq0)
abbrev Bbv:Nat×Ac4:=(6,.one wq0)
abbrev A10:Nat×Ac4:=(3,.one wq0)
abbrev Bbw:Nat×Ac4:=(0,.one wq0)
abbrev Bha:Nat×Ac4:=(2,.one wq0)
abbrev B37:Nat×Ac4:=(9,.one wq0)
abbrev Bt7:Nat×Ac4:=(7,.one wq0)
abbrev Bt8:Nat×Ac4:=(8,.one wq0)
abbrev Bt9:Nat×Ac4:=(4,.one wq0)
abbrev Cif:Nat×Ac4:=(10,.one wq0)
abbrev Csk:Nat×Ac4:=(11,.one wq0)
abbrev C8e:Nat×Ac4:=(19,.one wq0)
abbrev Dep:Nat×Ac4:=(81,.one wq0)
abbrev Deq:Nat×Ac4:=(82,.one wq0)
abbrev C8f:Nat×Ac4:=(18,.one wq0)
abbrev Der:Nat×Ac4:=(16,.one wq0)
abbrev Des:Nat×Ac4:=(17,.one wq0)
abbrev C8g:Nat×Ac4:=(40,.one wq0)
abbrev Det:List (Nat×Ac4):=[A10]
abbrev Aio:List (Nat×Ac4):=[Bbw]
abbrev B38:List (Nat×Ac4):=[Bt9]
abbrev C2b:List (Nat×Ac4):=[Bha]
abbrev C8h:List (Nat×Ac4):=[Akb]
abbrev C2c:Nat×Afi:=(1000,.row 75 (.pair .str z2))
abbrev Deu:Nat×Afi:=(2,.amap 79 (.int .i64) .bool)
abbrev Dms:Nat×Afi:=(3,.amap 79 (.int .i64) .bool)
abbrev Dmt:Nat×Afi:=(4,.amap 79 (.int .i64) .bool)
abbrev Dmu:Nat×Afi:=(34,.amap 79 (.int .i64) .bool)
abbrev Dmv:Nat×Afi:=(4,.cells 3 Dkh)
abbrev Dmw:Nat×Afi:=(5,.cells 3 Dkh)
abbrev Dmx:Nat×Afi:=(0,.cells 167 Dml)
abbrev Cig:Nat×Ac4:=(0,.one Blj)
abbrev Dev:Nat×Ac4:=(1,.one Blj)
abbrev Dew:Nat×Afi:=(1,.amap 78 (.int .i64) (.int .i64))
abbrev Dmy:Nat×Afi:=(2,.amap 78 (.int .i64) (.int .i64))
abbrev Dmz:Nat×Afi:=(3,.amap 78 (.int .i64) (.int .i64))
abbrev Dm0:Nat×Afi:=(33,.amap 78 (.int .i64) (.int .i64))
abbrev Dm1:Nat×Afi:=(33,.cells 63 Dmm)
abbrev Dm2:Nat×Afi:=(34,.cells 63 Dmn)
abbrev Dm3:Nat×Afi:=(32,.cells 63 Dmo)
abbrev Dex:List (Nat×Ac4):=[wq4,C18]
abbrev Bua:List (Nat×Ac4):=[wq1,Akb]
abbrev Cz2:List (Nat×Ac4):=[wq1,Axt]
abbrev C8i:List (Nat×Ac4):=[wq9,A10]
abbrev A6g:List (Nat×Ac4):=[wq9,Akb]
abbrev Cz3:List (Nat×Ac4):=[wq8,Akb]
abbrev C8j:List (Nat×Ac4):=[wq7,A10]
abbrev C8k:List (Nat×Ac4):=[wq9,Axt]
abbrev Bar:List (Nat×Afi):=[Csj,Cie]
abbrev Dlw:List Are:=[(.val z4),(.mp 1),(.mp 2),Blj]
abbrev Dlx:List Are:=[(.val z4),(.mp 2),(.mp 3),Blj]
abbrev Dly:List Are:=[(.val z4),(.mp 3),(.mp 4),Blj]
abbrev Dlz:List Are:=[(.val z4),(.mp 33),(.mp 34),Blj]
abbrev Cn5:List Are:=[wq0,wq0,wq0]
abbrev Bs3:List (Nat×Ac4):=[Bbw,Akb]
abbrev C8l:List (Nat×Afi):=[Dmx,Dki]
abbrev Cef:Nat×Ac4:=(0,.agg Cn5)
abbrev Cz4:List (Nat×Ac4):=[Cef]
abbrev C8m:Nat×Afi:=(0,.cells 81 Dlw)
abbrev Dl0:Nat×Afi:=(1,.cells 81 Dlx)
abbrev Dl1:Nat×Afi:=(2,.cells 81 Dly)
abbrev C8n:List Are:=[(.val .str),wq0,wq0,wq0]
abbrev Dl2:Nat×Afi:=(32,.cells 81 Dlz)
abbrev Cz5:Nat×Afi:=(32,.cells 51 Cn5)
abbrev Dl3:Nat×Afi:=(34,.cells 51 Cn5)
abbrev C8o:Nat×Afi:=(33,.cells 51 Cn5)
abbrev Bas:List (Nat×Afi):=[Cz5]
abbrev Cz6:List (Nat×Ac4):=[wq9,Akb,Axt]
abbrev C8p:Nat×Ac4:=(2,.agg C8n)
abbrev Cz7:List Are:=[(.val .str),(.val z3),(.val z4),(.val z1),wq0,wq0]
abbrev Dl4:Nat×Afi:=(33,.cells 74 C8n)
abbrev Ard:List (Nat×Ac4):=[Bbw,Akb,Bha]
abbrev C8q:List (Nat×Afi):=[Dm3,Cie,C2a]
abbrev B39:List (Nat×Ac4):=[Ded,Dee,Def,Bt8]
abbrev Dl5:Nat×Afi:=(0,.cells 48 [(.fn 47),(.fn 48),(.fn 49),(.fn 50),(.fn 51),(.fn 52),(.fn 53),(.fn 54)])
abbrev Cz8:Nat×Ac4:=(0,.agg Cz7)
abbrev A2u:List (Nat×Ac4):=[Cz8]
abbrev Bdi:Nat×Afi:=(32,.cells 26 Cz7)
abbrev C8r:List (Nat×Ac4):=[wq7,(5,.one (.slf 33)),Bbv,Bt7]
abbrev Axb:List (Nat×Afi):=[Bdi]
abbrev B4a:List (Nat×Ac4):=[Bbw,Akb,Bha,A10]
abbrev C8s:List (Nat×Ac4):=[wq7,C15,C16,Bbv,Bt7]
abbrev Ceg:List (Nat×Afi):=[Csj,Cie,Dl3]
abbrev C8t:List (Nat×Afi):=[Bdi,Cie]
abbrev Cn6:List (Nat×Ac4):=[Ded,Dee,Def,Bt8,Dmk,C8d]
abbrev C8u:List (Nat×Ac4):=[wq7,A10,Bt9,Axt,Bbv]
abbrev Al1:List (Nat×Afi):=[C8m,Dew,Deu]
abbrev Cz9:List (Nat×Afi):=[Dl2,Dm0,Dmu]
abbrev C8v:List (Nat×Afi):=[Cz5,Dl4]
abbrev Ceh:List (Nat×Afi):=[Bdi,C8o]
abbrev A0m:List (Nat×Afi):=[Dmq,Dl0,Dmy,Dms,Dmv]
abbrev B4b:List (Nat×Afi):=[Bdi,Dm1,Dm2,Dkk,Dkl,Dkm,Dmp]
abbrev B4c:List (Nat×Afi):=[Dl5,Dmr,Dl1,Dmz,Dmt,Dmw]
def Brn:Code:=Tryz.f3.body.getD .skip
def Ap1:Code:=Tryz.f5.body.getD .skip
def Akk:Aac:=⟨[Akb,wq4,Axt,Bbv],Axb⟩
def At9:Aac:=⟨[Akb,wq4,Axt],Axb⟩
def Bj7:Ac8:=.cons (.exit 0) At9 (.nil)
abbrev A48(R:Type):=Int->Int->Int->(List UInt8)->d5->d4->d1->Int->Int->(Int->Int->(List UInt8)->d5->d4->d1->Int->Int->Option R)->Option R
abbrev Bj8(R:Type):=Int->Int->Int->(List UInt8)->d5->d4->d1->Int->Int->Option R
abbrev Axc:={R:Type}→Nat→Nat→A48 R
def A49{R:Type}(N:Nat)(rc:Bj8 R):A48 R:=fun d c a e b f g h i j=>if ((decide (a<(len b)))=true) then (if ((decide (c≤2000))=true) then (if (0≤a∧a<len b) then (if (0≤a∧a<len b) then (rc d (wi ((wi ((wi (c+1))+(((List.length (b.getD a.toNat (([]:List UInt8),(false,([]:List Int)))).1):Nat):Int)))+(((List.length (b.getD a.toNat (([]:List UInt8),(false,([]:List Int)))).2.2):Nat):Int))) (wi (a+1)) e b f g h i) else none) else none) else j d c e b f g h i) else j d c e b f g h i
def Aex{R:Type}(N:Nat):Nat→A48 R
 |0=>fun _ _ _ _ _ _ _ _ _ _=>none
 |k+1=>fun a b c d e f g h i j=>A49 N (fun a b c d e f g h i=>Aex N k a b c d e f g h i j) a b c d e f g h i j
def A5a(Aex:Axc)(N k:Nat):Aar Akk:=fun R x K=>Aex N k x.1.1 x.1.2.2.1 x.1.2.2.2.1 x.2.1.1 x.2.1.2.1 x.2.1.2.2.1 x.2.1.2.2.2.1 x.2.1.2.2.2.2.1 x.2.1.2.2.2.2.2.1 (fun y0 y1 y2 y3 y4 y5 y6 y7=>K (.exit 0) (Aab At9 ((y0,(),y1,()),((y2,y3,y4,y5,y6,y7,()),()))))
def A5b(N k:Nat):Aar Akk:=A5a @Aex N k
def Bbx:Aac:=⟨[Cz8,Akb],[]⟩
def Axd:Aac:=⟨Agj,[]⟩
abbrev Cep(R:Type):=(List UInt8)->d5->d4->d1->Int->Int->Int->(Bool->Option R)->Option R
abbrev Avg:={R:Type}→Nat→Cep R
def Bby(Aex:Axc):Avg:=fun {R} N b c d e f g h a=>Aex N N h (len b) 0 b c d e f g fun i j n o l m p q=>if ((decide ((len l) > i))=true) then (a true) else if ((decide ((len m) > 400))=true) then (a true) else a (decide (j > 2000))
def Aiq:Avg:=@Bby @Aex
def Dcx(N:Nat):Aa0 Bbx [Axd]:=fun R x C=>Aiq N x.1.1.1 x.1.1.2.1 x.1.1.2.2.1 x.1.1.2.2.2.1 x.1.1.2.2.2.2.1 x.1.1.2.2.2.2.2.1 x.1.2.1 (fun y0=>C.1 ((y0,()),(())))
def Bro(Aiq:Avg)(N:Nat):Go.AX.Aae:=Aa9 [true,true] [] false 2 0 Bbx [Axd] (fun R x C=>Aiq N x.1.1.1 x.1.1.2.1 x.1.1.2.2.1 x.1.1.2.2.2.1 x.1.1.2.2.2.2.1 x.1.1.2.2.2.2.2.1 x.1.2.1 (fun y0=>C.1 ((y0,()),(()))))
def Brp(N:Nat):Go.AX.Aae:=Bro @Aiq N
def Dcy(N:Nat):List (Nat×Abu):=[(7,Aaa Akk (A5b N N))]
def Ceq(N:Nat):List (Nat×Go.AX.Aae):=[]
def A0d:Code:=Tryz.f6.body.getD .skip
def Amx:Code:=Tryz.f15.body.getD .skip
def B4y:Code:=Tryz.f14.body.getD .skip
def Au2:Code:=Tryz.f41.body.getD .skip
def Amb:Aac:=⟨[A10,(27,.one (.val z3)),(28,.one wq0),(29,.one wq0)],[]⟩
def Aye:Aac:=⟨Det,[]⟩
def Bub:Ac8:=.cons (.exit 0) Aye (.nil)
abbrev Bd2(R:Type):=Int->d5->Int->Int->(Int->Option R)->Option R
abbrev Buc(R:Type):=Int->d5->Int->Int->Option R
abbrev A2v:={R:Type}→Nat→Nat→Bd2 R
def A2w{R:Type}(N:Nat)(rc:Buc R):Bd2 R:=fun d b c a f=>if ((decide (a<c))=true) then (if (0≤a∧a<len b) then (let e:=(wi (d+(((List.length (b.getD a.toNat (([]:List UInt8),(false,([]:List Int)))).2.2):Nat):Int)));if ((b.getD a.toNat (([]:List UInt8),(false,([]:List Int)))).2.1=true) then (rc (wi (e+(wi (Int.tdiv (wi ((((List.length (b.getD a.toNat (([]:List UInt8),(false,([]:List Int)))).1):Nat):Int)+2)) 2)))) b c (wi (a+1))) else rc e b c (wi (a+1))) else none) else f d
def Afz{R:Type}(N:Nat):Nat→Bd2 R
 |0=>fun _ _ _ _ _=>none
 |k+1=>fun a b c d e=>A2w N (fun a b c d=>Afz N k a b c d e) a b c d e
def Bd3(Afz:A2v)(N k:Nat):Aar Amb:=fun R x K=>Afz N k x.1.1 x.1.2.1 x.1.2.2.1 x.1.2.2.2.1 (fun y0=>K (.exit 0) (Aab Aye ((y0,()),(()))))
def Bd4(N k:Nat):Aar Amb:=Bd3 @Afz N k
def Bpe:Aac:=⟨A2u,[]⟩
def A6h:Aac:=⟨Agj,[]⟩
abbrev Cv9(R:Type):=(List UInt8)->d5->d4->d1->Int->Int->(Bool->Option R)->Option R
abbrev A4e:={R:Type}→Nat→Cv9 R
def Bpf(Afz:A2v):A4e:=fun {R} N g b c h d e a=>if ((decide ((len c) > 40000))=true) then (a true) else if ((decide ((len b) > 2000))=true) then (a true) else if ((decide (d > 200))=true) then (a true) else if ((decide (e > 20000))=true) then (a true) else Afz N N 0 b (len b) 0 fun f=>a (decide (f > 7800))
def Amy:A4e:=@Bpf @Afz
def Dif(N:Nat):Aa0 Bpe [A6h]:=fun R x C=>Amy N x.1.1.1 x.1.1.2.1 x.1.1.2.2.1 x.1.1.2.2.2.1 x.1.1.2.2.2.2.1 x.1.1.2.2.2.2.2.1 (fun y0=>C.1 ((y0,()),(())))
def B4z(Amy:A4e)(N:Nat):Go.AX.Aae:=Aa9 [true] [] false 1 0 Bpe [A6h] (fun R x C=>Amy N x.1.1.1 x.1.1.2.1 x.1.1.2.2.1 x.1.1.2.2.2.1 x.1.1.2.2.2.2.1 x.1.1.2.2.2.2.2.1 (fun y0=>C.1 ((y0,()),(()))))
def B40(N:Nat):Go.AX.Aae:=B4z @Amy N
def Dig(N:Nat):List (Nat×Abu):=[(11,Aaa Amb (Bd4 N N))]
def Cwa(N:Nat):List (Nat×Go.AX.Aae):=[]
def Ai4:Code:=Tryz.f42.body.getD .skip
def A0e:Code:=Tryz.f83.body.getD .skip
def Aqc:Code:=Tryz.f117.body.getD .skip
def Att(N:Nat):Go.AX.Aae:=Bpd 167 5
def Akm:Aac:=⟨[wq1,(1,.one (.val (.int .u8)))],[(0,.cells 167 [(.same .nilptr),(.slf 1)]),Dki]⟩
def Aob:Aac:=⟨[(0,.one (.same .nilif))],C8l⟩
abbrev Bnl(R:Type):=Int->d0->(d0->Option R)->Option R
abbrev Al7:={R:Type}→Nat→Bnl R
def Acv:Al7:=fun {R} N a b c=>if ((((List.length b)+(List.length (a::([]:List Int))))*(1:Nat))≤(70368744177664:Nat)) then (c (b++(a::([]:List Int)))) else none
def Bnm(N:Nat):Aa0 Akm [Aob]:=fun R x C=>Acv N x.1.2.1 x.2.2.1 (fun y0=>C.1 (((),()),(((),(),()),y0,())))
def Atu(Acv:Al7)(N:Nat):Go.AX.Aae:=Aa9 [false,true] (List.replicate 32 true) true 2 2 Akm [Aob] (fun R x C=>Acv N x.1.2.1 x.2.2.1 (fun y0=>C.1 (((),()),(((),(),()),y0,()))))
def A2k(N:Nat):Go.AX.Aae:=Atu @Acv N
def Bnn(N:Nat):List (Nat×Abu):=[]
def A2l(N:Nat):List (Nat×Go.AX.Aae):=[(172,Att N)]
def Axe(N:Nat):Go.AX.Aae:=Bpc
def Ari:Aac:=⟨[wq1,(1,.one (.val (.int .u8)))],C8l⟩
def Amc:Aac:=⟨[(0,.one (.same .nilif))],C8l⟩
abbrev Bhb(R:Type):=Int->d0->(d0->Option R)->Option R
abbrev Air:={R:Type}→Nat→Bhb R
def Aa3:Air:=fun {R} N a b c=>if ((((List.length b)+(List.length (a::([]:List Int))))*(1:Nat))≤(70368744177664:Nat)) then (c (b++(a::([]:List Int)))) else none
def Bhc(N:Nat):Aa0 Ari [Amc]:=fun R x C=>Aa3 N x.1.2.1 x.2.2.1 (fun y0=>C.1 (((),()),(((),(),()),y0,())))
def Arj(Aa3:Air)(N:Nat):Go.AX.Aae:=Aa9 [false,true] (List.replicate 32 true) true 2 2 Ari [Amc] (fun R x C=>Aa3 N x.1.2.1 x.2.2.1 (fun y0=>C.1 (((),()),(((),(),()),y0,()))))
def Ayf(N:Nat):Go.AX.Aae:=Arj @Aa3 N
def Bhd(N:Nat):List (Nat×Abu):=[]
def Ayg(N:Nat):List (Nat×Go.AX.Aae):=[(172,Att N)]
def Aqr:Aac:=⟨[B9p,wq5,Cif,Csk],[(32,.cells 167 [(.ptr 32),(.slf 33)]),(33,.row 5 (.int .u8))]⟩
def A6i:Aac:=⟨[(2,.one (.val .str)),A10],[]⟩
def A6j:Aac:=⟨[B9p,wq5],[(32,.cells 167 [(.ptr 32),(.slf 33)]),(33,.row 5 (.int .u8))]⟩
def B41:Ac8:=.cons .ret A6i (.cons (.exit 0) A6j (.nil))
abbrev Bpg(R:Type):=(List UInt8)->Int->Int->d0->((List UInt8)->Int->Option R)->((List UInt8)->d0->Option R)->Option R
abbrev B42(R:Type):=(List UInt8)->Int->Int->d0->Option R
abbrev Bdj:={R:Type}→Nat→Nat→Bpg R
def Bdk(Aa3:Air){R:Type}(N:Nat)(rc:B42 R):Bpg R:=fun b e a f g h=>if ((decide (a<e))=true) then (if (0≤a∧a<len b) then (let c:=(((UInt8.toNat (b.getD a.toNat (0:UInt8))):Nat):Int);let d:=(B1d [(10:UInt8),(9:UInt8),(42:UInt8),(34:UInt8)] c);if ((decide (d≥0))=true) then (Aa3 N 42 f fun i=>if ((0≤d)∧(d<4)) then (Aa3 N (((UInt8.toNat (List.getD [(110:UInt8),(116:UInt8),(42:UInt8),(34:UInt8)] (Int.toNat d) (0:UInt8))):Nat):Int) i fun j=>rc b e (wi (a+1)) j) else none) else if ((decide (c<32))=true) then (g ([]:List UInt8) 3) else if ((decide (c > 126))=true) then (g ([]:List UInt8) 3) else Aa3 N c f fun l=>rc b e (wi (a+1)) l) else none) else h b f
def Ai3{R:Type}(N:Nat):Nat→Bpg R
 |0=>fun _ _ _ _ _ _=>none
 |k+1=>fun a b c d e f=>Bdk @Aa3 N (fun a b c d=>Ai3 N k a b c d e f) a b c d e f
def Bph(Ai3:Bdj)(N k:Nat):Aar Aqr:=fun R x K=>Ai3 N k x.1.1 x.1.2.2.1 x.1.2.2.2.1 x.2.2.1 (fun y0 y1=>K .ret (Aab A6i ((y0,y1,()),(())))) (fun y0 y1=>K (.exit 0) (Aab A6j ((y0,(),()),(((),(),()),y1,()))))
def Bpi(N k:Nat):Aar Aqr:=Bph @Ai3 N k
def Ark(N:Nat):Go.AX.Aae:=Bsx 167 5
def B0u:Aac:=⟨[B9p],[]⟩
def Bdl:Aac:=⟨[B9p,Akb],[]⟩
abbrev C47(R:Type):=(List UInt8)->((List UInt8)->Int->Option R)->Option R
abbrev Ao9:={R:Type}→Nat→C47 R
def B0v(Acv:Al7)(Ai3:Bdj)(Aa3:Air):Ao9:=fun {R} N c b=>Acv N 34 ([]:List Int) fun d=>Ai3 N N c (len c) 0 d (fun e f=>b e f) fun g h=>if ((decide ((len g) > 100))=true) then (b ([]:List UInt8) 2) else Aa3 N 34 h fun a=>if (((0:Nat)<(List.length a))∧(((List.length a)≤(70368744177664:Nat))∧((Awj a)=true))) then (b (Bsw a) 0) else none
def Aed:Ao9:=@B0v @Acv @Ai3 @Aa3
def Dlm(N:Nat):Aa0 B0u [Bdl]:=fun R x C=>Aed N x.1.1 (fun y0 y1=>C.1 ((y0,y1,()),(())))
def Awd(Aed:Ao9)(N:Nat):Go.AX.Aae:=Aa9 [true] [] false 1 0 B0u [Bdl] (fun R x C=>Aed N x.1.1 (fun y0 y1=>C.1 ((y0,y1,()),(()))))
def B0w(N:Nat):Go.AX.Aae:=Awd @Aed N
def Dln(N:Nat):List (Nat×Abu):=[(9,Aaa Aqr (Bpi N N))]
def C48(N:Nat):List (Nat×Go.AX.Aae):=[(117,Aj3 2 Akm (A2k N) (Ayf N)),(118,Axe N),(119,Ark N)]
def B43:Code:=Tryz.f44.body.getD .skip
def Bpj:Aac:=⟨[],[]⟩
def A6k:Aac:=⟨[(0,.agg [(.val .str),wq0,wq0,wq0,(.val .str),wq0,wq0,wq0,(.val .str),wq0,wq0,wq0,(.val .str),wq0,wq0,wq0,(.val .str),wq0,wq0,wq0,(.val .str),wq0,wq0,wq0,(.val .str),wq0,wq0,wq0,(.val .str),wq0,wq0,wq0,(.val .str),wq0,wq0,wq0,(.val .str),wq0,wq0,wq0,(.val .str),wq0,wq0,wq0,(.val .str),wq0,wq0,wq0,(.val .str),wq0,wq0,wq0,(.val .str),wq0,wq0,wq0,(.val .str),wq0,wq0,wq0,(.val .str),wq0,wq0,wq0,(.val .str),wq0,wq0,wq0,(.val .str),wq0,wq0,wq0,(.val .str),wq0,wq0,wq0,(.val .str),wq0,wq0,wq0,(.val .str),wq0,wq0,wq0,(.val .str),wq0,wq0,wq0,(.val .str),wq0,wq0,wq0,(.val .str),wq0,wq0,wq0,(.val .str),wq0,wq0,wq0,(.val .str),wq0,wq0,wq0,(.val .str),wq0,wq0,wq0,(.val .str),wq0,wq0,wq0,(.val .str),wq0,wq0,wq0,(.val .str),wq0,wq0,wq0,(.val .str),wq0,wq0,wq0])],[]⟩
abbrev Cwb(R:Type):=((List UInt8)->Int->Int->Int->(List UInt8)->Int->Int->Int->(List UInt8)->Int->Int->Int->(List UInt8)->Int->Int->Int->(List UInt8)->Int->Int->Int->(List UInt8)->Int->Int->Int->(List UInt8)->Int->Int->Int->(List UInt8)->Int->Int->Int->(List UInt8)->Int->Int->Int->(List UInt8)->Int->Int->Int->(List UInt8)->Int->Int->Int->(List UInt8)->Int->Int->Int->(List UInt8)->Int->Int->Int->(List UInt8)->Int->Int->Int->(List UInt8)->Int->Int->Int->(List UInt8)->Int->Int->Int->(List UInt8)->Int->Int->Int->(List UInt8)->Int->Int->Int->(List UInt8)->Int->Int->Int->(List UInt8)->Int->Int->Int->(List UInt8)->Int->Int->Int->(List UInt8)->Int->Int->Int->(List UInt8)->Int->Int->Int->(List UInt8)->Int->Int->Int->(List UInt8)->Int->Int->Int->(List UInt8)->Int->Int->Int->(List UInt8)->Int->Int->Int->(List UInt8)->Int->Int->Int->(List UInt8)->Int->Int->Int->(List UInt8)->Int->Int->Int->(List UInt8)->Int->Int->Int->Option R)->Option R
abbrev Aj4:={R:Type}→Nat→Cwb R
def Ab2:Aj4:=fun {R} N a=>a ([]:List UInt8) 0 0 0 ([(110:UInt8),(117:UInt8),(109:UInt8)]) 1 0 1 ([(108:UInt8),(111:UInt8),(99:UInt8),(97:UInt8),(108:UInt8)]) 2 0 1 ([(112:UInt8),(117:UInt8),(116:UInt8),(108:UInt8)]) 2 1 0 ([(97:UInt8),(100:UInt8),(100:UInt8),(114:UInt8),(108:UInt8)]) 2 0 1 ([(103:UInt8),(108:UInt8),(111:UInt8),(98:UInt8),(97:UInt8),(108:UInt8)]) 3 0 1 ([(112:UInt8),(117:UInt8),(116:UInt8),(103:UInt8)]) 3 1 0 ([(97:UInt8),(100:UInt8),(100:UInt8),(114:UInt8),(103:UInt8)]) 3 0 1 ([(115:UInt8),(116:UInt8),(97:UInt8),(116:UInt8),(105:UInt8),(99:UInt8)]) 4 0 1 ([(112:UInt8),(117:UInt8),(116:UInt8),(115:UInt8)]) 4 1 0 ([(97:UInt8),(100:UInt8),(100:UInt8),(114:UInt8),(115:UInt8)]) 4 0 1 ([(112:UInt8),(114:UInt8),(111:UInt8),(99:UInt8)]) 5 0 1 ([(108:UInt8),(111:UInt8),(97:UInt8),(100:UInt8)]) 0 1 1 ([(115:UInt8),(116:UInt8),(111:UInt8),(114:UInt8),(101:UInt8)]) 0 2 0 ([(103:UInt8),(101:UInt8),(116:UInt8),(98:UInt8)]) 0 2 1 ([(112:UInt8),(117:UInt8),(116:UInt8),(98:UInt8)]) 0 3 0 ([(98:UInt8),(105:UInt8),(110:UInt8)]) 7 2 1 ([(117:UInt8),(110:UInt8)]) 8 1 1 ([(115:UInt8),(116:UInt8),(97:UInt8),(99:UInt8),(107:UInt8)]) 2 0 0 ([(108:UInt8),(97:UInt8),(98:UInt8),(101:UInt8),(108:UInt8)]) 6 0 0 ([(106:UInt8),(117:UInt8),(109:UInt8),(112:UInt8)]) 6 0 0 ([(116:UInt8),(114:UInt8),(117:UInt8),(101:UInt8)]) 6 1 0 ([(102:UInt8),(97:UInt8),(108:UInt8),(115:UInt8),(101:UInt8)]) 6 1 0 ([(99:UInt8),(97:UInt8),(108:UInt8),(108:UInt8)]) 2 0 0 ([(101:UInt8),(110:UInt8),(116:UInt8),(101:UInt8),(114:UInt8)]) 5 0 0 ([(114:UInt8),(101:UInt8),(116:UInt8),(117:UInt8),(114:UInt8),(110:UInt8)]) 0 1 0 ([(98:UInt8),(97:UInt8),(99:UInt8),(107:UInt8)]) 0 0 0 ([(114:UInt8),(101:UInt8),(115:UInt8),(117:UInt8),(108:UInt8),(116:UInt8)]) 6 1 0 ([(116:UInt8),(97:UInt8),(107:UInt8),(101:UInt8)]) 2 0 0 ([(115:UInt8),(119:UInt8),(105:UInt8),(116:UInt8),(99:UInt8),(104:UInt8)]) 6 1 0 ([(99:UInt8),(97:UInt8),(115:UInt8),(101:UInt8)]) 1 0 0
def Cwc(N:Nat):Aa0 Bpj [A6k]:=fun R x C=>Ab2 N  (fun y0 y1 y2 y3 y4 y5 y6 y7 y8 y9 y10 y11 y12 y13 y14 y15 y16 y17 y18 y19 y20 y21 y22 y23 y24 y25 y26 y27 y28 y29 y30 y31 y32 y33 y34 y35 y36 y37 y38 y39 y40 y41 y42 y43 y44 y45 y46 y47 y48 y49 y50 y51 y52 y53 y54 y55 y56 y57 y58 y59 y60 y61 y62 y63 y64 y65 y66 y67 y68 y69 y70 y71 y72 y73 y74 y75 y76 y77 y78 y79 y80 y81 y82 y83 y84 y85 y86 y87 y88 y89 y90 y91 y92 y93 y94 y95 y96 y97 y98 y99 y100 y101 y102 y103 y104 y105 y106 y107 y108 y109 y110 y111 y112 y113 y114 y115 y116 y117 y118 y119 y120 y121 y122 y123=>C.1 (((y0,y1,y2,y3,y4,y5,y6,y7,y8,y9,y10,y11,y12,y13,y14,y15,y16,y17,y18,y19,y20,y21,y22,y23,y24,y25,y26,y27,y28,y29,y30,y31,y32,y33,y34,y35,y36,y37,y38,y39,y40,y41,y42,y43,y44,y45,y46,y47,y48,y49,y50,y51,y52,y53,y54,y55,y56,y57,y58,y59,y60,y61,y62,y63,y64,y65,y66,y67,y68,y69,y70,y71,y72,y73,y74,y75,y76,y77,y78,y79,y80,y81,y82,y83,y84,y85,y86,y87,y88,y89,y90,y91,y92,y93,y94,y95,y96,y97,y98,y99,y100,y101,y102,y103,y104,y105,y106,y107,y108,y109,y110,y111,y112,y113,y114,y115,y116,y117,y118,y119,y120,y121,y122,y123,()),()),(())))
def Apa(Ab2:Aj4)(N:Nat):Go.AX.Aae:=Aa9 [] [] false 0 0 Bpj [A6k] (fun R x C=>Ab2 N  (fun y0 y1 y2 y3 y4 y5 y6 y7 y8 y9 y10 y11 y12 y13 y14 y15 y16 y17 y18 y19 y20 y21 y22 y23 y24 y25 y26 y27 y28 y29 y30 y31 y32 y33 y34 y35 y36 y37 y38 y39 y40 y41 y42 y43 y44 y45 y46 y47 y48 y49 y50 y51 y52 y53 y54 y55 y56 y57 y58 y59 y60 y61 y62 y63 y64 y65 y66 y67 y68 y69 y70 y71 y72 y73 y74 y75 y76 y77 y78 y79 y80 y81 y82 y83 y84 y85 y86 y87 y88 y89 y90 y91 y92 y93 y94 y95 y96 y97 y98 y99 y100 y101 y102 y103 y104 y105 y106 y107 y108 y109 y110 y111 y112 y113 y114 y115 y116 y117 y118 y119 y120 y121 y122 y123=>C.1 (((y0,y1,y2,y3,y4,y5,y6,y7,y8,y9,y10,y11,y12,y13,y14,y15,y16,y17,y18,y19,y20,y21,y22,y23,y24,y25,y26,y27,y28,y29,y30,y31,y32,y33,y34,y35,y36,y37,y38,y39,y40,y41,y42,y43,y44,y45,y46,y47,y48,y49,y50,y51,y52,y53,y54,y55,y56,y57,y58,y59,y60,y61,y62,y63,y64,y65,y66,y67,y68,y69,y70,y71,y72,y73,y74,y75,y76,y77,y78,y79,y80,y81,y82,y83,y84,y85,y86,y87,y88,y89,y90,y91,y92,y93,y94,y95,y96,y97,y98,y99,y100,y101,y102,y103,y104,y105,y106,y107,y108,y109,y110,y111,y112,y113,y114,y115,y116,y117,y118,y119,y120,y121,y122,y123,()),()),(()))))
def Bdm(N:Nat):Go.AX.Aae:=Apa @Ab2 N
def Cwd(N:Nat):List (Nat×Abu):=[]
def B44(N:Nat):List (Nat×Go.AX.Aae):=[]
def Ayh:Code:=Tryz.f84.body.getD .skip
def Cn7:Code:=Tryz.f121.body.getD .skip
def B4d:Aac:=⟨Ard,[]⟩
def Bhe:Aac:=⟨Agj,[]⟩
abbrev C8w(R:Type):=Int->Int->Int->(Bool->Option R)->Option R
abbrev Ali:={R:Type}→Nat→C8w R
def Ab6:Ali:=fun {R} N a c d b=>if ((decide (a≥c))=true) then (b (decide (a≤d))) else b false
def C8x(N:Nat):Aa0 B4d [Bhe]:=fun R x C=>Ab6 N x.1.1 x.1.2.1 x.1.2.2.1 (fun y0=>C.1 ((y0,()),(())))
def Atm(Ab6:Ali)(N:Nat):Go.AX.Aae:=Aa9 [true,true,true] [] false 3 0 B4d [Bhe] (fun R x C=>Ab6 N x.1.1 x.1.2.1 x.1.2.2.1 (fun y0=>C.1 ((y0,()),(()))))
def Bhf(N:Nat):Go.AX.Aae:=Atm @Ab6 N
def C8y(N:Nat):List (Nat×Abu):=[]
def Cn8(N:Nat):List (Nat×Go.AX.Aae):=[]
def Aof:Aac:=⟨[wq6,(4,.one (.ptr 33)),Dek],[Cz5,(33,.cells 26 Cz7)]⟩
def A2x:Aac:=⟨[Del],[]⟩
def Bno:Ac8:=.cons .ret A2x (.nil)
abbrev B9r(R:Type):=Bool->Int->Int->Int->(List UInt8)->d5->d4->d1->Int->Int->(Bool->Option R)->Option R
abbrev Aq8:={R:Type}→Nat→B9r R
def A74(Ab6:Ali):Aq8:=fun {R} N b d i c j l m n o e a=>if ((d==24)=true) then (if (b=true) then (Ab6 N c 0 8 fun f=>a f) else a false) else if ((d==29)=true) then (if (b=true) then (Ab6 N c 0 1000 fun g=>a g) else a false) else if ((d==30)=true) then (if (b=true) then (Ab6 N c 1 e fun h=>a h) else a false) else if (b=true) then (a (c==0)) else a false
def Ac2:Aq8:=@A74 @Ab6
def A75(Ac2:Aq8)(N:Nat):Aar Aof:=fun R x K=>Ac2 N x.1.2.2.1 x.2.1.1 x.2.1.2.1 x.2.1.2.2.1 x.2.2.1.1 x.2.2.1.2.1 x.2.2.1.2.2.1 x.2.2.1.2.2.2.1 x.2.2.1.2.2.2.2.1 x.2.2.1.2.2.2.2.2.1 (fun y0=>K .ret (Aab A2x ((y0,()),(()))))
def Bnp(N:Nat):Aar Aof:=A75 @Ac2 N
def B9s:Code:=Tryz.f120.body.getD .skip
def Bud:Aac:=⟨Aio,[]⟩
def Bat:Aac:=⟨Agj,[]⟩
abbrev C2d(R:Type):=Int->(Bool->Option R)->Option R
abbrev Atv:={R:Type}→Nat→C2d R
def Bue(Ab6:Ali):Atv:=fun {R} N a b=>Ab6 N a (-2147483648) 2147483647 fun c=>b c
def Agu:Atv:=@Bue @Ab6
def Dkn(N:Nat):Aa0 Bud [Bat]:=fun R x C=>Agu N x.1.1 (fun y0=>C.1 ((y0,()),(())))
def Bhg(Agu:Atv)(N:Nat):Go.AX.Aae:=Aa9 [true] [] false 1 0 Bud [Bat] (fun R x C=>Agu N x.1.1 (fun y0=>C.1 ((y0,()),(()))))
def Buf(N:Nat):Go.AX.Aae:=Bhg @Agu N
def Dko(N:Nat):List (Nat×Abu):=[]
def C2e(N:Nat):List (Nat×Go.AX.Aae):=[(121,Bhf N)]
def Bhh:Aac:=⟨[Cef,(1,.agg Cz7),C8p],[]⟩
def A0n:Aac:=⟨Agj,[]⟩
abbrev Cn9(R:Type):=Int->Int->Int->(List UInt8)->d5->d4->d1->Int->Int->(List UInt8)->Int->Int->Int->(Bool->Option R)->Option R
abbrev Aqd:={R:Type}→Nat→Cn9 R
def Bhi(Ac2:Aq8)(Agu:Atv)(Ab6:Ali):Aqd:=fun {R} N e a f g b h i c d E l F G j=>if ((l==0)=true) then (Ac2 N (a==0) e a f g b h i c d fun m=>j m) else if ((l==1)=true) then (Agu N a fun n=>Ac2 N n e a f g b h i c d fun o=>j o) else if ((l==2)=true) then (Ab6 N a 0 4000 fun p=>Ac2 N p e a f g b h i c d fun q=>j q) else if ((l==3)=true) then (Ab6 N a 0 199 fun r=>Ac2 N r e a f g b h i c d fun s=>j s) else if ((l==4)=true) then (Ab6 N a 0 (wi ((len b)-1)) fun t=>Ac2 N t e a f g b h i c d fun u=>j u) else if ((l==5)=true) then (Ab6 N a 1 c fun v=>Ac2 N v e a f g b h i c d fun w=>j w) else if ((l==6)=true) then (Ab6 N a 1 d fun x=>Ac2 N x e a f g b h i c d fun y=>j y) else if ((l==7)=true) then (Ab6 N a 1 17 fun z=>Ac2 N z e a f g b h i c d fun A=>j A) else if ((l==8)=true) then (if ((a==18)=true) then (Ac2 N true e a f g b h i c d fun B=>j B) else Ac2 N (a==19) e a f g b h i c d fun C=>j C) else Ac2 N false e a f g b h i c d fun D=>j D
def Ae4:Aqd:=@Bhi @Ac2 @Agu @Ab6
def Dgc(N:Nat):Aa0 Bhh [A0n]:=fun R x C=>Ae4 N x.1.1.1 x.1.1.2.1 x.1.1.2.2.1 x.1.2.1.1 x.1.2.1.2.1 x.1.2.1.2.2.1 x.1.2.1.2.2.2.1 x.1.2.1.2.2.2.2.1 x.1.2.1.2.2.2.2.2.1 x.1.2.2.1.1 x.1.2.2.1.2.1 x.1.2.2.1.2.2.1 x.1.2.2.1.2.2.2.1 (fun y0=>C.1 ((y0,()),(())))
def Ayi(Ae4:Aqd)(N:Nat):Go.AX.Aae:=Aa9 [true,true,true] [] false 3 0 Bhh [A0n] (fun R x C=>Ae4 N x.1.1.1 x.1.1.2.1 x.1.1.2.2.1 x.1.2.1.1 x.1.2.1.2.1 x.1.2.1.2.2.1 x.1.2.1.2.2.2.1 x.1.2.1.2.2.2.2.1 x.1.2.1.2.2.2.2.2.1 x.1.2.2.1.1 x.1.2.2.1.2.1 x.1.2.2.1.2.2.1 x.1.2.2.1.2.2.2.1 (fun y0=>C.1 ((y0,()),(()))))
def Bx7(N:Nat):Go.AX.Aae:=Ayi @Ae4 N
def Dgd(N:Nat):List (Nat×Abu):=[(42,Aaa Aof (Bnp N))]
def Coa(N:Nat):List (Nat×Go.AX.Aae):=[(121,Bhf N),(120,Buf N)]
def Akc:Aac:=⟨[wq7,C8c,(35,.one (.val z4)),(36,.one wq0),(37,.one wq0)],[Bdi,C2c]⟩
def Ayj:Aac:=⟨Bbu,[]⟩
def Ayk:Aac:=⟨C17,Axb⟩
def Bug:Ac8:=.cons .ret Ayj (.cons (.exit 0) Ayk (.nil))
abbrev Bd5(R:Type):=d4->Int->Int->(List UInt8)->d5->d4->d1->Int->Int->d6->(Bool->Option R)->((List UInt8)->d5->d4->d1->Int->Int->Option R)->Option R
abbrev Buh(R:Type):=d4->Int->Int->(List UInt8)->d5->d4->d1->Int->Int->d6->Option R
abbrev Asi:={R:Type}→Nat→Nat→Bd5 R
def Bd6(Ae4:Aqd){R:Type}(N:Nat)(rc:Buh R):Bd5 R:=fun d m b e f g h i j c l n=>if ((decide (b<m))=true) then (if (0≤b∧b<len d) then (let a:=(d.getD b.toNat (0,(0,0))).1;if ((decide (a<1))=true) then (l false) else if ((decide (a≥31))=true) then (l false) else if ((0≤a)∧(a<31)) then (if (a<(len c)) then (Ae4 N a ((d.getD b.toNat (0,(0,0))).2.1) ((d.getD b.toNat (0,(0,0))).2.2) e f g h i j ((c.getD a.toNat (([]:List UInt8),(0,(0,0)))).1) ((c.getD a.toNat (([]:List UInt8),(0,(0,0)))).2.1) ((c.getD a.toNat (([]:List UInt8),(0,(0,0)))).2.2.1) ((c.getD a.toNat (([]:List UInt8),(0,(0,0)))).2.2.2) fun o=>if ((!o)=true) then (l false) else rc d m (wi (b+1)) e f g h i j c) else none) else none) else none) else n e f g h i j
def Aea{R:Type}(N:Nat):Nat→Bd5 R
 |0=>fun _ _ _ _ _ _ _ _ _ _ _ _=>none
 |k+1=>fun a b c d e f g h i j l m=>Bd6 @Ae4 N (fun a b c d e f g h i j=>Aea N k a b c d e f g h i j l m) a b c d e f g h i j l m
def Awm(Aea:Asi)(N k:Nat):Aar Akc:=fun R x K=>Aea N k x.1.2.2.1 x.1.2.2.2.1 x.1.2.2.2.2.1 x.2.1.1 x.2.1.2.1 x.2.1.2.2.1 x.2.1.2.2.2.1 x.2.1.2.2.2.2.1 x.2.1.2.2.2.2.2.1 x.2.2.1 (fun y0=>K .ret (Aab Ayj ((y0,()),(())))) (fun y0 y1 y2 y3 y4 y5=>K (.exit 0) (Aab Ayk (((),()),((y0,y1,y2,y3,y4,y5,()),()))))
def Bd7(N k:Nat):Aar Akc:=Awm @Aea N k
def Asj:Code:=Tryz.f85.body.getD .skip
def Amd:Aac:=⟨[wq7,(2,.one (.slf 33)),(3,.one (.slf 34)),Axt,Bbv,(18,.one (.val z4)),C8e,(20,.one wq0)],[Bdi,Cie,C2a]⟩
def Ayl:Aac:=⟨[(2,.one (.slf 32)),(3,.one (.slf 33)),Dem],Bar⟩
def Aym:Aac:=⟨[wq7,(2,.one (.slf 33)),(3,.one (.slf 34)),Axt,Bbv],[Bdi,Cie,C2a]⟩
def Bui:Ac8:=.cons .ret Ayl (.cons (.exit 0) Aym (.nil))
abbrev Bd8(R:Type):=Int->Int->d4->Int->Int->(List UInt8)->d5->d4->d1->Int->Int->d0->d0->(Bool->d0->d0->Option R)->(Int->Int->(List UInt8)->d5->d4->d1->Int->Int->d0->d0->Option R)->Option R
abbrev Buj(R:Type):=Int->Int->d4->Int->Int->(List UInt8)->d5->d4->d1->Int->Int->d0->d0->Option R
abbrev A2y:={R:Type}→Nat→Nat→Bd8 R
def Bd9{R:Type}(N:Nat)(rc:Buj R):Bd8 R:=fun d f e h b i j l m n o g c p s=>if ((decide (b<h))=true) then (if (0≤b∧b<len e) then (let q:=(e.getD b.toNat (0,(0,0))).1;let a:=(e.getD b.toNat (0,(0,0))).2.1;if ((q==24)=true) then (let r:=(wi (d+1));if ((a != r)=true) then (p false ([]:List Int) ([]:List Int)) else rc r f e h (wi (b+1)) i j l m n o g c) else if ((q==19)=true) then (if (0≤a∧a<len c) then (if (((c.getD a.toNat 0) != 0)=true) then (p false ([]:List Int) ([]:List Int)) else if ((d==0)=true) then (p false ([]:List Int) ([]:List Int)) else if (0≤a∧a<len g) then (if (0≤a∧a<len c) then (rc d (if (a > f) then a else f) e h (wi (b+1)) i j l m n o (g.set a.toNat b) (c.set a.toNat d)) else none) else none) else none) else rc d f e h (wi (b+1)) i j l m n o g c) else none) else s d f i j l m n o g c
def Age{R:Type}(N:Nat):Nat→Bd8 R
 |0=>fun _ _ _ _ _ _ _ _ _ _ _ _ _ _ _=>none
 |k+1=>fun a b c d e f g h i j l m n o p=>Bd9 N (fun a b c d e f g h i j l m n=>Age N k a b c d e f g h i j l m n o p) a b c d e f g h i j l m n o p
def Bea(Age:A2y)(N k:Nat):Aar Amd:=fun R x K=>Age N k x.1.2.2.2.1 x.1.2.2.2.2.1 x.1.2.2.2.2.2.1 x.1.2.2.2.2.2.2.1 x.1.2.2.2.2.2.2.2.1 x.2.1.1 x.2.1.2.1 x.2.1.2.2.1 x.2.1.2.2.2.1 x.2.1.2.2.2.2.1 x.2.1.2.2.2.2.2.1 x.2.2.1 x.2.2.2.1 (fun y0 y1 y2=>K .ret (Aab Ayl (((),(),y0,()),(y1,y2,())))) (fun y0 y1 y2 y3 y4 y5 y6 y7 y8 y9=>K (.exit 0) (Aab Aym (((),(),(),y0,y1,()),((y2,y3,y4,y5,y6,y7,()),y8,y9,()))))
def Beb(N k:Nat):Aar Amd:=Bea @Age N k
def Blk:Aac:=⟨A2u,[]⟩
def A2z:Aac:=⟨[wq8,(1,.one (.slf 33)),Dkj],Bar⟩
abbrev Csl(R:Type):=(List UInt8)->d5->d4->d1->Int->Int->(Bool->d0->d0->Option R)->Option R
abbrev Alt:={R:Type}→Nat→Csl R
def Bll(Age:A2y):Alt:=fun {R} N h i b j l d c=>let a:=(wi (d+1));if ((0≤a)∧((a≤a)∧((a*8)≤70368744177664))) then (let e:=(List.replicate (Int.toNat a) 0);if ((0≤a)∧((a≤a)∧((a*8)≤70368744177664))) then (Age N N 0 0 b (len b) 0 h i b j l d e e (fun m n o=>c m n o) fun p q t u v w r s f g=>if ((p==r)=true) then (c (q==s) f g) else c false f g) else none) else none
def Ac5:Alt:=@Bll @Age
def Dho(N:Nat):Aa0 Blk [A2z]:=fun R x C=>Ac5 N x.1.1.1 x.1.1.2.1 x.1.1.2.2.1 x.1.1.2.2.2.1 x.1.1.2.2.2.2.1 x.1.1.2.2.2.2.2.1 (fun y0 y1 y2=>C.1 (((),(),y0,()),(y1,y2,())))
def Ask(Ac5:Alt)(N:Nat):Go.AX.Aae:=Aa9 [true] [] false 1 0 Blk [A2z] (fun R x C=>Ac5 N x.1.1.1 x.1.1.2.1 x.1.1.2.2.1 x.1.1.2.2.2.1 x.1.1.2.2.2.2.1 x.1.1.2.2.2.2.2.1 (fun y0 y1 y2=>C.1 (((),(),y0,()),(y1,y2,()))))
def Blm(N:Nat):Go.AX.Aae:=Ask @Ac5 N
def Dhp(N:Nat):List (Nat×Abu):=[(9,Aaa Amd (Beb N N))]
def Csm(N:Nat):List (Nat×Go.AX.Aae):=[]
def Ai5:Code:=Tryz.f86.body.getD .skip
def Akd:Aac:=⟨[wq9,A10,(28,.one wq0),(29,.one wq0)],[]⟩
def Ayn:Aac:=⟨Bbu,[]⟩
def Ayo:Aac:=⟨C8i,[]⟩
def Buk:Ac8:=.cons .ret Ayn (.cons (.exit 3) Ayo (.nil))
abbrev Bec(R:Type):=d4->Int->Int->Int->(Bool->Option R)->(d4->Int->Option R)->Option R
abbrev Bul(R:Type):=d4->Int->Int->Int->Option R
abbrev Asl:={R:Type}→Nat→Nat→Bec R
def A20{R:Type}(N:Nat)(rc:Bul R):Bec R:=fun a c e d f g=>if ((decide (d<e))=true) then (let b:=(wi ((wi (c+1))+d));if ((decide (b≥(len a)))=true) then (f false) else if (0≤b∧b<len a) then (if (((a.getD b.toNat (0,(0,0))).1 != 30)=true) then (f false) else rc a c e (wi (d+1))) else none) else g a c
def Ad0{R:Type}(N:Nat):Nat→Bec R
 |0=>fun _ _ _ _ _ _=>none
 |k+1=>fun a b c d e f=>A20 N (fun a b c d=>Ad0 N k a b c d e f) a b c d e f
def Awn(Ad0:Asl)(N k:Nat):Aar Akd:=fun R x K=>Ad0 N k x.1.1 x.1.2.1 x.1.2.2.1 x.1.2.2.2.1 (fun y0=>K .ret (Aab Ayn ((y0,()),(())))) (fun y0 y1=>K (.exit 3) (Aab Ayo ((y0,y1,()),(()))))
def Bed(N k:Nat):Aar Akd:=Awn @Ad0 N k
def A76:Code:=Tryz.f75.body.getD .skip
def Arl:Aac:=⟨[wq9,Akb,B37,C8d],[]⟩
def Bbz:Aac:=⟨A1z,[]⟩
def Bb0:Aac:=⟨[],[]⟩
def Bx8:Ac8:=.cons .ret Bbz (.cons .normal Bb0 (.nil))
abbrev Cob(R:Type):=d4->Int->Int->Bool->(Bool->Option R)->(Option R)->Option R
abbrev Ayp:={R:Type}→Nat→Cob R
def Agk:Ayp:=fun {R} N a b e f c g=>if (f=true) then (c true) else if ((e==29)=true) then (if (0≤b∧b<len a) then (c ((a.getD b.toNat (0,(0,0))).2.2==0)) else none) else if ((e==30)=true) then (let d:=(wi (b+1));if ((d==(len a))=true) then (c true) else if (0≤d∧d<len a) then (c ((a.getD d.toNat (0,(0,0))).1 != 30)) else none) else g
def Bhj(Agk:Ayp)(N:Nat):Aar Arl:=fun R x K=>Agk N x.1.1 x.1.2.1 x.1.2.2.1 x.1.2.2.2.1 (fun y0=>K .ret (Aab Bbz ((y0,()),(())))) (K .normal (Aab Bb0 ((()),(()))))
def Bx9(N:Nat):Aar Arl:=Bhj @Agk N
def Bum:Aac:=⟨A6g,[]⟩
def Bau:Aac:=⟨Agj,[]⟩
abbrev C2f(R:Type):=d4->Int->(Bool->Option R)->Option R
abbrev Alu:={R:Type}→Nat→C2f R
def Bun(Agk:Ayp):Alu:=fun {R} N d c b=>if (0≤c∧c<len d) then (let a:=(d.getD c.toNat (0,(0,0))).1;if ((a==20)=true) then (Agk N d c a (a==20) (fun e=>b e) (b false)) else if ((a==25)=true) then (Agk N d c a (a==25) (fun f=>b f) (b false)) else if ((a==26)=true) then (Agk N d c a (a==26) (fun g=>b g) (b false)) else Agk N d c a (a==27) (fun h=>b h) (b false)) else none
def Acg:Alu:=@Bun @Agk
def Dkp(N:Nat):Aa0 Bum [Bau]:=fun R x C=>Acg N x.1.1 x.1.2.1 (fun y0=>C.1 ((y0,()),(())))
def Atw(Acg:Alu)(N:Nat):Go.AX.Aae:=Aa9 [true,true] [] false 2 0 Bum [Bau] (fun R x C=>Acg N x.1.1 x.1.2.1 (fun y0=>C.1 ((y0,()),(()))))
def Bhk(N:Nat):Go.AX.Aae:=Atw @Acg N
def Dkq(N:Nat):List (Nat×Abu):=[(12,Aaa Arl (Bx9 N))]
def C2g(N:Nat):List (Nat×Go.AX.Aae):=[]
def Ame:Aac:=⟨[wq9,A10,Dem],[]⟩
def A77:Aac:=⟨Bbu,[]⟩
def A78:Aac:=⟨C8i,[]⟩
def Buo:Ac8:=.cons .ret A77 (.cons .normal A78 (.nil))
abbrev Cih(R:Type):=d4->Int->Bool->(Bool->Option R)->(d4->Int->Option R)->Option R
abbrev Aog:={R:Type}→Nat→Cih R
def Bee(Acg:Alu):Aog:=fun {R} N a b f e c=>if (f=true) then (Acg N a b fun g=>if ((!g)=true) then (e false) else c a b) else let d:=(wi (b+1));if (0≤d∧d<len a) then (if (((a.getD d.toNat (0,(0,0))).1==24)=true) then (Acg N a b fun h=>if ((!h)=true) then (e false) else c a b) else c a b) else none
def Acu:Aog:=@Bee @Acg
def Awo(Acu:Aog)(N:Nat):Aar Ame:=fun R x K=>Acu N x.1.1 x.1.2.1 x.1.2.2.1 (fun y0=>K .ret (Aab A77 ((y0,()),(())))) (fun y0 y1=>K .normal (Aab A78 ((y0,y1,()),(()))))
def Bup(N:Nat):Aar Ame:=Awo @Acu N
def Ak6:Aac:=⟨C8i,[]⟩
def A0o:Aac:=⟨Bbu,[]⟩
def A0p:Aac:=⟨[wq9],[]⟩
def Bya:Ac8:=.cons .ret A0o (.cons (.exit 0) A0p (.nil))
abbrev Bhl(R:Type):=d4->Int->(Bool->Option R)->(d4->Option R)->Option R
abbrev Byb(R:Type):=d4->Int->Option R
abbrev Aua:={R:Type}→Nat→Nat→Bhl R
def Bhm(Ad0:Asl)(Acu:Aog){R:Type}(N:Nat)(rc:Byb R):Bhl R:=fun a b d l=>if ((decide (b<(len a)))=true) then (let c:=(wi (b+1));if (0≤b∧b<len a) then (let h:=(a.getD b.toNat (0,(0,0))).1;if ((h==29)=true) then (if (0≤b∧b<len a) then (Ad0 N N a b ((a.getD b.toNat (0,(0,0))).2.2) 0 (fun m=>d m) fun e g=>if (0≤g∧g<len e) then (let i:=(wi (g+(e.getD g.toNat (0,(0,0))).2.2));let f:=(wi (i+1));if ((!(f==(len e)))=true) then (if (0≤f∧f<len e) then (if (((e.getD f.toNat (0,(0,0))).1==30)=true) then (d false) else Acu N e i (f==(len e)) (fun n=>d n) fun o p=>rc o (wi (p+1))) else none) else Acu N e i (f==(len e)) (fun q=>d q) fun r s=>rc r (wi (s+1))) else none) else none) else if ((h==30)=true) then (d false) else if ((h==19)=true) then (if ((c==(len a))=true) then (d false) else if (0≤c∧c<len a) then (let j:=(a.getD c.toNat (0,(0,0))).1;if ((j != 18)=true) then (if (0≤c∧c<len a) then (if ((j != 28)=true) then (if (0≤c∧c<len a) then (if ((j != 19)=true) then (d false) else Acu N a b (c==(len a)) (fun t=>d t) fun u v=>rc u (wi (v+1))) else none) else Acu N a b (c==(len a)) (fun w=>d w) fun x y=>rc x (wi (y+1))) else none) else Acu N a b (c==(len a)) (fun z=>d z) fun A B=>rc A (wi (B+1))) else none) else Acu N a b (c==(len a)) (fun C=>d C) fun D E=>rc D (wi (E+1))) else none) else l a
def Adu{R:Type}(N:Nat):Nat→Bhl R
 |0=>fun _ _ _ _=>none
 |k+1=>fun a b c d=>Bhm @Ad0 @Acu N (fun a b=>Adu N k a b c d) a b c d
def Ayq(Adu:Aua)(N k:Nat):Aar Ak6:=fun R x K=>Adu N k x.1.1 x.1.2.1 (fun y0=>K .ret (Aab A0o ((y0,()),(())))) (fun y0=>K (.exit 0) (Aab A0p ((y0,()),(()))))
def Bhn(N k:Nat):Aar Ak6:=Ayq @Adu N k
def Bpk:Aac:=⟨[wq9],[]⟩
def A6l:Aac:=⟨Agj,[]⟩
abbrev Cwe(R:Type):=d4->(Bool->Option R)->Option R
abbrev Ar5:={R:Type}→Nat→Cwe R
def Bpl(Adu:Aua):Ar5:=fun {R} N c a=>Adu N N c 0 (fun d=>a d) fun b=>if (((len b)==0)=true) then (a true) else if (((0 :Int)≤(0 :Int))∧(0<(len b))) then (a ((List.getD b (0:Nat) (0,(0,0))).1==24)) else none
def Af2:Ar5:=@Bpl @Adu
def Dih(N:Nat):Aa0 Bpk [A6l]:=fun R x C=>Af2 N x.1.1 (fun y0=>C.1 ((y0,()),(())))
def A4f(Af2:Ar5)(N:Nat):Go.AX.Aae:=Aa9 [true] [] false 1 0 Bpk [A6l] (fun R x C=>Af2 N x.1.1 (fun y0=>C.1 ((y0,()),(()))))
def B45(N:Nat):Go.AX.Aae:=A4f @Af2 N
def Dii(N:Nat):List (Nat×Abu):=[(17,Aaa Akd (Bed N N)),(44,Aaa Ame (Bup N)),(5,Aaa Ak6 (Bhn N N))]
def Cwf(N:Nat):List (Nat×Go.AX.Aae):=[(75,Bhk N)]
def Aln:Code:=Tryz.f87.body.getD .skip
def A0k:Code:=Tryz.f122.body.getD .skip
def Ai6:Code:=Tryz.f174.body.getD .skip
def Byc:Code:=Tryz.f123.body.getD .skip
def Bho:Aac:=⟨Aio,[]⟩
def A0q:Aac:=⟨Agj,[]⟩
abbrev Coc(R:Type):=Int->(Bool->Option R)->Option R
abbrev Aub:={R:Type}→Nat→Coc R
def Bhp(Agu:Atv):Aub:=fun {R} N a b=>Agu N a fun c=>b (!c)
def Ahw:Aub:=@Bhp @Agu
def Dge(N:Nat):Aa0 Bho [A0q]:=fun R x C=>Ahw N x.1.1 (fun y0=>C.1 ((y0,()),(())))
def Bhq(Ahw:Aub)(N:Nat):Go.AX.Aae:=Aa9 [true] [] false 1 0 Bho [A0q] (fun R x C=>Ahw N x.1.1 (fun y0=>C.1 ((y0,()),(()))))
def Byd(N:Nat):Go.AX.Aae:=Bhq @Ahw N
def Dgf(N:Nat):List (Nat×Abu):=[]
def Cod(N:Nat):List (Nat×Go.AX.Aae):=[(120,Buf N)]
def Afj:Aac:=⟨[Cig,(1,.one (.fn 123)),Bt7,Bt8],[]⟩
def Ann:Aac:=⟨B38,[]⟩
def Ano:Aac:=⟨[],[]⟩
def A11:Ac8:=.cons .ret Ann (.cons (.exit 0) Ano (.nil))
abbrev Asm(R:Type):=d0->Int->Int->(Int->Option R)->(Option R)->Option R
abbrev A12(R:Type):=d0->Int->Int->Option R
abbrev Api:={R:Type}→Nat→Nat→Asm R
def Apj(Ahw:Aub){R:Type}(N:Nat)(rc:A12 R):Asm R:=fun b c a d e=>if ((decide (a<c))=true) then (if (0≤a∧a<len b) then (Ahw N (b.getD a.toNat 0) fun f=>if (f=true) then (d a) else rc b c (wi (a+1))) else none) else e
def Ab8{R:Type}(N:Nat):Nat→Asm R
 |0=>fun _ _ _ _ _=>none
 |k+1=>fun a b c d e=>Apj @Ahw N (fun a b c=>Ab8 N k a b c d e) a b c d e
def Asn(Ab8:Api)(N k:Nat):Aar Afj:=fun R x K=>Ab8 N k x.1.1 x.1.2.2.1 x.1.2.2.2.1 (fun y0=>K .ret (Aab Ann ((y0,()),(())))) (K (.exit 0) (Aab Ano ((()),(()))))
def Aso(N k:Nat):Aar Afj:=Asn @Ab8 N k
def Au3:Aac:=⟨[Cig,(1,.one (.fn 123))],[]⟩
def Apk:Aac:=⟨Aio,[]⟩
abbrev Bpm(R:Type):=d0->(Int->Option R)->Option R
abbrev Amr:={R:Type}→Nat→Bpm R
def Au4(Ab8:Api):Amr:=fun {R} N a b=>Ab8 N N a (len a) 0 (fun c=>b c) (b (-1))
def Aev:Amr:=@Au4 @Ab8
def Cwg(N:Nat):Aa0 Au3 [Apk]:=fun R x C=>Aev N x.1.1 (fun y0=>C.1 ((y0,()),(())))
def A4g(Aev:Amr)(N:Nat):Go.AX.Aae:=Aa9 [true,true] [] false 2 0 Au3 [Apk] (fun R x C=>Aev N x.1.1 (fun y0=>C.1 ((y0,()),(()))))
def A4h(N:Nat):Go.AX.Aae:=A4g @Aev N
def Cwh(N:Nat):List (Nat×Abu):=[(5,Aaa Afj (Aso N N))]
def Bpn(N:Nat):List (Nat×Go.AX.Aae):=[(123,Byd N)]
def Asa:Aac:=⟨[Cig,(1,.one (.fn 123))],[]⟩
def Amv:Aac:=⟨Agj,[]⟩
abbrev Bj1(R:Type):=d0->(Bool->Option R)->Option R
abbrev Ahd:={R:Type}→Nat→Bj1 R
def Asb(Aev:Amr):Ahd:=fun {R} N a b=>Aev N a fun c=>b (decide (c≥0))
def Abv:Ahd:=@Asb @Aev
def Crd(N:Nat):Aa0 Asa [Amv]:=fun R x C=>Abv N x.1.1 (fun y0=>C.1 ((y0,()),(())))
def Aoc(Abv:Ahd)(N:Nat):Go.AX.Aae:=Aa9 [true,true] [] false 2 0 Asa [Amv] (fun R x C=>Abv N x.1.1 (fun y0=>C.1 ((y0,()),(()))))
def A0l(N:Nat):Go.AX.Aae:=Aoc @Abv N
def Cre(N:Nat):List (Nat×Abu):=[]
def Bj2(N:Nat):List (Nat×Go.AX.Aae):=[(174,A4h N)]
def Al2:Aac:=⟨[wq7,(11,.one (.val z3)),(12,.one wq0),(13,.one wq0)],Axb⟩
def A0r:Aac:=⟨Bbu,[]⟩
def A0s:Aac:=⟨C17,Axb⟩
def Bye:Ac8:=.cons .ret A0r (.cons (.exit 0) A0s (.nil))
abbrev Bhr(R:Type):=d5->Int->Int->(List UInt8)->d5->d4->d1->Int->Int->(Bool->Option R)->((List UInt8)->d5->d4->d1->Int->Int->Option R)->Option R
abbrev Byf(R:Type):=d5->Int->Int->(List UInt8)->d5->d4->d1->Int->Int->Option R
abbrev Ayr:={R:Type}→Nat→Nat→Bhr R
def A6m(Aed:Ao9)(Abv:Ahd){R:Type}(N:Nat)(rc:Byf R):Bhr R:=fun b d a e f g h i j c n=>if ((decide (a<d))=true) then (if (0≤a∧a<len b) then (let m:=(b.getD a.toNat (([]:List UInt8),(false,([]:List Int)))).1;let l:=(b.getD a.toNat (([]:List UInt8),(false,([]:List Int)))).2.2;if ((b.getD a.toNat (([]:List UInt8),(false,([]:List Int)))).2.1=true) then (Aed N m fun q o=>if ((o != 0)=true) then (c false) else if ((decide ((len l) > 0))=true) then (c false) else rc b d (wi (a+1)) e f g h i j) else if ((!(m==([]:List UInt8)))=true) then (c false) else if (((len l)==0)=true) then (c false) else Abv N l fun p=>if (p=true) then (c false) else rc b d (wi (a+1)) e f g h i j) else none) else n e f g h i j
def Afc{R:Type}(N:Nat):Nat→Bhr R
 |0=>fun _ _ _ _ _ _ _ _ _ _ _=>none
 |k+1=>fun a b c d e f g h i j l=>A6m @Aed @Abv N (fun a b c d e f g h i=>Afc N k a b c d e f g h i j l) a b c d e f g h i j l
def A6n(Afc:Ayr)(N k:Nat):Aar Al2:=fun R x K=>Afc N k x.1.2.1 x.1.2.2.1 x.1.2.2.2.1 x.2.1.1 x.2.1.2.1 x.2.1.2.2.1 x.2.1.2.2.2.1 x.2.1.2.2.2.2.1 x.2.1.2.2.2.2.2.1 (fun y0=>K .ret (Aab A0r ((y0,()),(())))) (fun y0 y1 y2 y3 y4 y5=>K (.exit 0) (Aab A0s (((),()),((y0,y1,y2,y3,y4,y5,()),()))))
def Bhs(N k:Nat):Aar Al2:=A6n @Afc N k
def Alh:Aac:=⟨[wq7,(7,.one (.mp 33)),(50,.one (.val z1)),(51,.one wq0),(52,.one wq0)],[Bdi,(33,.amap 79 (.int .i64) .bool)]⟩
def Ays:Aac:=⟨Bbu,[]⟩
def Ayt:Aac:=⟨[],[]⟩
def Buq:Ac8:=.cons .ret Ays (.cons (.exit 2) Ayt (.nil))
abbrev Bef(R:Type):=d1->Int->Int->(List UInt8)->d5->d4->d1->Int->Int->d3->(Bool->Option R)->(Option R)->Option R
abbrev Bur(R:Type):=d1->Int->Int->(List UInt8)->d5->d4->d1->Int->Int->d3->Option R
abbrev Awp:={R:Type}→Nat→Nat→Bef R
def A21(Ab6:Ali){R:Type}(N:Nat)(rc:Bur R):Bef R:=fun b e a h i j l f m g c n=>if ((decide (a<e))=true) then (if (0≤a∧a<len b) then (let d:=(b.getD a.toNat (0,0)).1;Ab6 N d 1 199 fun o=>if ((!o)=true) then (c false) else if ((Option.getD (Ash (kt:=(.int .i64)) (et:=.bool) d g) false)=true) then (c false) else Ab6 N ((b.getD a.toNat (0,0)).2) 1 f fun p=>if ((!p)=true) then (c false) else rc b e (wi (a+1)) h i j l f m (Az9 (kt:=(.int .i64)) (et:=.bool) d true g)) else none) else n
def Ael{R:Type}(N:Nat):Nat→Bef R
 |0=>fun _ _ _ _ _ _ _ _ _ _ _ _=>none
 |k+1=>fun a b c d e f g h i j l m=>A21 @Ab6 N (fun a b c d e f g h i j=>Ael N k a b c d e f g h i j l m) a b c d e f g h i j l m
def A22(Ael:Awp)(N k:Nat):Aar Alh:=fun R x K=>Ael N k x.1.2.2.1 x.1.2.2.2.1 x.1.2.2.2.2.1 x.2.1.1 x.2.1.2.1 x.2.1.2.2.1 x.2.1.2.2.2.1 x.2.1.2.2.2.2.1 x.2.1.2.2.2.2.2.1 x.2.2.1 (fun y0=>K .ret (Aab Ays ((y0,()),(())))) (K (.exit 2) (Aab Ayt ((()),(()))))
def Beg(N k:Nat):Aar Alh:=A22 @Ael N k
def Bpo:Aac:=⟨A2u,[]⟩
def A6o:Aac:=⟨Agj,[]⟩
abbrev Cwi(R:Type):=(List UInt8)->d5->d4->d1->Int->Int->(Bool->Option R)->Option R
abbrev Ar6:={R:Type}→Nat→Cwi R
def Bpp(Afc:Ayr)(Ael:Awp):Ar6:=fun {R} N d a e f g h b=>Afc N N a (len a) 0 d a e f g h (fun i=>b i) fun j l m c n o=>Ael N N c (len c) 0 j l m c n o ([]:List (Int×Bool)) (fun p=>b p) (b true)
def Af3:Ar6:=@Bpp @Afc @Ael
def Dij(N:Nat):Aa0 Bpo [A6o]:=fun R x C=>Af3 N x.1.1.1 x.1.1.2.1 x.1.1.2.2.1 x.1.1.2.2.2.1 x.1.1.2.2.2.2.1 x.1.1.2.2.2.2.2.1 (fun y0=>C.1 ((y0,()),(())))
def A4i(Af3:Ar6)(N:Nat):Go.AX.Aae:=Aa9 [true] [] false 1 0 Bpo [A6o] (fun R x C=>Af3 N x.1.1.1 x.1.1.2.1 x.1.1.2.2.1 x.1.1.2.2.2.1 x.1.1.2.2.2.2.1 x.1.1.2.2.2.2.2.1 (fun y0=>C.1 ((y0,()),(()))))
def B46(N:Nat):Go.AX.Aae:=A4i @Af3 N
def Dik(N:Nat):List (Nat×Abu):=[(5,Aaa Al2 (Bhs N N)),(27,Aaa Alh (Beg N N))]
def Cwj(N:Nat):List (Nat×Go.AX.Aae):=[(83,B0w N),(122,A0l N),(121,Bhf N)]
def A4j:Code:=Tryz.f46.body.getD .skip
def Aqv:Aac:=⟨[wq7,Bt9,Den],Bas⟩
def A79:Aac:=⟨C2b,[]⟩
def A8a:Aac:=⟨[],[]⟩
def Bus:Ac8:=.cons .ret A79 (.cons .normal A8a (.nil))
abbrev Cii(R:Type):=Int->Bool->Int->Int->Int->(Int->Option R)->(Option R)->Option R
abbrev Awq:={R:Type}→Nat→Cii R
def Afk:Awq:=fun {R} N b c g d e a f=>if (c=true) then (a d) else if ((b==30)=true) then (a e) else f
def Beh(Afk:Awq)(N:Nat):Aar Aqv:=fun R x K=>Afk N x.1.2.1 x.1.2.2.1 x.2.1.1 x.2.1.2.1 x.2.1.2.2.1 (fun y0=>K .ret (Aab A79 ((y0,()),(())))) (K .normal (Aab A8a ((()),(()))))
def But(N:Nat):Aar Aqv:=Beh @Afk N
def Bpq:Aac:=⟨Cz4,[]⟩
def A6p:Aac:=⟨Aio,[]⟩
abbrev Cwk(R:Type):=Int->Int->Int->(Int->Option R)->Option R
abbrev Ai7:={R:Type}→Nat→Cwk R
def Bpr(Afk:Awq):Ai7:=fun {R} N a c d b=>if ((a==20)=true) then (Afk N a (a==20) a c d (fun e=>b e) (b 0)) else if ((a==21)=true) then (Afk N a (a==21) a c d (fun f=>b f) (b 0)) else if ((a==22)=true) then (Afk N a (a==22) a c d (fun g=>b g) (b 0)) else if ((a==27)=true) then (Afk N a (a==27) a c d (fun h=>b h) (b 0)) else Afk N a (a==29) a c d (fun i=>b i) (b 0)
def Aby:Ai7:=@Bpr @Afk
def Dil(N:Nat):Aa0 Bpq [A6p]:=fun R x C=>Aby N x.1.1.1 x.1.1.2.1 x.1.1.2.2.1 (fun y0=>C.1 ((y0,()),(())))
def Apb(Aby:Ai7)(N:Nat):Go.AX.Aae:=Aa9 [true] [] false 1 0 Bpq [A6p] (fun R x C=>Aby N x.1.1.1 x.1.1.2.1 x.1.1.2.2.1 (fun y0=>C.1 ((y0,()),(()))))
def Bdn(N:Nat):Go.AX.Aae:=Apb @Aby N
def Dim(N:Nat):List (Nat×Abu):=[(14,Aaa Aqv (But N))]
def Cwl(N:Nat):List (Nat×Go.AX.Aae):=[]
def Amf:Aac:=⟨[C8a,(9,.one (.slf 33)),Csk,(13,.one (.ptr 34)),Deg,Dep,Deq],Ceg⟩
def A8b:Aac:=⟨Bbu,[]⟩
def A8c:Aac:=⟨[C8a,(9,.one (.slf 33)),Csk,Deg,Dep,Deq],Bar⟩
def Buu:Ac8:=.cons .ret A8b (.cons .normal A8c (.nil))
abbrev Cij(R:Type):=Int->d4->Int->Int->d0->d0->Int->Int->Int->(Bool->Option R)->(Int->d4->Int->Int->d0->d0->Option R)->Option R
abbrev Aoh:={R:Type}→Nat→Cij R
def Bei(Aby:Ai7):Aoh:=fun {R} N d e f g b c j l m h i=>Aby N j l m fun a=>if ((decide (a > 0))=true) then (if (0≤a∧a<len c) then (if (((c.getD a.toNat 0) != d)=true) then (h false) else if (0≤a∧a<len b) then (if (((b.getD a.toNat 0)==0)=true) then (h false) else i d e f g b c) else none) else none) else i d e f g b c
def Aem:Aoh:=@Bei @Aby
def Awr(Aem:Aoh)(N:Nat):Aar Amf:=fun R x K=>Aem N x.1.2.2.1 x.1.2.2.2.2.1 x.1.2.2.2.2.2.1 x.1.2.2.2.2.2.2.1 x.2.1 x.2.2.1 x.2.2.2.1.1 x.2.2.2.1.2.1 x.2.2.2.1.2.2.1 (fun y0=>K .ret (Aab A8b ((y0,()),(())))) (fun y0 y1 y2 y3 y4 y5=>K .normal (Aab A8c (((),(),y0,y1,y2,y3,()),(y4,y5,()))))
def Buv(N:Nat):Aar Amf:=Awr @Aem N
def Ake:Aac:=⟨[C8a,(9,.one (.slf 33)),Csk,Deg,Dep,Deq],Bar⟩
def Ayu:Aac:=⟨Bbu,[]⟩
def Ayv:Aac:=⟨[],[]⟩
def Buw:Ac8:=.cons .ret Ayu (.cons (.exit 2) Ayv (.nil))
abbrev Bej(R:Type):=Int->d4->Int->Int->d0->d0->(Bool->Option R)->(Option R)->Option R
abbrev Bux(R:Type):=Int->d4->Int->Int->d0->d0->Option R
abbrev Asp:={R:Type}→Nat→Nat→Bej R
def Bek(Aem:Aoh){R:Type}(N:Nat)(rc:Bux R):Bej R:=fun j b c a f g h l=>if ((decide (a<c))=true) then (if (0≤a∧a<len b) then (let d:=(b.getD a.toNat (0,(0,0))).1;let e:=(b.getD a.toNat (0,(0,0))).2.1;let i:=(b.getD a.toNat (0,(0,0))).2.2;if ((d==24)=true) then (Aem N e b c a f g d e i (fun m=>h m) fun n o p q r s=>rc n o p (wi (q+1)) r s) else Aem N j b c a f g d e i (fun t=>h t) fun u v w x y z=>rc u v w (wi (x+1)) y z) else none) else l
def Ad1{R:Type}(N:Nat):Nat→Bej R
 |0=>fun _ _ _ _ _ _ _ _=>none
 |k+1=>fun a b c d e f g h=>Bek @Aem N (fun a b c d e f=>Ad1 N k a b c d e f g h) a b c d e f g h
def Aws(Ad1:Asp)(N k:Nat):Aar Ake:=fun R x K=>Ad1 N k x.1.2.2.1 x.1.2.2.2.1 x.1.2.2.2.2.1 x.1.2.2.2.2.2.1 x.2.1 x.2.2.1 (fun y0=>K .ret (Aab Ayu ((y0,()),(())))) (K (.exit 2) (Aab Ayv ((()),(()))))
def Bel(N k:Nat):Aar Ake:=Aws @Ad1 N k
def Bps:Aac:=⟨A2u,[]⟩
def A6q:Aac:=⟨Agj,[]⟩
abbrev Cwm(R:Type):=(List UInt8)->d5->d4->d1->Int->Int->(Bool->Option R)->Option R
abbrev A4k:={R:Type}→Nat→Cwm R
def Bpt(Aed:Ao9)(Ab2:Aj4)(Aea:Asi)(Ac5:Alt)(Af2:Ar5)(Af3:Ar6)(Ad1:Asp):A4k:=fun {R} N d m c n e f a=>Aed N d fun y0 o=>if ((o != 0)=true) then (a false) else if ((decide (e<0))=true) then (a false) else if ((decide (f<0))=true) then (a false) else Ab2 N fun p q r s t u v w x y z A B C D E F G H I J L M O P Q S T U V W X Y Z aa ab ac ad ae af ag ah ai aj ak al am an ao ap aq ar au av aw ax ay az ba bb bc bd be bf bg bh bi bj bk bl bm bn bo bp bq br bs bt bu bv bw bx bz ca cb cc cd ce cf cg ch ci cj ck cl cm cn co cp cq cr cs ct cu cv cw cx cy cz da db dc dd de df dg dh di dj dk dl dm dn dp=>Aea N N c (len c) 0 d m c n e f ((p,(q,(r,s)))::((t,(u,(v,w)))::((x,(y,(z,A)))::((B,(C,(D,E)))::((F,(G,(H,I)))::((J,(L,(M,O)))::((P,(Q,(S,T)))::((U,(V,(W,X)))::((Y,(Z,(aa,ab)))::((ac,(ad,(ae,af)))::((ag,(ah,(ai,aj)))::((ak,(al,(am,an)))::((ao,(ap,(aq,ar)))::((au,(av,(aw,ax)))::((ay,(az,(ba,bb)))::((bc,(bd,(be,bf)))::((bg,(bh,(bi,bj)))::((bk,(bl,(bm,bn)))::((bo,(bp,(bq,br)))::((bs,(bt,(bu,bv)))::((bw,(bx,(bz,ca)))::((cb,(cc,(cd,ce)))::((cf,(cg,(ch,ci)))::((cj,(ck,(cl,cm)))::((cn,(co,(cp,cq)))::((cr,(cs,(ct,cu)))::((cv,(cw,(cx,cy)))::((cz,(da,(db,dc)))::((dd,(de,(df,dg)))::((dh,(di,(dj,dk)))::((dl,(dm,(dn,dp)))::([]:List (List UInt8×Int×Int×Int))))))))))))))))))))))))))))))))) (fun dq=>a dq) fun g h b i j l=>Ac5 N g h b i j l fun dr ds dt=>if ((!dr)=true) then (a false) else Af2 N b fun du=>if ((!du)=true) then (a false) else Af3 N g h b i j l fun dv=>if ((!dv)=true) then (a false) else Ad1 N N 0 b (len b) 0 ds dt (fun dw=>a dw) (a true)
def Amz:A4k:=@Bpt @Aed @Ab2 @Aea @Ac5 @Af2 @Af3 @Ad1
def Din(N:Nat):Aa0 Bps [A6q]:=fun R x C=>Amz N x.1.1.1 x.1.1.2.1 x.1.1.2.2.1 x.1.1.2.2.2.1 x.1.1.2.2.2.2.1 x.1.1.2.2.2.2.2.1 (fun y0=>C.1 ((y0,()),(())))
def B47(Amz:A4k)(N:Nat):Go.AX.Aae:=Aa9 [true] [] false 1 0 Bps [A6q] (fun R x C=>Amz N x.1.1.1 x.1.1.2.1 x.1.1.2.2.1 x.1.1.2.2.2.1 x.1.1.2.2.2.2.1 x.1.1.2.2.2.2.2.1 (fun y0=>C.1 ((y0,()),(()))))
def B48(N:Nat):Go.AX.Aae:=B47 @Amz N
def Dio(N:Nat):List (Nat×Abu):=[(13,Aaa Akc (Bd7 N N)),(40,Aaa Amf (Buv N)),(33,Aaa Ake (Bel N N))]
def Cwn(N:Nat):List (Nat×Go.AX.Aae):=[(83,B0w N),(44,Bdm N),(84,Bx7 N),(85,Blm N),(86,B45 N),(87,B46 N),(46,Bdn N)]
def Arm:Code:=Tryz.f43.body.getD .skip
def Atx:Code:=Tryz.f88.body.getD .skip
def Aq9:Aac:=⟨[Akb,C18,wq5,(6,.one (.ptr 33)),Cif,(11,.one (.val .bool))],C8v⟩
def Bem:Aac:=⟨[C19],[]⟩
def Ben:Aac:=⟨[Akb,wq5,(6,.one (.ptr 33))],C8v⟩
def B1v:Ac8:=.cons .ret Bem (.cons .normal Ben (.nil))
abbrev Csn(R:Type):=Int->Bool->Int->Bool->Int->Int->Int->(List UInt8)->Int->Int->Int->(Bool->Option R)->(Int->Int->Int->Int->(List UInt8)->Int->Int->Int->Option R)->Option R
abbrev Asq:={R:Type}→Nat→Csn R
def Bln(Ab6:Ali):Asq:=fun {R} N b m l n c a d e f g h j i=>if (n=true) then (Ab6 N a 2 (wi (b-1)) fun o=>if ((!o)=true) then (j false) else i b c a d e f g h) else if ((l==4)=true) then (if ((decide (a<2))=true) then (j false) else i b c a d e f g h) else if ((l==23)=true) then (Ab6 N a 2 (wi (b-3)) fun p=>if ((!p)=true) then (j false) else i b c a d e f g h) else if ((l==18)=true) then (if ((!m)=true) then (if ((decide (a > (wi ((wi (b+2000))+2))))=true) then (j false) else i b c a d e f g h) else i b c a d e f g h) else i b c a d e f g h
def Ahj:Asq:=@Bln @Ab6
def Bav(Ahj:Asq)(N:Nat):Aar Aq9:=fun R x K=>Ahj N x.1.1 x.1.2.1 x.1.2.2.2.2.1 x.1.2.2.2.2.2.1 x.2.1.1 x.2.1.2.1 x.2.1.2.2.1 x.2.2.1.1 x.2.2.1.2.1 x.2.2.1.2.2.1 x.2.2.1.2.2.2.1 (fun y0=>K .ret (Aab Bem ((y0,()),(())))) (fun y0 y1 y2 y3 y4 y5 y6 y7=>K .normal (Aab Ben ((y0,(),(),()),((y1,y2,y3,()),(y4,y5,y6,y7,()),()))))
def B1w(N:Nat):Aar Aq9:=Bav @Ahj N
def Aqe:Aac:=⟨[Akb,wq5,(6,.one (.ptr 33))],C8v⟩
def Bb1:Aac:=⟨[C19],[]⟩
def Byg:Ac8:=.cons .ret Bb1 (.nil)
abbrev Cof(R:Type):=Int->Int->Int->Int->(List UInt8)->Int->Int->Int->(Bool->Option R)->Option R
abbrev Auc:={R:Type}→Nat→Cof R
def Af8:Auc:=fun {R} N b c e f g h d i a=>if ((c==24)=true) then (a true) else a (decide ((wi (b-d))≥2))
def A6r(Af8:Auc)(N:Nat):Aar Aqe:=fun R x K=>Af8 N x.1.1 x.2.1.1 x.2.1.2.1 x.2.1.2.2.1 x.2.2.1.1 x.2.2.1.2.1 x.2.2.1.2.2.1 x.2.2.1.2.2.2.1 (fun y0=>K .ret (Aab Bb1 ((y0,()),(()))))
def Byh(N:Nat):Aar Aqe:=A6r @Af8 N
def Buy:Aac:=⟨[Cef,Akb,C8p,C18],[]⟩
def Baw:Aac:=⟨Agj,[]⟩
abbrev C2h(R:Type):=Int->Int->Int->Int->(List UInt8)->Int->Int->Int->Bool->(Bool->Option R)->Option R
abbrev A13:={R:Type}→Nat→C2h R
def Buz(Ahj:Asq)(Af8:Auc):A13:=fun {R} N a c d e f g h i j b=>if ((a==2)=true) then (Ahj N e j a (a==2) a c d f g h i (fun l=>b l) fun m n o p q r s t=>Af8 N m n o p q r s t fun u=>b u) else Ahj N e j a (a==3) a c d f g h i (fun v=>b v) fun w x y z A B C D=>Af8 N w x y z A B C D fun E=>b E
def Ais:A13:=@Buz @Ahj @Af8
def Dkr(N:Nat):Aa0 Buy [Baw]:=fun R x C=>Ais N x.1.1.1 x.1.1.2.1 x.1.1.2.2.1 x.1.2.1 x.1.2.2.1.1 x.1.2.2.1.2.1 x.1.2.2.1.2.2.1 x.1.2.2.1.2.2.2.1 x.1.2.2.2.1 (fun y0=>C.1 ((y0,()),(())))
def Bu0(Ais:A13)(N:Nat):Go.AX.Aae:=Aa9 [true,true,true,true] [] false 4 0 Buy [Baw] (fun R x C=>Ais N x.1.1.1 x.1.1.2.1 x.1.1.2.2.1 x.1.2.1 x.1.2.2.1.1 x.1.2.2.1.2.1 x.1.2.2.1.2.2.1 x.1.2.2.1.2.2.2.1 x.1.2.2.2.1 (fun y0=>C.1 ((y0,()),(()))))
def B9t(N:Nat):Go.AX.Aae:=Bu0 @Ais N
def Dks(N:Nat):List (Nat×Abu):=[(8,Aaa Aq9 (B1w N)),(30,Aaa Aqe (Byh N))]
def C2i(N:Nat):List (Nat×Go.AX.Aae):=[(121,Bhf N)]
def Ar7:Code:=Tryz.f45.body.getD .skip
def Aoi:Aac:=⟨Csi,Bas⟩
def A8d:Aac:=⟨[Bbv],[]⟩
def Bu1:Ac8:=.cons .ret A8d (.nil)
abbrev Cik(R:Type):=Int->Int->Int->(Int->Option R)->Option R
abbrev Asr:={R:Type}→Nat→Cik R
def Afl:Asr:=fun {R} N c a d b=>b (wi (a+1))
def A23(Afl:Asr)(N:Nat):Aar Aoi:=fun R x K=>Afl N x.2.1.1 x.2.1.2.1 x.2.1.2.2.1 (fun y0=>K .ret (Aab A8d ((y0,()),(()))))
def Bu2(N:Nat):Aar Aoi:=A23 @Afl N
def Aoj:Aac:=⟨[Akb,C13],[(32,.cells 74 C8n)]⟩
def A8e:Aac:=⟨[Bbv],[]⟩
def Bu3:Ac8:=.cons .ret A8e (.nil)
abbrev Cil(R:Type):=Int->(List UInt8)->Int->Int->Int->(Int->Option R)->Option R
abbrev Ass:={R:Type}→Nat→Cil R
def Af0:Ass:=fun {R} N a e f b c d=>d (wi ((wi (a-b))+c))
def A24(Af0:Ass)(N:Nat):Aar Aoj:=fun R x K=>Af0 N x.1.1 x.2.1.1 x.2.1.2.1 x.2.1.2.2.1 x.2.1.2.2.2.1 (fun y0=>K .ret (Aab A8e ((y0,()),(()))))
def Bu4(N:Nat):Aar Aoj:=A24 @Af0 N
def Bpu:Aac:=⟨[Cef,Akb,C8p],[]⟩
def A6s:Aac:=⟨Aio,[]⟩
abbrev Cwo(R:Type):=Int->Int->Int->Int->(List UInt8)->Int->Int->Int->(Int->Option R)->Option R
abbrev Apc:={R:Type}→Nat→Cwo R
def Bpv(Afl:Asr)(Af0:Ass):Apc:=fun {R} N a c d e f g h i b=>if ((a==18)=true) then (b c) else if ((a==24)=true) then (b (wi (2+d))) else if ((a==23)=true) then (Afl N a c d fun j=>b j) else if ((a==28)=true) then (Afl N a c d fun l=>b l) else Af0 N e f g h i fun m=>b m
def Adv:Apc:=@Bpv @Afl @Af0
def Dip(N:Nat):Aa0 Bpu [A6s]:=fun R x C=>Adv N x.1.1.1 x.1.1.2.1 x.1.1.2.2.1 x.1.2.1 x.1.2.2.1.1 x.1.2.2.1.2.1 x.1.2.2.1.2.2.1 x.1.2.2.1.2.2.2.1 (fun y0=>C.1 ((y0,()),(())))
def Axx(Adv:Apc)(N:Nat):Go.AX.Aae:=Aa9 [true,true,true] [] false 3 0 Bpu [A6s] (fun R x C=>Adv N x.1.1.1 x.1.1.2.1 x.1.1.2.2.1 x.1.2.1 x.1.2.2.1.1 x.1.2.2.1.2.1 x.1.2.2.1.2.2.1 x.1.2.2.1.2.2.2.1 (fun y0=>C.1 ((y0,()),(()))))
def Bpw(N:Nat):Go.AX.Aae:=Axx @Adv N
def Diq(N:Nat):List (Nat×Abu):=[(16,Aaa Aoi (Bu2 N)),(18,Aaa Aoj (Bu4 N))]
def Cwp(N:Nat):List (Nat×Go.AX.Aae):=[]
def Au5:Code:=Tryz.f89.body.getD .skip
def Anp:Aac:=⟨A6g,[]⟩
def A0t:Aac:=⟨C8h,[]⟩
def Byi:Ac8:=.cons (.exit 0) A0t (.nil)
abbrev Bht(R:Type):=d4->Int->(Int->Option R)->Option R
abbrev Byj(R:Type):=d4->Int->Option R
abbrev A6t:={R:Type}→Nat→Nat→Bht R
def Bhu{R:Type}(N:Nat)(rc:Byj R):Bht R:=fun b a c=>if (0≤a∧a<len b) then (if (((b.getD a.toNat (0,(0,0))).1==19)=true) then (rc b (wi (a+1))) else c a) else none
def Ag8{R:Type}(N:Nat):Nat→Bht R
 |0=>fun _ _ _=>none
 |k+1=>fun a b c=>Bhu N (fun a b=>Ag8 N k a b c) a b c
def Bhv(Ag8:A6t)(N k:Nat):Aar Anp:=fun R x K=>Ag8 N k x.1.1 x.1.2.1 (fun y0=>K (.exit 0) (Aab A0t ((y0,()),(()))))
def Bhw(N k:Nat):Aar Anp:=Bhv @Ag8 N k
def Bpx:Aac:=⟨A6g,[]⟩
def A6u:Aac:=⟨Aio,[]⟩
abbrev Cwq(R:Type):=d4->Int->(Int->Option R)->Option R
abbrev Axy:={R:Type}→Nat→Cwq R
def Bpy(Ag8:A6t):Axy:=fun {R} N a b c=>Ag8 N N a b fun d=>c d
def Ae7:Axy:=@Bpy @Ag8
def Dir(N:Nat):Aa0 Bpx [A6u]:=fun R x C=>Ae7 N x.1.1 x.1.2.1 (fun y0=>C.1 ((y0,()),(())))
def Bpz(Ae7:Axy)(N:Nat):Go.AX.Aae:=Aa9 [true,true] [] false 2 0 Bpx [A6u] (fun R x C=>Ae7 N x.1.1 x.1.2.1 (fun y0=>C.1 ((y0,()),(()))))
def B49(N:Nat):Go.AX.Aae:=Bpz @Ae7 N
def Dis(N:Nat):List (Nat×Abu):=[(3,Aaa Anp (Bhw N N))]
def Cwr(N:Nat):List (Nat×Go.AX.Aae):=[]
def Ak7:Aac:=⟨[wq7,(3,.one (.ptr 1000)),(4,.one (.slf 33)),Bt7,(19,.one (.val z4)),(20,.one wq0),(21,.one wq0)],[Bdi,Cie,C2c]⟩
def Avr:Aac:=⟨Bbu,[]⟩
def Avs:Aac:=⟨[],[]⟩
def Bnq:Ac8:=.cons .ret Avr (.cons (.exit 0) Avs (.nil))
abbrev A8f(R:Type):=Int->d4->Int->Int->(List UInt8)->d5->d4->d1->Int->Int->d0->d6->(Bool->Option R)->(Option R)->Option R
abbrev Aty(R:Type):=Int->d4->Int->Int->(List UInt8)->d5->d4->d1->Int->Int->d0->d6->Option R
abbrev Ayw:={R:Type}→Nat→Nat→A8f R
def A8g(Ais:A13)(Adv:Apc)(Aby:Ai7)(Ae7:Axy)(Acg:Alu){R:Type}(N:Nat)(rc:Aty R):A8f R:=fun s e g c h i a j l m f d n L=>if ((decide (c<g))=true) then (if (0≤c∧c<len e) then (let b:=(e.getD c.toNat (0,(0,0))).1;let q:=(e.getD c.toNat (0,(0,0))).2.1;let r:=(e.getD c.toNat (0,(0,0))).2.2;if ((0≤b)∧(b<31)) then (if (b<(len d)) then (let t:=(d.getD b.toNat (([]:List UInt8),(0,(0,0)))).1;let u:=(d.getD b.toNat (([]:List UInt8),(0,(0,0)))).2.1;let v:=(d.getD b.toNat (([]:List UInt8),(0,(0,0)))).2.2.1;let w:=(d.getD b.toNat (([]:List UInt8),(0,(0,0)))).2.2.2;if ((decide (c > 0))=true) then (let D:=(wi (c-1));if (0≤D∧D<len a) then (Ais N b q r s t u v w ((a.getD D.toNat (0,(0,0))).1==19) fun M=>if ((!M)=true) then (n false) else if ((0≤b)∧(b<31)) then (if (b<(len d)) then (Adv N b q r s t u v w fun o=>if ((decide (o<2))=true) then (n false) else if ((decide (o > 4000))=true) then (n false) else Aby N b q r fun x=>if ((decide (x > 0))=true) then (if (0≤x∧x<len f) then (Ae7 N a (f.getD x.toNat 0) fun E=>if (0≤E∧E<len a) then (if ((!(((a.getD E.toNat (0,(0,0))).1==28)==(b==27)))=true) then (n false) else if ((b != 19)=true) then (Acg N a c fun O=>if ((!O)=true) then (let y:=(wi (c+1));if ((decide (y<(len a)))=true) then (Ae7 N a y fun F=>if (0≤F∧F<len a) then (if (((a.getD F.toNat (0,(0,0))).1==28)=true) then (n false) else rc o e g y h i a j l m f d) else none) else rc o e g y h i a j l m f d) else rc o e g (wi (c+1)) h i a j l m f d) else rc o e g (wi (c+1)) h i a j l m f d) else none) else none) else if ((b != 19)=true) then (Acg N a c fun P=>if ((!P)=true) then (let z:=(wi (c+1));if ((decide (z<(len a)))=true) then (Ae7 N a z fun G=>if (0≤G∧G<len a) then (if (((a.getD G.toNat (0,(0,0))).1==28)=true) then (n false) else rc o e g z h i a j l m f d) else none) else rc o e g z h i a j l m f d) else rc o e g (wi (c+1)) h i a j l m f d) else rc o e g (wi (c+1)) h i a j l m f d) else none) else none) else none) else Ais N b q r s t u v w false fun Q=>if ((!Q)=true) then (n false) else if ((0≤b)∧(b<31)) then (if (b<(len d)) then (Adv N b q r s t u v w fun p=>if ((decide (p<2))=true) then (n false) else if ((decide (p > 4000))=true) then (n false) else Aby N b q r fun A=>if ((decide (A > 0))=true) then (if (0≤A∧A<len f) then (Ae7 N a (f.getD A.toNat 0) fun H=>if (0≤H∧H<len a) then (if ((!(((a.getD H.toNat (0,(0,0))).1==28)==(b==27)))=true) then (n false) else if ((b != 19)=true) then (Acg N a c fun S=>if ((!S)=true) then (let B:=(wi (c+1));if ((decide (B<(len a)))=true) then (Ae7 N a B fun I=>if (0≤I∧I<len a) then (if (((a.getD I.toNat (0,(0,0))).1==28)=true) then (n false) else rc p e g B h i a j l m f d) else none) else rc p e g B h i a j l m f d) else rc p e g (wi (c+1)) h i a j l m f d) else rc p e g (wi (c+1)) h i a j l m f d) else none) else none) else if ((b != 19)=true) then (Acg N a c fun T=>if ((!T)=true) then (let C:=(wi (c+1));if ((decide (C<(len a)))=true) then (Ae7 N a C fun J=>if (0≤J∧J<len a) then (if (((a.getD J.toNat (0,(0,0))).1==28)=true) then (n false) else rc p e g C h i a j l m f d) else none) else rc p e g C h i a j l m f d) else rc p e g (wi (c+1)) h i a j l m f d) else rc p e g (wi (c+1)) h i a j l m f d) else none) else none) else none) else none) else none) else L
def Aer{R:Type}(N:Nat):Nat→A8f R
 |0=>fun _ _ _ _ _ _ _ _ _ _ _ _ _ _=>none
 |k+1=>fun a b c d e f g h i j l m n o=>A8g @Ais @Adv @Aby @Ae7 @Acg N (fun a b c d e f g h i j l m=>Aer N k a b c d e f g h i j l m n o) a b c d e f g h i j l m n o
def A8h(Aer:Ayw)(N k:Nat):Aar Ak7:=fun R x K=>Aer N k x.1.2.2.2.1 x.1.2.2.2.2.1 x.1.2.2.2.2.2.1 x.1.2.2.2.2.2.2.1 x.2.1.1 x.2.1.2.1 x.2.1.2.2.1 x.2.1.2.2.2.1 x.2.1.2.2.2.2.1 x.2.1.2.2.2.2.2.1 x.2.2.1 x.2.2.2.1 (fun y0=>K .ret (Aab Avr ((y0,()),(())))) (K (.exit 0) (Aab Avs ((()),(()))))
def A8i(N k:Nat):Aar Ak7:=A8h @Aer N k
def Bhx:Aac:=⟨A2u,[]⟩
def A0u:Aac:=⟨Agj,[]⟩
abbrev Cog(R:Type):=(List UInt8)->d5->d4->d1->Int->Int->(Bool->Option R)->Option R
abbrev Ayx:={R:Type}→Nat→Cog R
def Bhy(Ab2:Aj4)(Ac5:Alt)(Aer:Ayw):Ayx:=fun {R} N b c a d e f g=>Ab2 N fun h i j l m n o p q r s t u v w x y z A B C D E F G H I J L M O P Q S T U V W X Y Z aa ab ac ad ae af ag ah ai aj ak al am an ao ap aq ar au av aw ax ay az ba bb bc bd be bf bg bh bi bj bk bl bm bn bo bp bq br bs bt bu bv bw bx bz ca cb cc cd ce cf cg ch ci cj ck cl cm cn co cp cq cr cs ct cu cv cw cx cy cz da db dc dd de df dg dh=>Ac5 N b c a d e f fun dk di dl=>Aer N N 0 a (len a) 0 b c a d e f di ((h,(i,(j,l)))::((m,(n,(o,p)))::((q,(r,(s,t)))::((u,(v,(w,x)))::((y,(z,(A,B)))::((C,(D,(E,F)))::((G,(H,(I,J)))::((L,(M,(O,P)))::((Q,(S,(T,U)))::((V,(W,(X,Y)))::((Z,(aa,(ab,ac)))::((ad,(ae,(af,ag)))::((ah,(ai,(aj,ak)))::((al,(am,(an,ao)))::((ap,(aq,(ar,au)))::((av,(aw,(ax,ay)))::((az,(ba,(bb,bc)))::((bd,(be,(bf,bg)))::((bh,(bi,(bj,bk)))::((bl,(bm,(bn,bo)))::((bp,(bq,(br,bs)))::((bt,(bu,(bv,bw)))::((bx,(bz,(ca,cb)))::((cc,(cd,(ce,cf)))::((cg,(ch,(ci,cj)))::((ck,(cl,(cm,cn)))::((co,(cp,(cq,cr)))::((cs,(ct,(cu,cv)))::((cw,(cx,(cy,cz)))::((da,(db,(dc,dd)))::((de,(df,(dg,dh)))::([]:List (List UInt8×Int×Int×Int))))))))))))))))))))))))))))))))) (fun dj=>g dj) (g true)
def Akx:Ayx:=@Bhy @Ab2 @Ac5 @Aer
def Dgg(N:Nat):Aa0 Bhx [A0u]:=fun R x C=>Akx N x.1.1.1 x.1.1.2.1 x.1.1.2.2.1 x.1.1.2.2.2.1 x.1.1.2.2.2.2.1 x.1.1.2.2.2.2.2.1 (fun y0=>C.1 ((y0,()),(())))
def Byk(Akx:Ayx)(N:Nat):Go.AX.Aae:=Aa9 [true] [] false 1 0 Bhx [A0u] (fun R x C=>Akx N x.1.1.1 x.1.1.2.1 x.1.1.2.2.1 x.1.1.2.2.2.1 x.1.1.2.2.2.2.1 x.1.1.2.2.2.2.2.1 (fun y0=>C.1 ((y0,()),(()))))
def Byl(N:Nat):Go.AX.Aae:=Byk @Akx N
def Dgh(N:Nat):List (Nat×Abu):=[(11,Aaa Ak7 (A8i N N))]
def Coh(N:Nat):List (Nat×Go.AX.Aae):=[(44,Bdm N),(85,Blm N),(88,B9t N),(45,Bpw N),(46,Bdn N),(89,B49 N),(75,Bhk N)]
def Bp0:Aac:=⟨A2u,[]⟩
def A6v:Aac:=⟨Aio,[]⟩
abbrev Cws(R:Type):=(List UInt8)->d5->d4->d1->Int->Int->(Int->Option R)->Option R
abbrev Au6:={R:Type}→Nat→Cws R
def Bp1(Amy:A4e)(Amz:A4k)(Akx:Ayx):Au6:=fun {R} N b c d e f g a=>Amy N b c d e f g fun h=>if (h=true) then (a 2) else Amz N b c d e f g fun i=>if ((!i)=true) then (a 60) else Akx N b c d e f g fun j=>if ((!j)=true) then (a 61) else a 0
def Ah2:Au6:=@Bp1 @Amy @Amz @Akx
def Dit(N:Nat):Aa0 Bp0 [A6v]:=fun R x C=>Ah2 N x.1.1.1 x.1.1.2.1 x.1.1.2.2.1 x.1.1.2.2.2.1 x.1.1.2.2.2.2.1 x.1.1.2.2.2.2.2.1 (fun y0=>C.1 ((y0,()),(())))
def Bdo(Ah2:Au6)(N:Nat):Go.AX.Aae:=Aa9 [true] [] false 1 0 Bp0 [A6v] (fun R x C=>Ah2 N x.1.1.1 x.1.1.2.1 x.1.1.2.2.1 x.1.1.2.2.2.1 x.1.1.2.2.2.2.1 x.1.1.2.2.2.2.2.1 (fun y0=>C.1 ((y0,()),(()))))
def B5a(N:Nat):Go.AX.Aae:=Bdo @Ah2 N
def Diu(N:Nat):List (Nat×Abu):=[]
def Cwt(N:Nat):List (Nat×Go.AX.Aae):=[(41,B40 N),(42,B48 N),(43,Byl N)]
def Am3:Aac:=⟨[C8c,C8b,Bt7,(9,.one (.ptr 33)),Deh,C8f,C8e],[Csj,C8o,C2c]⟩
def A5c:Aac:=⟨[C8c,C8b,Bt7,Deh,C8f,C8e],[Csj,C2c]⟩
def Brq:Ac8:=.cons .normal A5c (.nil)
abbrev Cer(R:Type):=Int->d4->Int->Int->d0->Int->Int->Int->d6->(Int->d4->Int->Int->d0->d6->Option R)->Option R
abbrev Ap2:={R:Type}→Nat→Cer R
def Bb2(Adv:Apc):Ap2:=fun {R} N c e f g d a h i b j=>if ((((List.length d)+(List.length (c::([]:List Int))))*(8:Nat))≤(70368744177664:Nat)) then (if ((0≤a)∧(a<31)) then (if (a<(len b)) then (Adv N a h i c ((b.getD a.toNat (([]:List UInt8),(0,(0,0)))).1) ((b.getD a.toNat (([]:List UInt8),(0,(0,0)))).2.1) ((b.getD a.toNat (([]:List UInt8),(0,(0,0)))).2.2.1) ((b.getD a.toNat (([]:List UInt8),(0,(0,0)))).2.2.2) fun l=>j l e f g (d++(c::([]:List Int))) b) else none) else none) else none
def Aff:Ap2:=@Bb2 @Adv
def A0v(Aff:Ap2)(N:Nat):Aar Am3:=fun R x K=>Aff N x.1.2.2.1 x.1.2.2.2.2.1 x.1.2.2.2.2.2.1 x.1.2.2.2.2.2.2.1 x.2.1 x.2.2.1.1 x.2.2.1.2.1 x.2.2.1.2.2.1 x.2.2.2.1 (fun y0 y1 y2 y3 y4 y5=>K .normal (Aab A5c (((),(),y0,y1,y2,y3,()),(y4,y5,()))))
def Brr(N:Nat):Aar Am3:=A0v @Aff N
def Akq:Aac:=⟨[C8c,C8b,Bt7,Deh,C8f,C8e],[Csj,C2c]⟩
def Axf:Aac:=⟨[C8b],B9q⟩
def Brs:Ac8:=.cons (.exit 0) Axf (.nil)
abbrev Bb3(R:Type):=Int->d4->Int->Int->d0->d6->(d0->Option R)->Option R
abbrev Brt(R:Type):=Int->d4->Int->Int->d0->d6->Option R
abbrev Avh:={R:Type}→Nat→Nat→Bb3 R
def A0w(Aff:Ap2){R:Type}(N:Nat)(rc:Brt R):Bb3 R:=fun i b c a d f j=>if ((decide (a<c))=true) then (if (0≤a∧a<len b) then (let e:=(b.getD a.toNat (0,(0,0))).1;let g:=(b.getD a.toNat (0,(0,0))).2.1;let h:=(b.getD a.toNat (0,(0,0))).2.2;if ((e==24)=true) then (Aff N 0 b c a d e g h f fun l m n o p q=>rc l m n (wi (o+1)) p q) else Aff N i b c a d e g h f fun r s t u v w=>rc r s t (wi (u+1)) v w) else none) else j d
def Aef{R:Type}(N:Nat):Nat→Bb3 R
 |0=>fun _ _ _ _ _ _ _=>none
 |k+1=>fun a b c d e f g=>A0w @Aff N (fun a b c d e f=>Aef N k a b c d e f g) a b c d e f g
def A0x(Aef:Avh)(N k:Nat):Aar Akq:=fun R x K=>Aef N k x.1.2.2.1 x.1.2.2.2.1 x.1.2.2.2.2.1 x.1.2.2.2.2.2.1 x.2.1 x.2.2.1 (fun y0=>K (.exit 0) (Aab Axf (((),()),(y0,()))))
def Bb4(N k:Nat):Aar Akq:=A0x @Aef N k
def Blo:Aac:=⟨A2u,[]⟩
def A25:Aac:=⟨Cz3,B9q⟩
abbrev Cso(R:Type):=(List UInt8)->d5->d4->d1->Int->Int->(Int->d0->Option R)->Option R
abbrev Awg:={R:Type}→Nat→Cso R
def Bax(Ah2:Au6)(Ab2:Aj4)(Aef:Avh):Awg:=fun {R} N d e a f g h b=>Ah2 N d e a f g h fun c=>if ((c != 0)=true) then (b c ([]:List Int)) else Ab2 N fun i j l m n o p q r s t u v w x y z A B C D E F G H I J L M O P Q S T U V W X Y Z aa ab ac ad ae af ag ah ai aj ak al am an ao ap aq ar au av aw ax ay az ba bb bc bd be bf bg bh bi bj bk bl bm bn bo bp bq br bs bt bu bv bw bx bz ca cb cc cd ce cf cg ch ci cj ck cl cm cn co cp cq cr cs ct cu cv cw cx cy cz da db dc dd de df dg dh di=>Aef N N 0 a (len a) 0 ([]:List Int) ((i,(j,(l,m)))::((n,(o,(p,q)))::((r,(s,(t,u)))::((v,(w,(x,y)))::((z,(A,(B,C)))::((D,(E,(F,G)))::((H,(I,(J,L)))::((M,(O,(P,Q)))::((S,(T,(U,V)))::((W,(X,(Y,Z)))::((aa,(ab,(ac,ad)))::((ae,(af,(ag,ah)))::((ai,(aj,(ak,al)))::((am,(an,(ao,ap)))::((aq,(ar,(au,av)))::((aw,(ax,(ay,az)))::((ba,(bb,(bc,bd)))::((be,(bf,(bg,bh)))::((bi,(bj,(bk,bl)))::((bm,(bn,(bo,bp)))::((bq,(br,(bs,bt)))::((bu,(bv,(bw,bx)))::((bz,(ca,(cb,cc)))::((cd,(ce,(cf,cg)))::((ch,(ci,(cj,ck)))::((cl,(cm,(cn,co)))::((cp,(cq,(cr,cs)))::((ct,(cu,(cv,cw)))::((cx,(cy,(cz,da)))::((db,(dc,(dd,de)))::((df,(dg,(dh,di)))::([]:List (List UInt8×Int×Int×Int))))))))))))))))))))))))))))))))) fun dj=>b 0 dj
def Ajh:Awg:=@Bax @Ah2 @Ab2 @Aef
def Dhq(N:Nat):Aa0 Blo [A25]:=fun R x C=>Ajh N x.1.1.1 x.1.1.2.1 x.1.1.2.2.1 x.1.1.2.2.2.1 x.1.1.2.2.2.2.1 x.1.1.2.2.2.2.2.1 (fun y0 y1=>C.1 (((),y0,()),(y1,())))
def Blp(Ajh:Awg)(N:Nat):Go.AX.Aae:=Aa9 [true] [] false 1 0 Blo [A25] (fun R x C=>Ajh N x.1.1.1 x.1.1.2.1 x.1.1.2.2.1 x.1.1.2.2.2.1 x.1.1.2.2.2.2.1 x.1.1.2.2.2.2.2.1 (fun y0 y1=>C.1 (((),y0,()),(y1,()))))
def B1x(N:Nat):Go.AX.Aae:=Blp @Ajh N
def Dhr(N:Nat):List (Nat×Abu):=[(24,Aaa Am3 (Brr N)),(17,Aaa Akq (Bb4 N N))]
def Csp(N:Nat):List (Nat×Go.AX.Aae):=[(14,B5a N),(44,Bdm N),(45,Bpw N)]
def Aql:Code:=Tryz.f16.body.getD .skip
def Aqf:Aac:=⟨[C13,(7,.one (.ptr 33)),Dei,Der,Des],[(32,.cells 81 [(.val z4),(.mp 34),(.mp 35),Blj]),C8o,(34,.amap 78 (.int .i64) (.int .i64)),(35,.amap 79 (.int .i64) .bool)]⟩
def Bb5:Aac:=⟨[C13,Dei,Der,Des],Cz9⟩
def Bym:Ac8:=.cons .normal Bb5 (.nil)
abbrev Coi(R:Type):=d4->Int->Int->d4->d0->Int->Int->Int->d2->d3->(d4->Int->Int->d4->d0->d2->d3->Option R)->Option R
abbrev Arn:={R:Type}→Nat→Coi R
def A6w(Aby:Ai7):Arn:=fun {R} N a b c d e j l m f g h=>Aby N j l m fun i=>if ((decide (i > 0))=true) then (h a b c d e f (Az9 (kt:=(.int .i64)) (et:=.bool) i true g)) else h a b c d e f g
def Af9:Arn:=@A6w @Aby
def A6x(Af9:Arn)(N:Nat):Aar Aqf:=fun R x K=>Af9 N x.1.2.2.1 x.1.2.2.2.1 x.1.2.2.2.2.1 x.2.1.1 x.2.1.2.2.2.1 x.2.2.1.1 x.2.2.1.2.1 x.2.2.1.2.2.1 x.2.2.2.1 x.2.2.2.2.1 (fun y0 y1 y2 y3 y4 y5 y6=>K .normal (Aab Bb5 (((),y0,y1,y2,()),((y3,(),(),y4,()),y5,y6,()))))
def Byn(N:Nat):Aar Aqf:=A6x @Af9 N
def Am0:Aac:=⟨[C13,Dei,Der,Des],Cz9⟩
def A26:Aac:=⟨[C13],Cz9⟩
def B1y:Ac8:=.cons (.exit 0) A26 (.nil)
abbrev Blq(R:Type):=d4->Int->Int->d4->d0->d2->d3->(d4->d0->d2->d3->Option R)->Option R
abbrev B1z(R:Type):=d4->Int->Int->d4->d0->d2->d3->Option R
abbrev A14:={R:Type}→Nat→Nat→Blq R
def A15(Af9:Arn){R:Type}(N:Nat)(rc:B1z R):Blq R:=fun b c a d e f g l=>if ((decide (a<c))=true) then (if (0≤a∧a<len b) then (let h:=(b.getD a.toNat (0,(0,0))).1;let i:=(b.getD a.toNat (0,(0,0))).2.1;let j:=(b.getD a.toNat (0,(0,0))).2.2;if ((h==19)=true) then (Af9 N b c a d e h i j (Az9 (kt:=(.int .i64)) (et:=(.int .i64)) i a f) g fun m n o p q r s=>rc m n (wi (o+1)) p q r s) else Af9 N b c a d e h i j f g fun t u v w x y z=>rc t u (wi (v+1)) w x y z) else none) else l d e f g
def Ae2{R:Type}(N:Nat):Nat→Blq R
 |0=>fun _ _ _ _ _ _ _ _=>none
 |k+1=>fun a b c d e f g h=>A15 @Af9 N (fun a b c d e f g=>Ae2 N k a b c d e f g h) a b c d e f g h
def Bay(Ae2:A14)(N k:Nat):Aar Am0:=fun R x K=>Ae2 N k x.1.2.1 x.1.2.2.1 x.1.2.2.2.1 x.2.1.1 x.2.1.2.2.2.1 x.2.2.1 x.2.2.2.1 (fun y0 y1 y2 y3=>K (.exit 0) (Aab A26 (((),()),((y0,(),(),y1,()),y2,y3,()))))
def Blr(N k:Nat):Aar Am0:=Bay @Ae2 N k
def Bu5:Aac:=⟨[wq9,Dev],[]⟩
def Baz:Aac:=⟨[(0,.one (.ptr 32))],Cz9⟩
abbrev C2j(R:Type):=d4->d0->(d4->d0->d2->d3->Option R)->Option R
abbrev A16:={R:Type}→Nat→C2j R
def Bu6(Ae2:A14):A16:=fun {R} N a b c=>Ae2 N N a (len a) 0 a b ([]:List (Int×Int)) ([]:List (Int×Bool)) fun d e f g=>c d e f g
def Ak8:A16:=@Bu6 @Ae2
def Dkt(N:Nat):Aa0 Bu5 [Baz]:=fun R x C=>Ak8 N x.1.1 x.1.2.1 (fun y0 y1 y2 y3=>C.1 (((),()),((y0,(),(),y1,()),y2,y3,())))
def Bu7(Ak8:A16)(N:Nat):Go.AX.Aae:=Aa9 [true,true] [] false 2 0 Bu5 [Baz] (fun R x C=>Ak8 N x.1.1 x.1.2.1 (fun y0 y1 y2 y3=>C.1 (((),()),((y0,(),(),y1,()),y2,y3,()))))
def B9u(N:Nat):Go.AX.Aae:=Bu7 @Ak8 N
def Dku(N:Nat):List (Nat×Abu):=[(14,Aaa Aqf (Byn N)),(7,Aaa Am0 (Blr N N))]
def C2k(N:Nat):List (Nat×Go.AX.Aae):=[(46,Bdn N)]
def Byo:Code:=Tryz.f17.body.getD .skip
def Bhz:Aac:=⟨[],[]⟩
def A0y:Aac:=⟨[(0,.one (.vs 32 8))],[(32,.cells 48 [(.fn 47),(.fn 48),(.fn 49),(.fn 50),(.fn 51),(.fn 52),(.fn 53),(.fn 54)])]⟩
abbrev Coj(R:Type):=(Option R)->Option R
abbrev Ayy:={R:Type}→Nat→Coj R
def Ai8:Ayy:=fun {R} N a=>a
def Cok(N:Nat):Aa0 Bhz [A0y]:=fun R x C=>Ai8 N  (C.1 (((),()),(((),(),(),(),(),(),(),(),()),())))
def Bh0(Ai8:Ayy)(N:Nat):Go.AX.Aae:=Aa9 [] [] false 0 0 Bhz [A0y] (fun R x C=>Ai8 N  (C.1 (((),()),(((),(),(),(),(),(),(),(),()),()))))
def Byp(N:Nat):Go.AX.Aae:=Bh0 @Ai8 N
def Col(N:Nat):List (Nat×Abu):=[]
def Byq(N:Nat):List (Nat×Go.AX.Aae):=[]
def Ajf:Code:=Tryz.f18.body.getD .skip
def Abz:Code:=Tryz.f55.body.getD .skip
def Ahx:Code:=Tryz.f19.body.getD .skip
def Bru:Code:=Tryz.f47.body.getD .skip
def B10:Code:=Tryz.f90.body.getD .skip
def Bls:Aac:=⟨Bua,Al1⟩
def A27:Aac:=⟨Aio,Al1⟩
abbrev Csq(R:Type):=Int->d4->d0->d2->d3->(Int->d4->d0->d2->d3->Option R)->Option R
abbrev Aen:={R:Type}→Nat→Csq R
def Aap:Aen:=fun {R} N b a c d e f=>if ((decide (b<(len a)))=true) then (if (0≤b∧b<len a) then (f ((a.getD b.toNat (0,(0,0))).1) a c d e) else none) else f 0 a c d e
def Csr(N:Nat):Aa0 Bls [A27]:=fun R x C=>Aap N x.1.2.1 x.2.1.1 x.2.1.2.2.2.1 x.2.2.1 x.2.2.2.1 (fun y0 y1 y2 y3 y4=>C.1 ((y0,()),((y1,(),(),y2,()),y3,y4,())))
def Alv(Aap:Aen)(N:Nat):Go.AX.Aae:=Aa9 [false,true] (List.replicate 32 true) true 2 3 Bls [A27] (fun R x C=>Aap N x.1.2.1 x.2.1.1 x.2.1.2.2.2.1 x.2.2.1 x.2.2.2.1 (fun y0 y1 y2 y3 y4=>C.1 ((y0,()),((y1,(),(),y2,()),y3,y4,()))))
def Apl(N:Nat):Go.AX.Aae:=Alv @Aap N
def Css(N:Nat):List (Nat×Abu):=[]
def B11(N:Nat):List (Nat×Go.AX.Aae):=[]
def B9v:Code:=Tryz.f91.body.getD .skip
def B9w:Code:=Tryz.f95.body.getD .skip
def Bu8:Aac:=⟨Aio,[]⟩
def Ba0:Aac:=⟨Agj,[]⟩
abbrev C2l(R:Type):=Int->(Bool->Option R)->Option R
abbrev A17:={R:Type}→Nat→C2l R
def Ah3:A17:=fun {R} N a b=>if ((decide (a≥(-32768)))=true) then (b (decide (a≤32767))) else b false
def C2m(N:Nat):Aa0 Bu8 [Ba0]:=fun R x C=>Ah3 N x.1.1 (fun y0=>C.1 ((y0,()),(())))
def Bu9(Ah3:A17)(N:Nat):Go.AX.Aae:=Aa9 [true] [] false 1 0 Bu8 [Ba0] (fun R x C=>Ah3 N x.1.1 (fun y0=>C.1 ((y0,()),(()))))
def Bva(N:Nat):Go.AX.Aae:=Bu9 @Ah3 N
def C2n(N:Nat):List (Nat×Abu):=[]
def B9x(N:Nat):List (Nat×Go.AX.Aae):=[]
def Atz:Code:=Tryz.f124.body.getD .skip
def B9y:Code:=Tryz.f115.body.getD .skip
def B9z:Code:=Tryz.f170.body.getD .skip
def Bvb:Aac:=⟨Aio,[]⟩
def Ba1:Aac:=⟨Agj,[]⟩
abbrev C2o(R:Type):=Int->(Bool->Option R)->Option R
abbrev Bh1:={R:Type}→Nat→C2o R
def Anq:Bh1:=fun {R} N a b=>if ((a==16)=true) then (b true) else if ((a==24)=true) then (b true) else b (a==32)
def C2p(N:Nat):Aa0 Bvb [Ba1]:=fun R x C=>Anq N x.1.1 (fun y0=>C.1 ((y0,()),(())))
def B90(Anq:Bh1)(N:Nat):Go.AX.Aae:=Aa9 [true] [] false 1 0 Bvb [Ba1] (fun R x C=>Anq N x.1.1 (fun y0=>C.1 ((y0,()),(()))))
def B91(N:Nat):Go.AX.Aae:=B90 @Anq N
def C2q(N:Nat):List (Nat×Abu):=[]
def B92(N:Nat):List (Nat×Go.AX.Aae):=[]
def A2m:Code:=Tryz.f171.body.getD .skip
def Chj:Code:=Tryz.f175.body.getD .skip
def B0x:Aac:=⟨Bs3,[]⟩
def Bdp:Aac:=⟨Aio,[]⟩
abbrev C49(R:Type):=Int->Int->(Int->Option R)->Option R
abbrev Aqm:={R:Type}→Nat→C49 R
def Abw:Aqm:=fun {R} N b c d=>let a:=(wi (64-c));if (a<0) then none else if (a<0) then none else d (Crf .i64 (Bgv .i64 b a) a)
def C5a(N:Nat):Aa0 B0x [Bdp]:=fun R x C=>Abw N x.1.1 x.1.2.1 (fun y0=>C.1 ((y0,()),(())))
def A0f(Abw:Aqm)(N:Nat):Go.AX.Aae:=Aa9 [true,true] [] false 2 0 B0x [Bdp] (fun R x C=>Abw N x.1.1 x.1.2.1 (fun y0=>C.1 ((y0,()),(()))))
def B0y(N:Nat):Go.AX.Aae:=A0f @Abw N
def C5b(N:Nat):List (Nat×Abu):=[]
def Chk(N:Nat):List (Nat×Go.AX.Aae):=[]
def B93:Code:=Tryz.f223.body.getD .skip
def Bvc:Aac:=⟨Agj,[]⟩
def Ba2:Aac:=⟨Aio,[]⟩
abbrev C2r(R:Type):=Bool->(Int->Option R)->Option R
abbrev Ahk:={R:Type}→Nat→C2r R
def Aa4:Ahk:=fun {R} N b a=>if (b=true) then (a (-1)) else a 0
def C2s(N:Nat):Aa0 Bvc [Ba2]:=fun R x C=>Aa4 N x.1.1 (fun y0=>C.1 ((y0,()),(())))
def Aqn(Aa4:Ahk)(N:Nat):Go.AX.Aae:=Aa9 [true] [] false 1 0 Bvc [Ba2] (fun R x C=>Aa4 N x.1.1 (fun y0=>C.1 ((y0,()),(()))))
def At0(N:Nat):Go.AX.Aae:=Aqn @Aa4 N
def C2t(N:Nat):List (Nat×Abu):=[]
def B94(N:Nat):List (Nat×Go.AX.Aae):=[]
def At1:Aac:=⟨[Bbw,Akb,Bha,A10,(72,.one (.val .bool))],[]⟩
def Blt:Aac:=⟨[Bt8,B37],[]⟩
def Blu:Aac:=⟨B4a,[]⟩
def B95:Ac8:=.cons .ret Blt (.cons .normal Blu (.nil))
abbrev C2u(R:Type):=Int->Int->Int->Int->Bool->(Int->Int->Option R)->(Int->Int->Int->Int->Option R)->Option R
abbrev A18:={R:Type}→Nat→C2u R
def Ait:A18:=fun {R} N b c a d f g e=>if (f=true) then (if ((a==0)=true) then (g 0 10) else e b c a d) else e b c a d
def Bh2(Ait:A18)(N:Nat):Aar At1:=fun R x K=>Ait N x.1.1 x.1.2.1 x.1.2.2.1 x.1.2.2.2.1 x.1.2.2.2.2.1 (fun y0 y1=>K .ret (Aab Blt ((y0,y1,()),(())))) (fun y0 y1 y2 y3=>K .normal (Aab Blu ((y0,y1,y2,y3,()),(()))))
def B96(N:Nat):Aar At1:=Bh2 @Ait N
def Bvd:Code:=Tryz.f177.body.getD .skip
def Beo:Aac:=⟨[],[]⟩
def Ayz:Aac:=⟨[(0,.one (.vs 32 19))],[(32,.cells 201 [(.fn 226),(.fn 227),(.fn 228),(.fn 229),(.fn 230),(.fn 231),(.fn 232),(.fn 234),(.fn 235),(.fn 236),(.fn 237),(.fn 238),(.fn 239),(.fn 240),(.fn 241),(.fn 242),(.fn 243),(.fn 244),(.fn 245)])]⟩
abbrev Cim(R:Type):=(Option R)->Option R
abbrev Akf:={R:Type}→Nat→Cim R
def Acb:Akf:=fun {R} N a=>a
def Cin(N:Nat):Aa0 Beo [Ayz]:=fun R x C=>Acb N  (C.1 (((),()),(((),(),(),(),(),(),(),(),(),(),(),(),(),(),(),(),(),(),(),()),())))
def Aqw(Acb:Akf)(N:Nat):Go.AX.Aae:=Aa9 [] [] false 0 0 Beo [Ayz] (fun R x C=>Acb N  (C.1 (((),()),(((),(),(),(),(),(),(),(),(),(),(),(),(),(),(),(),(),(),(),()),()))))
def Bep(N:Nat):Go.AX.Aae:=Aqw @Acb N
def Cio(N:Nat):List (Nat×Abu):=[]
def Bve(N:Nat):List (Nat×Go.AX.Aae):=[]
def Bnr:Code:=Tryz.f226.body.getD .skip
def A8j:Aac:=⟨Ard,[]⟩
def Avt:Aac:=⟨Aio,[]⟩
abbrev B97(R:Type):=Int->Int->Int->(Int->Option R)->Option R
abbrev Ah8:={R:Type}→Nat→B97 R
def Abj:Ah8:=fun {R} N a b d c=>c (wi (a*b))
def B98(N:Nat):Aa0 A8j [Avt]:=fun R x C=>Abj N x.1.1 x.1.2.1 x.1.2.2.1 (fun y0=>C.1 ((y0,()),(())))
def Aok(Abj:Ah8)(N:Nat):Go.AX.Aae:=Aa9 [true,true,true] [] false 3 0 A8j [Avt] (fun R x C=>Abj N x.1.1 x.1.2.1 x.1.2.2.1 (fun y0=>C.1 ((y0,()),(()))))
def A8k(N:Nat):Go.AX.Aae:=Aok @Abj N
def B99(N:Nat):List (Nat×Abu):=[]
def Bns(N:Nat):List (Nat×Go.AX.Aae):=[]
def Bnt:Code:=Tryz.f227.body.getD .skip
def A8l:Aac:=⟨Ard,[]⟩
def Avu:Aac:=⟨Aio,[]⟩
abbrev Caa(R:Type):=Int->Int->Int->(Int->Option R)->Option R
abbrev Ah9:={R:Type}→Nat→Caa R
def Abk:Ah9:=fun {R} N b a d c=>if (a=0) then none else c (wi (Int.tdiv b a))
def Cab(N:Nat):Aa0 A8l [Avu]:=fun R x C=>Abk N x.1.1 x.1.2.1 x.1.2.2.1 (fun y0=>C.1 ((y0,()),(())))
def Aol(Abk:Ah9)(N:Nat):Go.AX.Aae:=Aa9 [true,true,true] [] false 3 0 A8l [Avu] (fun R x C=>Abk N x.1.1 x.1.2.1 x.1.2.2.1 (fun y0=>C.1 ((y0,()),(()))))
def A8m(N:Nat):Go.AX.Aae:=Aol @Abk N
def Cac(N:Nat):List (Nat×Abu):=[]
def Bnu(N:Nat):List (Nat×Go.AX.Aae):=[]
def Bnv:Code:=Tryz.f228.body.getD .skip
def A8n:Aac:=⟨Ard,[]⟩
def Avv:Aac:=⟨Aio,[]⟩
abbrev Cad(R:Type):=Int->Int->Int->(Int->Option R)->Option R
abbrev Aia:={R:Type}→Nat→Cad R
def Abl:Aia:=fun {R} N b a d c=>if (a=0) then none else c (Int.tmod b a)
def Cae(N:Nat):Aa0 A8n [Avv]:=fun R x C=>Abl N x.1.1 x.1.2.1 x.1.2.2.1 (fun y0=>C.1 ((y0,()),(())))
def Aom(Abl:Aia)(N:Nat):Go.AX.Aae:=Aa9 [true,true,true] [] false 3 0 A8n [Avv] (fun R x C=>Abl N x.1.1 x.1.2.1 x.1.2.2.1 (fun y0=>C.1 ((y0,()),(()))))
def A8o(N:Nat):Go.AX.Aae:=Aom @Abl N
def Caf(N:Nat):List (Nat×Abu):=[]
def Bnw(N:Nat):List (Nat×Go.AX.Aae):=[]
def Bnx:Code:=Tryz.f229.body.getD .skip
def A8p:Aac:=⟨Ard,[]⟩
def Avw:Aac:=⟨Aio,[]⟩
abbrev Cag(R:Type):=Int->Int->Int->(Int->Option R)->Option R
abbrev Aib:={R:Type}→Nat→Cag R
def Abm:Aib:=fun {R} N a b d c=>c (wi (a+b))
def Cah(N:Nat):Aa0 A8p [Avw]:=fun R x C=>Abm N x.1.1 x.1.2.1 x.1.2.2.1 (fun y0=>C.1 ((y0,()),(())))
def Aon(Abm:Aib)(N:Nat):Go.AX.Aae:=Aa9 [true,true,true] [] false 3 0 A8p [Avw] (fun R x C=>Abm N x.1.1 x.1.2.1 x.1.2.2.1 (fun y0=>C.1 ((y0,()),(()))))
def A8q(N:Nat):Go.AX.Aae:=Aon @Abm N
def Cai(N:Nat):List (Nat×Abu):=[]
def Bny(N:Nat):List (Nat×Go.AX.Aae):=[]
def Bnz:Code:=Tryz.f230.body.getD .skip
def A8r:Aac:=⟨Ard,[]⟩
def Avx:Aac:=⟨Aio,[]⟩
abbrev Caj(R:Type):=Int->Int->Int->(Int->Option R)->Option R
abbrev Aic:={R:Type}→Nat→Caj R
def Abn:Aic:=fun {R} N a b d c=>c (wi (a-b))
def Cak(N:Nat):Aa0 A8r [Avx]:=fun R x C=>Abn N x.1.1 x.1.2.1 x.1.2.2.1 (fun y0=>C.1 ((y0,()),(())))
def Aoo(Abn:Aic)(N:Nat):Go.AX.Aae:=Aa9 [true,true,true] [] false 3 0 A8r [Avx] (fun R x C=>Abn N x.1.1 x.1.2.1 x.1.2.2.1 (fun y0=>C.1 ((y0,()),(()))))
def A8s(N:Nat):Go.AX.Aae:=Aoo @Abn N
def Cal(N:Nat):List (Nat×Abu):=[]
def Bn0(N:Nat):List (Nat×Go.AX.Aae):=[]
def Bn1:Code:=Tryz.f231.body.getD .skip
def A8t:Aac:=⟨Ard,[]⟩
def Avy:Aac:=⟨Aio,[]⟩
abbrev Cam(R:Type):=Int->Int->Int->(Int->Option R)->Option R
abbrev Aid:={R:Type}→Nat→Cam R
def Abo:Aid:=fun {R} N c a d b=>if ((decide (a<0))=true) then (b 0) else if ((decide (a≥d))=true) then (b 0) else if (a<0) then none else b (Bgv .i64 c a)
def Can(N:Nat):Aa0 A8t [Avy]:=fun R x C=>Abo N x.1.1 x.1.2.1 x.1.2.2.1 (fun y0=>C.1 ((y0,()),(())))
def Aop(Abo:Aid)(N:Nat):Go.AX.Aae:=Aa9 [true,true,true] [] false 3 0 A8t [Avy] (fun R x C=>Abo N x.1.1 x.1.2.1 x.1.2.2.1 (fun y0=>C.1 ((y0,()),(()))))
def A8u(N:Nat):Go.AX.Aae:=Aop @Abo N
def Cao(N:Nat):List (Nat×Abu):=[]
def Bn2(N:Nat):List (Nat×Go.AX.Aae):=[]
def Bn3:Code:=Tryz.f232.body.getD .skip
def Byr:Code:=Tryz.f233.body.getD .skip
def Bh3:Aac:=⟨Bs3,[]⟩
def A0z:Aac:=⟨Aio,[]⟩
abbrev Com(R:Type):=Int->Int->(Int->Option R)->Option R
abbrev A6y:={R:Type}→Nat→Com R
def Aky:A6y:=fun {R} N b a c=>if (a<0) then none else c (Bk7 .i64 b (wi ((Bgv .i64 1 a)-1)))
def Con(N:Nat):Aa0 Bh3 [A0z]:=fun R x C=>Aky N x.1.1 x.1.2.1 (fun y0=>C.1 ((y0,()),(())))
def Bys(Aky:A6y)(N:Nat):Go.AX.Aae:=Aa9 [true,true] [] false 2 0 Bh3 [A0z] (fun R x C=>Aky N x.1.1 x.1.2.1 (fun y0=>C.1 ((y0,()),(()))))
def Byt(N:Nat):Go.AX.Aae:=Bys @Aky N
def Coo(N:Nat):List (Nat×Abu):=[]
def Byu(N:Nat):List (Nat×Go.AX.Aae):=[]
def A8v:Aac:=⟨Ard,[]⟩
def Avz:Aac:=⟨Aio,[]⟩
abbrev Cap(R:Type):=Int->Int->Int->(Int->Option R)->Option R
abbrev Ag9:={R:Type}→Nat→Cap R
def A8w(Aky:A6y):Ag9:=fun {R} N d a c b=>if ((decide (a<0))=true) then (b 0) else if ((decide (a≥c))=true) then (b 0) else Aky N d c fun e=>if (a<0) then none else b (Crf .i64 e a)
def Abp:Ag9:=@A8w @Aky
def Dbo(N:Nat):Aa0 A8v [Avz]:=fun R x C=>Abp N x.1.1 x.1.2.1 x.1.2.2.1 (fun y0=>C.1 ((y0,()),(())))
def Aoq(Abp:Ag9)(N:Nat):Go.AX.Aae:=Aa9 [true,true,true] [] false 3 0 A8v [Avz] (fun R x C=>Abp N x.1.1 x.1.2.1 x.1.2.2.1 (fun y0=>C.1 ((y0,()),(()))))
def A8x(N:Nat):Go.AX.Aae:=Aoq @Abp N
def Dbp(N:Nat):List (Nat×Abu):=[]
def Caq(N:Nat):List (Nat×Go.AX.Aae):=[(233,Byt N)]
def Bn4:Code:=Tryz.f234.body.getD .skip
def A8y:Aac:=⟨Ard,[]⟩
def Av0:Aac:=⟨Aio,[]⟩
abbrev Car(R:Type):=Int->Int->Int->(Int->Option R)->Option R
abbrev Aie:={R:Type}→Nat→Car R
def Abq:Aie:=fun {R} N a b d c=>c (Bk7 .i64 a b)
def Cas(N:Nat):Aa0 A8y [Av0]:=fun R x C=>Abq N x.1.1 x.1.2.1 x.1.2.2.1 (fun y0=>C.1 ((y0,()),(())))
def Aor(Abq:Aie)(N:Nat):Go.AX.Aae:=Aa9 [true,true,true] [] false 3 0 A8y [Av0] (fun R x C=>Abq N x.1.1 x.1.2.1 x.1.2.2.1 (fun y0=>C.1 ((y0,()),(()))))
def A8z(N:Nat):Go.AX.Aae:=Aor @Abq N
def Cat(N:Nat):List (Nat×Abu):=[]
def Bn5(N:Nat):List (Nat×Go.AX.Aae):=[]
def Bn6:Code:=Tryz.f235.body.getD .skip
def A80:Aac:=⟨Ard,[]⟩
def Av1:Aac:=⟨Aio,[]⟩
abbrev Cau(R:Type):=Int->Int->Int->(Int->Option R)->Option R
abbrev Aif:={R:Type}→Nat→Cau R
def Abr:Aif:=fun {R} N a b d c=>c (orI .i64 a b)
def Cav(N:Nat):Aa0 A80 [Av1]:=fun R x C=>Abr N x.1.1 x.1.2.1 x.1.2.2.1 (fun y0=>C.1 ((y0,()),(())))
def Aos(Abr:Aif)(N:Nat):Go.AX.Aae:=Aa9 [true,true,true] [] false 3 0 A80 [Av1] (fun R x C=>Abr N x.1.1 x.1.2.1 x.1.2.2.1 (fun y0=>C.1 ((y0,()),(()))))
def A81(N:Nat):Go.AX.Aae:=Aos @Abr N
def Caw(N:Nat):List (Nat×Abu):=[]
def Bn7(N:Nat):List (Nat×Go.AX.Aae):=[]
def Bj9:Code:=Tryz.f236.body.getD .skip
def A5d:Aac:=⟨Ard,[]⟩
def Aud:Aac:=⟨Aio,[]⟩
abbrev B6h(R:Type):=Int->Int->Int->(Int->Option R)->Option R
abbrev Ahl:={R:Type}→Nat→B6h R
def Abb:Ahl:=fun {R} N a b d c=>c (Bbt .i64 a b)
def B6i(N:Nat):Aa0 A5d [Aud]:=fun R x C=>Abb N x.1.1 x.1.2.1 x.1.2.2.1 (fun y0=>C.1 ((y0,()),(())))
def Ana(Abb:Ahl)(N:Nat):Go.AX.Aae:=Aa9 [true,true,true] [] false 3 0 A5d [Aud] (fun R x C=>Abb N x.1.1 x.1.2.1 x.1.2.2.1 (fun y0=>C.1 ((y0,()),(()))))
def A5e(N:Nat):Go.AX.Aae:=Ana @Abb N
def B6j(N:Nat):List (Nat×Abu):=[]
def Bka(N:Nat):List (Nat×Go.AX.Aae):=[]
def Bkb:Code:=Tryz.f237.body.getD .skip
def A5f:Aac:=⟨Ard,[]⟩
def Aue:Aac:=⟨Aio,[]⟩
abbrev B6k(R:Type):=Int->Int->Int->(Int->Option R)->Option R
abbrev Ahm:={R:Type}→Nat→B6k R
def Abc:Ahm:=fun {R} N a b d c=>c (Bbt .i64 (-1) (Bbt .i64 a b))
def B6l(N:Nat):Aa0 A5f [Aue]:=fun R x C=>Abc N x.1.1 x.1.2.1 x.1.2.2.1 (fun y0=>C.1 ((y0,()),(())))
def Anb(Abc:Ahm)(N:Nat):Go.AX.Aae:=Aa9 [true,true,true] [] false 3 0 A5f [Aue] (fun R x C=>Abc N x.1.1 x.1.2.1 x.1.2.2.1 (fun y0=>C.1 ((y0,()),(()))))
def A5g(N:Nat):Go.AX.Aae:=Anb @Abc N
def B6m(N:Nat):List (Nat×Abu):=[]
def Bkc(N:Nat):List (Nat×Go.AX.Aae):=[]
def Bkd:Code:=Tryz.f238.body.getD .skip
def A5h:Aac:=⟨Ard,[]⟩
def Auf:Aac:=⟨Aio,[]⟩
abbrev B6n(R:Type):=Int->Int->Int->(Int->Option R)->Option R
abbrev Agl:={R:Type}→Nat→B6n R
def Bke(Aa4:Ahk):Agl:=fun {R} N a b e c=>Aa4 N (a==b) fun d=>c d
def Abd:Agl:=@Bke @Aa4
def C9z(N:Nat):Aa0 A5h [Auf]:=fun R x C=>Abd N x.1.1 x.1.2.1 x.1.2.2.1 (fun y0=>C.1 ((y0,()),(())))
def Anc(Abd:Agl)(N:Nat):Go.AX.Aae:=Aa9 [true,true,true] [] false 3 0 A5h [Auf] (fun R x C=>Abd N x.1.1 x.1.2.1 x.1.2.2.1 (fun y0=>C.1 ((y0,()),(()))))
def A5i(N:Nat):Go.AX.Aae:=Anc @Abd N
def C90(N:Nat):List (Nat×Abu):=[]
def B6o(N:Nat):List (Nat×Go.AX.Aae):=[(223,At0 N)]
def Bkf:Code:=Tryz.f239.body.getD .skip
def A5j:Aac:=⟨Ard,[]⟩
def Aug:Aac:=⟨Aio,[]⟩
abbrev B6p(R:Type):=Int->Int->Int->(Int->Option R)->Option R
abbrev Agm:={R:Type}→Nat→B6p R
def Bkg(Aa4:Ahk):Agm:=fun {R} N a b e c=>Aa4 N (a != b) fun d=>c d
def Abe:Agm:=@Bkg @Aa4
def C91(N:Nat):Aa0 A5j [Aug]:=fun R x C=>Abe N x.1.1 x.1.2.1 x.1.2.2.1 (fun y0=>C.1 ((y0,()),(())))
def Ane(Abe:Agm)(N:Nat):Go.AX.Aae:=Aa9 [true,true,true] [] false 3 0 A5j [Aug] (fun R x C=>Abe N x.1.1 x.1.2.1 x.1.2.2.1 (fun y0=>C.1 ((y0,()),(()))))
def A5k(N:Nat):Go.AX.Aae:=Ane @Abe N
def C92(N:Nat):List (Nat×Abu):=[]
def B6q(N:Nat):List (Nat×Go.AX.Aae):=[(223,At0 N)]
def Bkh:Code:=Tryz.f240.body.getD .skip
def A5l:Aac:=⟨Ard,[]⟩
def Auh:Aac:=⟨Aio,[]⟩
abbrev B6r(R:Type):=Int->Int->Int->(Int->Option R)->Option R
abbrev Agn:={R:Type}→Nat→B6r R
def Bki(Aa4:Ahk):Agn:=fun {R} N a b e c=>Aa4 N (decide (a<b)) fun d=>c d
def Abf:Agn:=@Bki @Aa4
def C93(N:Nat):Aa0 A5l [Auh]:=fun R x C=>Abf N x.1.1 x.1.2.1 x.1.2.2.1 (fun y0=>C.1 ((y0,()),(())))
def Anf(Abf:Agn)(N:Nat):Go.AX.Aae:=Aa9 [true,true,true] [] false 3 0 A5l [Auh] (fun R x C=>Abf N x.1.1 x.1.2.1 x.1.2.2.1 (fun y0=>C.1 ((y0,()),(()))))
def A5m(N:Nat):Go.AX.Aae:=Anf @Abf N
def C94(N:Nat):List (Nat×Abu):=[]
def B6s(N:Nat):List (Nat×Go.AX.Aae):=[(223,At0 N)]
def Bkj:Code:=Tryz.f241.body.getD .skip
def A5n:Aac:=⟨Ard,[]⟩
def Aui:Aac:=⟨Aio,[]⟩
abbrev B6t(R:Type):=Int->Int->Int->(Int->Option R)->Option R
abbrev Ago:={R:Type}→Nat→B6t R
def Bkk(Aa4:Ahk):Ago:=fun {R} N a b e c=>Aa4 N (decide (a≤b)) fun d=>c d
def Abg:Ago:=@Bkk @Aa4
def C95(N:Nat):Aa0 A5n [Aui]:=fun R x C=>Abg N x.1.1 x.1.2.1 x.1.2.2.1 (fun y0=>C.1 ((y0,()),(())))
def Ang(Abg:Ago)(N:Nat):Go.AX.Aae:=Aa9 [true,true,true] [] false 3 0 A5n [Aui] (fun R x C=>Abg N x.1.1 x.1.2.1 x.1.2.2.1 (fun y0=>C.1 ((y0,()),(()))))
def A5o(N:Nat):Go.AX.Aae:=Ang @Abg N
def C96(N:Nat):List (Nat×Abu):=[]
def B6u(N:Nat):List (Nat×Go.AX.Aae):=[(223,At0 N)]
def Bkl:Code:=Tryz.f242.body.getD .skip
def A5p:Aac:=⟨Ard,[]⟩
def Auj:Aac:=⟨Aio,[]⟩
abbrev B6v(R:Type):=Int->Int->Int->(Int->Option R)->Option R
abbrev Agp:={R:Type}→Nat→B6v R
def Bkm(Aa4:Ahk):Agp:=fun {R} N a b e c=>Aa4 N (decide (a > b)) fun d=>c d
def Abh:Agp:=@Bkm @Aa4
def C97(N:Nat):Aa0 A5p [Auj]:=fun R x C=>Abh N x.1.1 x.1.2.1 x.1.2.2.1 (fun y0=>C.1 ((y0,()),(())))
def Anh(Abh:Agp)(N:Nat):Go.AX.Aae:=Aa9 [true,true,true] [] false 3 0 A5p [Auj] (fun R x C=>Abh N x.1.1 x.1.2.1 x.1.2.2.1 (fun y0=>C.1 ((y0,()),(()))))
def A5q(N:Nat):Go.AX.Aae:=Anh @Abh N
def C98(N:Nat):List (Nat×Abu):=[]
def B6w(N:Nat):List (Nat×Go.AX.Aae):=[(223,At0 N)]
def Bkn:Code:=Tryz.f243.body.getD .skip
def A5r:Aac:=⟨Ard,[]⟩
def Auk:Aac:=⟨Aio,[]⟩
abbrev B6x(R:Type):=Int->Int->Int->(Int->Option R)->Option R
abbrev Agq:={R:Type}→Nat→B6x R
def Bko(Aa4:Ahk):Agq:=fun {R} N a b e c=>Aa4 N (decide (a≥b)) fun d=>c d
def Abi:Agq:=@Bko @Aa4
def C99(N:Nat):Aa0 A5r [Auk]:=fun R x C=>Abi N x.1.1 x.1.2.1 x.1.2.2.1 (fun y0=>C.1 ((y0,()),(())))
def Ani(Abi:Agq)(N:Nat):Go.AX.Aae:=Aa9 [true,true,true] [] false 3 0 A5r [Auk] (fun R x C=>Abi N x.1.1 x.1.2.1 x.1.2.2.1 (fun y0=>C.1 ((y0,()),(()))))
def A5s(N:Nat):Go.AX.Aae:=Ani @Abi N
def Daa(N:Nat):List (Nat×Abu):=[]
def B6y(N:Nat):List (Nat×Go.AX.Aae):=[(223,At0 N)]
def Bkp:Code:=Tryz.f244.body.getD .skip
def A5t:Aac:=⟨Ard,[]⟩
def Aul:Aac:=⟨Aio,[]⟩
abbrev B6z(R:Type):=Int->Int->Int->(Int->Option R)->Option R
abbrev Ahn:={R:Type}→Nat→B6z R
def Aa5:Ahn:=fun {R} N a c d b=>b (wi (0-a))
def B60(N:Nat):Aa0 A5t [Aul]:=fun R x C=>Aa5 N x.1.1 x.1.2.1 x.1.2.2.1 (fun y0=>C.1 ((y0,()),(())))
def Anj(Aa5:Ahn)(N:Nat):Go.AX.Aae:=Aa9 [true,true,true] [] false 3 0 A5t [Aul] (fun R x C=>Aa5 N x.1.1 x.1.2.1 x.1.2.2.1 (fun y0=>C.1 ((y0,()),(()))))
def A5u(N:Nat):Go.AX.Aae:=Anj @Aa5 N
def B61(N:Nat):List (Nat×Abu):=[]
def Bkq(N:Nat):List (Nat×Go.AX.Aae):=[]
def Bkr:Code:=Tryz.f245.body.getD .skip
def A5v:Aac:=⟨Ard,[]⟩
def Aum:Aac:=⟨Aio,[]⟩
abbrev B62(R:Type):=Int->Int->Int->(Int->Option R)->Option R
abbrev Aho:={R:Type}→Nat→B62 R
def Aa6:Aho:=fun {R} N a c d b=>b (Bbt .i64 (-1) a)
def B63(N:Nat):Aa0 A5v [Aum]:=fun R x C=>Aa6 N x.1.1 x.1.2.1 x.1.2.2.1 (fun y0=>C.1 ((y0,()),(())))
def Ank(Aa6:Aho)(N:Nat):Go.AX.Aae:=Aa9 [true,true,true] [] false 3 0 A5v [Aum] (fun R x C=>Aa6 N x.1.1 x.1.2.1 x.1.2.2.1 (fun y0=>C.1 ((y0,()),(()))))
def A5w(N:Nat):Go.AX.Aae:=Ank @Aa6 N
def B64(N:Nat):List (Nat×Abu):=[]
def Bks(N:Nat):List (Nat×Go.AX.Aae):=[]
def At2:Aac:=⟨B4a,[]⟩
def Blv:Aac:=⟨[Bt8,B37],[]⟩
def Cax:Ac8:=.cons .ret Blv (.nil)
abbrev C2v(R:Type):=Int->Int->Int->Int->(Int->Int->Option R)->Option R
abbrev Awt:={R:Type}→Nat→C2v R
def Cay(Acb:Akf)(Abj:Ah8)(Abw:Aqm)(Abk:Ah9)(Abl:Aia)(Abm:Aib)(Abn:Aic)(Abo:Aid)(Abp:Ag9)(Abq:Aie)(Abr:Aif)(Abb:Ahl)(Abc:Ahm)(Abd:Agl)(Abe:Agm)(Abf:Agn)(Abg:Ago)(Abh:Agp)(Abi:Agq)(Aa5:Ahn)(Aa6:Aho):Awt:=fun {R} N f b c a d=>Acb N (let e:=(wi (f-1));if (e=0) then (Abj N b c a fun g=>Abw N g a fun h=>d h 0) else if (e=1) then (Abk N b c a fun i=>Abw N i a fun j=>d j 0) else if (e=2) then (Abl N b c a fun l=>Abw N l a fun m=>d m 0) else if (e=3) then (Abm N b c a fun n=>Abw N n a fun o=>d o 0) else if (e=4) then (Abn N b c a fun p=>Abw N p a fun q=>d q 0) else if (e=5) then (Abo N b c a fun r=>Abw N r a fun s=>d s 0) else if (e=6) then (Abp N b c a fun t=>Abw N t a fun u=>d u 0) else if (e=7) then (Abq N b c a fun v=>Abw N v a fun w=>d w 0) else if (e=8) then (Abr N b c a fun x=>Abw N x a fun y=>d y 0) else if (e=9) then (Abb N b c a fun z=>Abw N z a fun A=>d A 0) else if (e=10) then (Abc N b c a fun B=>Abw N B a fun C=>d C 0) else if (e=11) then (Abd N b c a fun D=>Abw N D a fun E=>d E 0) else if (e=12) then (Abe N b c a fun F=>Abw N F a fun G=>d G 0) else if (e=13) then (Abf N b c a fun H=>Abw N H a fun I=>d I 0) else if (e=14) then (Abg N b c a fun J=>Abw N J a fun L=>d L 0) else if (e=15) then (Abh N b c a fun M=>Abw N M a fun O=>d O 0) else if (e=16) then (Abi N b c a fun P=>Abw N P a fun Q=>d Q 0) else if (e=17) then (Aa5 N b c a fun S=>Abw N S a fun T=>d T 0) else if (e=18) then (Aa6 N b c a fun U=>Abw N U a fun V=>d V 0) else none)
def Ajo:Awt:=@Cay @Acb @Abj @Abw @Abk @Abl @Abm @Abn @Abo @Abp @Abq @Abr @Abb @Abc @Abd @Abe @Abf @Abg @Abh @Abi @Aa5 @Aa6
def Bh4(Ajo:Awt)(N:Nat):Aar At2:=fun R x K=>Ajo N x.1.1 x.1.2.1 x.1.2.2.1 x.1.2.2.2.1 (fun y0 y1=>K .ret (Aab Blv ((y0,y1,()),(()))))
def Caz(N:Nat):Aar At2:=Bh4 @Ajo N
def Ca0:Aac:=⟨B4a,[]⟩
def Bm8:Aac:=⟨Bs3,[]⟩
abbrev Dbq(R:Type):=Int->Int->Int->Int->(Int->Int->Option R)->Option R
abbrev Bn8:={R:Type}→Nat→Dbq R
def Byv(Abw:Aqm)(Aa4:Ahk)(Ait:A18)(Ajo:Awt):Bn8:=fun {R} N a f g e b=>Abw N f e fun c=>Abw N g e fun d=>if ((a==4)=true) then (Abw N (wi (c+d)) e fun h=>b h 0) else if ((a==5)=true) then (Abw N (wi (c-d)) e fun i=>b i 0) else if ((a==12)=true) then (Aa4 N (c==d) fun j=>b j 0) else if ((a==13)=true) then (Aa4 N (c != d) fun l=>b l 0) else if ((a==14)=true) then (Aa4 N (decide (c<d)) fun m=>b m 0) else if ((a==15)=true) then (Aa4 N (decide (c≤d)) fun n=>b n 0) else if ((a==16)=true) then (Aa4 N (decide (c > d)) fun o=>b o 0) else if ((a==17)=true) then (Aa4 N (decide (c≥d)) fun p=>b p 0) else if ((a==8)=true) then (b (Bk7 .i64 c d) 0) else if ((a==2)=true) then (Ait N a c d e (a==2) (fun q r=>b q r) fun s t u v=>Ajo N s t u v fun w x=>b w x) else Ait N a c d e (a==3) (fun y z=>b y z) fun A B C D=>Ajo N A B C D fun E F=>b E F
def Aun:Bn8:=@Byv @Abw @Aa4 @Ait @Ajo
def Dme(N:Nat):Aa0 Ca0 [Bm8]:=fun R x C=>Aun N x.1.1 x.1.2.1 x.1.2.2.1 x.1.2.2.2.1 (fun y0 y1=>C.1 ((y0,y1,()),(())))
def Cvp(Aun:Bn8)(N:Nat):Go.AX.Aae:=Aa9 [true,true,true,true] [] false 4 0 Ca0 [Bm8] (fun R x C=>Aun N x.1.1 x.1.2.1 x.1.2.2.1 x.1.2.2.2.1 (fun y0 y1=>C.1 ((y0,y1,()),(()))))
def Cvq(N:Nat):Go.AX.Aae:=Cvp @Aun N
def Dmf(N:Nat):List (Nat×Abu):=[(46,Aaa At1 (B96 N)),(50,Aaa At2 (Caz N))]
def Dbr(N:Nat):List (Nat×Go.AX.Aae):=[(175,B0y N),(223,At0 N),(177,Bep N),(226,A8k N),(227,A8m N),(228,A8o N),(229,A8q N),(230,A8s N),(231,A8u N),(232,A8x N),(234,A8z N),(235,A81 N),(236,A5e N),(237,A5g N),(238,A5i N),(239,A5k N),(240,A5m N),(241,A5o N),(242,A5q N),(243,A5s N),(244,A5u N),(245,A5w N)]
def Bvf:Aac:=⟨B4a,[]⟩
def Ba3:Aac:=⟨Bs3,[]⟩
abbrev C2w(R:Type):=Int->Int->Int->Int->(Int->Int->Option R)->Option R
abbrev Awu:={R:Type}→Nat→C2w R
def A82(Anq:Bh1)(Aun:Bn8):Awu:=fun {R} N b d e c a=>Anq N c fun f=>if ((!f)=true) then (a 0 3) else if ((decide (b<1))=true) then (a 0 1) else if ((decide (b > 19))=true) then (a 0 1) else Aun N b d e c fun g h=>a g h
def Agv:Awu:=@A82 @Anq @Aun
def Dkv(N:Nat):Aa0 Bvf [Ba3]:=fun R x C=>Agv N x.1.1 x.1.2.1 x.1.2.2.1 x.1.2.2.2.1 (fun y0 y1=>C.1 ((y0,y1,()),(())))
def Bh5(Agv:Awu)(N:Nat):Go.AX.Aae:=Aa9 [true,true,true,true] [] false 4 0 Bvf [Ba3] (fun R x C=>Agv N x.1.1 x.1.2.1 x.1.2.2.1 x.1.2.2.2.1 (fun y0 y1=>C.1 ((y0,y1,()),(()))))
def Ca1(N:Nat):Go.AX.Aae:=Bh5 @Agv N
def Dkw(N:Nat):List (Nat×Abu):=[]
def C2x(N:Nat):List (Nat×Go.AX.Aae):=[(170,B91 N),(171,Cvq N)]
def Ca2:Code:=Tryz.f176.body.getD .skip
def Bvg:Aac:=⟨Aio,[]⟩
def Ba4:Aac:=⟨Agj,[]⟩
abbrev C2y(R:Type):=Int->(Bool->Option R)->Option R
abbrev Awv:={R:Type}→Nat→C2y R
def Aga:Awv:=fun {R} N a b=>if ((decide (a≥(-32768)))=true) then (b (decide (a≤32767))) else b false
def C2z(N:Nat):Aa0 Bvg [Ba4]:=fun R x C=>Aga N x.1.1 (fun y0=>C.1 ((y0,()),(())))
def Bh6(Aga:Awv)(N:Nat):Go.AX.Aae:=Aa9 [true] [] false 1 0 Bvg [Ba4] (fun R x C=>Aga N x.1.1 (fun y0=>C.1 ((y0,()),(()))))
def Ca3(N:Nat):Go.AX.Aae:=Bh6 @Aga N
def C20(N:Nat):List (Nat×Abu):=[]
def Ca4(N:Nat):List (Nat×Go.AX.Aae):=[]
def Aqg:Aac:=⟨[Bbw,Akb,Bha,A10,Cif,(37,.one wq0),(38,.one (.val .bool))],[]⟩
def Bb6:Aac:=⟨[C19,B37],[]⟩
def Bb7:Aac:=⟨[Bbw,Akb,Bha,A10,Cif],[]⟩
def Byw:Ac8:=.cons .ret Bb6 (.cons .normal Bb7 (.nil))
abbrev Cop(R:Type):=Int->Int->Int->Int->Int->Int->Bool->(Bool->Int->Option R)->(Int->Int->Int->Int->Int->Option R)->Option R
abbrev Aro:={R:Type}→Nat→Cop R
def Bh7(Acb:Akf)(Abj:Ah8)(Abk:Ah9)(Abl:Aia)(Abm:Aib)(Abn:Aic)(Abo:Aid)(Abp:Ag9)(Abq:Aie)(Abr:Aif)(Abb:Ahl)(Abc:Ahm)(Abd:Agl)(Abe:Agm)(Abf:Agn)(Abg:Ago)(Abh:Agp)(Abi:Agq)(Aa5:Ahn)(Aa6:Aho):Aro:=fun {R} N g b f d c h i a j=>if (i=true) then (Acb N (let e:=(wi (g-1));if (e=0) then (Abj N b 0 d fun l=>a (l==c) 0) else if (e=1) then (Abk N b 0 d fun m=>a (m==c) 0) else if (e=2) then (Abl N b 0 d fun n=>a (n==c) 0) else if (e=3) then (Abm N b 0 d fun o=>a (o==c) 0) else if (e=4) then (Abn N b 0 d fun p=>a (p==c) 0) else if (e=5) then (Abo N b 0 d fun q=>a (q==c) 0) else if (e=6) then (Abp N b 0 d fun r=>a (r==c) 0) else if (e=7) then (Abq N b 0 d fun s=>a (s==c) 0) else if (e=8) then (Abr N b 0 d fun t=>a (t==c) 0) else if (e=9) then (Abb N b 0 d fun u=>a (u==c) 0) else if (e=10) then (Abc N b 0 d fun v=>a (v==c) 0) else if (e=11) then (Abd N b 0 d fun w=>a (w==c) 0) else if (e=12) then (Abe N b 0 d fun x=>a (x==c) 0) else if (e=13) then (Abf N b 0 d fun y=>a (y==c) 0) else if (e=14) then (Abg N b 0 d fun z=>a (z==c) 0) else if (e=15) then (Abh N b 0 d fun A=>a (A==c) 0) else if (e=16) then (Abi N b 0 d fun B=>a (B==c) 0) else if (e=17) then (Aa5 N b 0 d fun C=>a (C==c) 0) else if (e=18) then (Aa6 N b 0 d fun D=>a (D==c) 0) else none)) else if ((h==6)=true) then (if ((decide (b≥0))=true) then (if ((decide (f≥0))=true) then (if ((decide (f≤15))=true) then (if (f<0) then none else a ((Bgv .i64 b f)==c) 0) else a false 0) else a false 0) else a false 0) else if ((h==7)=true) then (if ((decide (b≥0))=true) then (if ((decide (f≥0))=true) then (a (decide (f≤15)) 0) else a false 0) else a false 0) else j g b f d c
def Aej:Aro:=@Bh7 @Acb @Abj @Abk @Abl @Abm @Abn @Abo @Abp @Abq @Abr @Abb @Abc @Abd @Abe @Abf @Abg @Abh @Abi @Aa5 @Aa6
def A6z(Aej:Aro)(N:Nat):Aar Aqg:=fun R x K=>Aej N x.1.1 x.1.2.1 x.1.2.2.1 x.1.2.2.2.1 x.1.2.2.2.2.1 x.1.2.2.2.2.2.1 x.1.2.2.2.2.2.2.1 (fun y0 y1=>K .ret (Aab Bb6 ((y0,y1,()),(())))) (fun y0 y1 y2 y3 y4=>K .normal (Aab Bb7 ((y0,y1,y2,y3,y4,()),(()))))
def Byx(N:Nat):Aar Aqg:=A6z @Aej N
def Aqh:Aac:=⟨[Bbw,Akb,Bha,A10,Cif],[]⟩
def Bb8:Aac:=⟨[C19,B37],[]⟩
def Byy:Ac8:=.cons .ret Bb8 (.nil)
abbrev Coq(R:Type):=Int->Int->Int->Int->Int->(Bool->Int->Option R)->Option R
abbrev Arp:={R:Type}→Nat→Coq R
def Byz(Aga:Awv)(Acb:Akf)(Abj:Ah8)(Abk:Ah9)(Abl:Aia)(Abm:Aib)(Abn:Aic)(Abo:Aid)(Abp:Ag9)(Abq:Aie)(Abr:Aif)(Abb:Ahl)(Abc:Ahm)(Abd:Agl)(Abe:Agm)(Abf:Agn)(Abg:Ago)(Abh:Agp)(Abi:Agq)(Aa5:Ahn)(Aa6:Aho):Arp:=fun {R} N g c a d e b=>Aga N a fun h=>if (h=true) then (Acb N (let f:=(wi (g-1));if (f=0) then (Abj N c a d fun i=>b (i==e) 0) else if (f=1) then (Abk N c a d fun j=>b (j==e) 0) else if (f=2) then (Abl N c a d fun l=>b (l==e) 0) else if (f=3) then (Abm N c a d fun m=>b (m==e) 0) else if (f=4) then (Abn N c a d fun n=>b (n==e) 0) else if (f=5) then (Abo N c a d fun o=>b (o==e) 0) else if (f=6) then (Abp N c a d fun p=>b (p==e) 0) else if (f=7) then (Abq N c a d fun q=>b (q==e) 0) else if (f=8) then (Abr N c a d fun r=>b (r==e) 0) else if (f=9) then (Abb N c a d fun s=>b (s==e) 0) else if (f=10) then (Abc N c a d fun t=>b (t==e) 0) else if (f=11) then (Abd N c a d fun u=>b (u==e) 0) else if (f=12) then (Abe N c a d fun v=>b (v==e) 0) else if (f=13) then (Abf N c a d fun w=>b (w==e) 0) else if (f=14) then (Abg N c a d fun x=>b (x==e) 0) else if (f=15) then (Abh N c a d fun y=>b (y==e) 0) else if (f=16) then (Abi N c a d fun z=>b (z==e) 0) else if (f=17) then (Aa5 N c a d fun A=>b (A==e) 0) else if (f=18) then (Aa6 N c a d fun B=>b (B==e) 0) else none)) else b false 0
def Afs:Arp:=@Byz @Aga @Acb @Abj @Abk @Abl @Abm @Abn @Abo @Abp @Abq @Abr @Abb @Abc @Abd @Abe @Abf @Abg @Abh @Abi @Aa5 @Aa6
def A60(Afs:Arp)(N:Nat):Aar Aqh:=fun R x K=>Afs N x.1.1 x.1.2.1 x.1.2.2.1 x.1.2.2.2.1 x.1.2.2.2.2.1 (fun y0 y1=>K .ret (Aab Bb8 ((y0,y1,()),(()))))
def By0(N:Nat):Aar Aqh:=A60 @Afs N
def Bvh:Aac:=⟨B4a,[]⟩
def Ba5:Aac:=⟨[Dej,Akb],[]⟩
abbrev C21(R:Type):=Int->Int->Int->Int->(Bool->Int->Option R)->Option R
abbrev A83:={R:Type}→Nat→C21 R
def A84(Agv:Awu)(Abw:Aqm)(Aga:Awv)(Aej:Aro)(Afs:Arp):A83:=fun {R} N a f g c b=>Agv N a f g c fun d h=>if ((h != 0)=true) then (b false h) else Abw N f c fun e=>Abw N g c fun i=>Aga N e fun j=>if ((!j)=true) then (b false 0) else Aga N d fun l=>if ((!l)=true) then (b false 0) else if ((a==18)=true) then (Aej N a e i c d a (a==18) (fun m n=>b m n) fun o p q r s=>Afs N o p q r s fun t u=>b t u) else Aej N a e i c d a (a==19) (fun v w=>b v w) fun x y z A B=>Afs N x y z A B fun C D=>b C D
def Ajp:A83:=@A84 @Agv @Abw @Aga @Aej @Afs
def Dkx(N:Nat):Aa0 Bvh [Ba5]:=fun R x C=>Ajp N x.1.1 x.1.2.1 x.1.2.2.1 x.1.2.2.2.1 (fun y0 y1=>C.1 ((y0,y1,()),(())))
def Ca5(Ajp:A83)(N:Nat):Go.AX.Aae:=Aa9 [true,true,true,true] [] false 4 0 Bvh [Ba5] (fun R x C=>Ajp N x.1.1 x.1.2.1 x.1.2.2.1 x.1.2.2.2.1 (fun y0 y1=>C.1 ((y0,y1,()),(()))))
def Ca6(N:Nat):Go.AX.Aae:=Ca5 @Ajp N
def Dky(N:Nat):List (Nat×Abu):=[(20,Aaa Aqg (Byx N)),(30,Aaa Aqh (By0 N))]
def C22(N:Nat):List (Nat×Go.AX.Aae):=[(115,Ca1 N),(175,B0y N),(176,Ca3 N),(177,Bep N),(226,A8k N),(227,A8m N),(228,A8o N),(229,A8q N),(230,A8s N),(231,A8u N),(232,A8x N),(234,A8z N),(235,A81 N),(236,A5e N),(237,A5g N),(238,A5i N),(239,A5k N),(240,A5m N),(241,A5o N),(242,A5q N),(243,A5s N),(244,A5u N),(245,A5w N)]
def Bvi:Aac:=⟨Ard,[]⟩
def Ba6:Aac:=⟨Agj,[]⟩
abbrev C23(R:Type):=Int->Int->Int->(Bool->Option R)->Option R
abbrev A85:={R:Type}→Nat→C23 R
def Bvj(Ah3:A17)(Ajp:A83):A85:=fun {R} N d b c a=>Ah3 N b fun e=>if ((!e)=true) then (a false) else Ah3 N c fun f=>if ((!f)=true) then (a false) else Ajp N d b c 16 fun g h=>if ((h==0)=true) then (a g) else a false
def Anr:A85:=@Bvj @Ah3 @Ajp
def Dkz(N:Nat):Aa0 Bvi [Ba6]:=fun R x C=>Anr N x.1.1 x.1.2.1 x.1.2.2.1 (fun y0=>C.1 ((y0,()),(())))
def Ca7(Anr:A85)(N:Nat):Go.AX.Aae:=Aa9 [true,true,true] [] false 3 0 Bvi [Ba6] (fun R x C=>Anr N x.1.1 x.1.2.1 x.1.2.2.1 (fun y0=>C.1 ((y0,()),(()))))
def Ca8(N:Nat):Go.AX.Aae:=Ca7 @Anr N
def Dk0(N:Nat):List (Nat×Abu):=[]
def C24(N:Nat):List (Nat×Go.AX.Aae):=[(95,Bva N),(124,Ca6 N)]
def Ara:Code:=Tryz.f92.body.getD .skip
def Am4:Aac:=⟨[Akb,Axt,(15,.one (.val .bool))],[]⟩
def A5x:Aac:=⟨A1z,[]⟩
def A5y:Aac:=⟨[],[]⟩
def Brv:Ac8:=.cons .ret A5x (.cons .normal A5y (.nil))
abbrev Ces(R:Type):=Int->Int->Bool->(Bool->Option R)->(Option R)->Option R
abbrev Ar0:={R:Type}→Nat→Ces R
def Ae3:Ar0:=fun {R} N a c d b e=>if (d=true) then (b (a==1)) else if ((c==8)=true) then (b (a==(-1))) else e
def A00(Ae3:Ar0)(N:Nat):Aar Am4:=fun R x K=>Ae3 N x.1.1 x.1.2.1 x.1.2.2.1 (fun y0=>K .ret (Aab A5x ((y0,()),(())))) (K .normal (Aab A5y ((()),(()))))
def Brw(N:Nat):Aar Am4:=A00 @Ae3 N
def Am5:Aac:=⟨[Akb,Axt,Del],[]⟩
def A5z:Aac:=⟨A1z,[]⟩
def A50:Aac:=⟨[],[]⟩
def Brx:Ac8:=.cons .ret A5z (.cons .normal A50 (.nil))
abbrev Cet(R:Type):=Int->Int->Bool->(Bool->Option R)->(Option R)->Option R
abbrev Ap3:={R:Type}→Nat→Cet R
def Bb9(Ae3:Ar0):Ap3:=fun {R} N b a e c d=>if (e=true) then (c (b==0)) else if ((a==1)=true) then (Ae3 N b a (a==1) (fun f=>c f) d) else Ae3 N b a (a==2) (fun g=>c g) d
def Ad6:Ap3:=@Bb9 @Ae3
def A01(Ad6:Ap3)(N:Nat):Aar Am5:=fun R x K=>Ad6 N x.1.1 x.1.2.1 x.1.2.2.1 (fun y0=>K .ret (Aab A5z ((y0,()),(())))) (K .normal (Aab A50 ((()),(()))))
def Bry(N:Nat):Aar Am5:=A01 @Ad6 N
def Blw:Aac:=⟨Bs3,[]⟩
def A28:Aac:=⟨Agj,[]⟩
abbrev Cst(R:Type):=Int->Int->(Bool->Option R)->Option R
abbrev A19:={R:Type}→Nat→Cst R
def Blx(Ad6:Ap3):A19:=fun {R} N a c b=>if ((a==4)=true) then (Ad6 N c a (a==4) (fun d=>b d) (b false)) else if ((a==5)=true) then (Ad6 N c a (a==5) (fun e=>b e) (b false)) else if ((a==9)=true) then (Ad6 N c a (a==9) (fun f=>b f) (b false)) else if ((a==10)=true) then (Ad6 N c a (a==10) (fun g=>b g) (b false)) else if ((a==6)=true) then (Ad6 N c a (a==6) (fun h=>b h) (b false)) else Ad6 N c a (a==7) (fun i=>b i) (b false)
def Alw:A19:=@Blx @Ad6
def Dhs(N:Nat):Aa0 Blw [A28]:=fun R x C=>Alw N x.1.1 x.1.2.1 (fun y0=>C.1 ((y0,()),(())))
def B12(Alw:A19)(N:Nat):Go.AX.Aae:=Aa9 [true,true] [] false 2 0 Blw [A28] (fun R x C=>Alw N x.1.1 x.1.2.1 (fun y0=>C.1 ((y0,()),(()))))
def B13(N:Nat):Go.AX.Aae:=B12 @Alw N
def Dht(N:Nat):List (Nat×Abu):=[(22,Aaa Am4 (Brw N)),(16,Aaa Am5 (Bry N))]
def Csu(N:Nat):List (Nat×Go.AX.Aae):=[]
def Bca:Aac:=⟨Bua,Al1⟩
def Axg:Aac:=⟨Agj,Al1⟩
abbrev Ceu(R:Type):=Int->d4->d0->d2->d3->(Bool->d4->d0->d2->d3->Option R)->Option R
abbrev Avi:={R:Type}→Nat→Ceu R
def Bcb(Aap:Aen)(Anr:A85)(Alw:A19):Avi:=fun {R} N c t u v w d=>Aap N c t u v w fun x f n o p=>if ((x != 1)=true) then (d false f n o p) else if (0≤c∧c<len f) then (let l:=(f.getD c.toNat (0,(0,0))).2.1;let a:=(wi (c+1));Aap N a f n o p fun m b g h i=>if ((m==1)=true) then (let j:=(wi (c+2));Aap N j b g h i fun y e q r s=>if ((y==16)=true) then (if (0≤j∧j<len e) then (if (0≤a∧a<len e) then (Anr N ((e.getD j.toNat (0,(0,0))).2.1) l ((e.getD a.toNat (0,(0,0))).2.1) fun z=>d z e q r s) else none) else none) else d false e q r s) else if ((m==17)=true) then (if (0≤a∧a<len b) then (Anr N ((b.getD a.toNat (0,(0,0))).2.1) l 0 fun A=>d A b g h i) else none) else if ((m==16)=true) then (if (0≤a∧a<len b) then (Alw N ((b.getD a.toNat (0,(0,0))).2.1) l fun B=>d B b g h i) else none) else d false b g h i) else none
def Aht:Avi:=@Bcb @Aap @Anr @Alw
def Dcz(N:Nat):Aa0 Bca [Axg]:=fun R x C=>Aht N x.1.2.1 x.2.1.1 x.2.1.2.2.2.1 x.2.2.1 x.2.2.2.1 (fun y0 y1 y2 y3 y4=>C.1 ((y0,()),((y1,(),(),y2,()),y3,y4,())))
def Brz(Aht:Avi)(N:Nat):Go.AX.Aae:=Aa9 [false,true] (List.replicate 32 true) true 2 3 Bca [Axg] (fun R x C=>Aht N x.1.2.1 x.2.1.1 x.2.1.2.2.2.1 x.2.2.1 x.2.2.2.1 (fun y0 y1 y2 y3 y4=>C.1 ((y0,()),((y1,(),(),y2,()),y3,y4,()))))
def Br0(N:Nat):Go.AX.Aae:=Brz @Aht N
def Dc0(N:Nat):List (Nat×Abu):=[]
def Cev(N:Nat):List (Nat×Go.AX.Aae):=[(90,Apl N),(91,Ca8 N),(92,B13 N)]
def Axz:Aac:=⟨[(0,.one (.fn 47)),wq2,wq3],A0m⟩
def A61:Aac:=⟨Agj,A0m⟩
abbrev Cwu(R:Type):=d4->d0->d2->d3->Int->(Bool->d4->d0->d2->d3->Int->Option R)->Option R
abbrev Ax0:={R:Type}→Nat→Cwu R
def Bp2(Aht:Avi):Ax0:=fun {R} N b c d e a f=>Aht N a b c d e fun g h i j l=>f g h i j l a
def Akr:Ax0:=@Bp2 @Aht
def Diw(N:Nat):Aa0 Axz [A61]:=fun R x C=>Akr N x.2.2.1.1 x.2.2.1.2.2.2.1 x.2.2.2.1 x.2.2.2.2.1 x.2.2.2.2.2.1.1 (fun y0 y1 y2 y3 y4 y5=>C.1 ((y0,()),(((),()),(y1,(),(),y2,()),y3,y4,(y5,()),())))
def Bp3(Akr:Ax0)(N:Nat):Go.AX.Aae:=Aa9 [true] [] false 3 5 Axz [A61] (fun R x C=>Akr N x.2.2.1.1 x.2.2.1.2.2.2.1 x.2.2.2.1 x.2.2.2.2.1 x.2.2.2.2.2.1.1 (fun y0 y1 y2 y3 y4 y5=>C.1 ((y0,()),(((),()),(y1,(),(),y2,()),y3,y4,(y5,()),()))))
def B5b(N:Nat):Go.AX.Aae:=Bp3 @Akr N
def Dix(N:Nat):List (Nat×Abu):=[]
def Cwv(N:Nat):List (Nat×Go.AX.Aae):=[(47,Br0 N)]
def Ap4:Code:=Tryz.f48.body.getD .skip
def Akl:Aac:=⟨[wq1,Akb,Axt],Al1⟩
def Auo:Aac:=⟨A1z,Al1⟩
def Aup:Aac:=⟨[],Al1⟩
def Bkt:Ac8:=.cons .ret Auo (.cons (.exit 0) Aup (.nil))
abbrev A51(R:Type):=Int->Int->d4->d0->d2->d3->(Bool->d4->d0->d2->d3->Option R)->(d4->d0->d2->d3->Option R)->Option R
abbrev Bku(R:Type):=Int->Int->d4->d0->d2->d3->Option R
abbrev Axh:={R:Type}→Nat→Nat→A51 R
def Axi(Aap:Aen){R:Type}(N:Nat)(rc:Bku R):A51 R:=fun c b g h i j l m=>Aap N b g h i j fun n a d e f=>if ((n==19)=true) then (if (0≤b∧b<len a) then (if (0≤c∧c<len a) then (if (((a.getD b.toNat (0,(0,0))).2.1==(a.getD c.toNat (0,(0,0))).2.1)=true) then (l true a d e f) else rc c (wi (b+1)) a d e f) else none) else none) else m a d e f
def Aek{R:Type}(N:Nat):Nat→A51 R
 |0=>fun _ _ _ _ _ _ _ _=>none
 |k+1=>fun a b c d e f g h=>Axi @Aap N (fun a b c d e f=>Aek N k a b c d e f g h) a b c d e f g h
def A52(Aek:Axh)(N k:Nat):Aar Akl:=fun R x K=>Aek N k x.1.2.1 x.1.2.2.1 x.2.1.1 x.2.1.2.2.2.1 x.2.2.1 x.2.2.2.1 (fun y0 y1 y2 y3 y4=>K .ret (Aab Auo ((y0,()),((y1,(),(),y2,()),y3,y4,())))) (fun y0 y1 y2 y3=>K (.exit 0) (Aab Aup ((()),((y0,(),(),y1,()),y2,y3,()))))
def A53(N k:Nat):Aar Akl:=A52 @Aek N k
def Bcc:Aac:=⟨Bua,Al1⟩
def Axj:Aac:=⟨Agj,Al1⟩
abbrev Cew(R:Type):=Int->d4->d0->d2->d3->(Bool->d4->d0->d2->d3->Option R)->Option R
abbrev Avj:={R:Type}→Nat→Cew R
def Bcd(Aap:Aen)(Aek:Axh):Avj:=fun {R} N a g h i j b=>Aap N a g h i j fun l c d e f=>if ((l != 20)=true) then (b false c d e f) else Aek N N a (wi (a+1)) c d e f (fun m n o p q=>b m n o p q) fun r s t u=>b false r s t u
def Ahu:Avj:=@Bcd @Aap @Aek
def Dc1(N:Nat):Aa0 Bcc [Axj]:=fun R x C=>Ahu N x.1.2.1 x.2.1.1 x.2.1.2.2.2.1 x.2.2.1 x.2.2.2.1 (fun y0 y1 y2 y3 y4=>C.1 ((y0,()),((y1,(),(),y2,()),y3,y4,())))
def Br1(Ahu:Avj)(N:Nat):Go.AX.Aae:=Aa9 [false,true] (List.replicate 32 true) true 2 3 Bcc [Axj] (fun R x C=>Ahu N x.1.2.1 x.2.1.1 x.2.1.2.2.2.1 x.2.2.1 x.2.2.2.1 (fun y0 y1 y2 y3 y4=>C.1 ((y0,()),((y1,(),(),y2,()),y3,y4,()))))
def Br2(N:Nat):Go.AX.Aae:=Br1 @Ahu N
def Dc2(N:Nat):List (Nat×Abu):=[(9,Aaa Akl (A53 N N))]
def Cex(N:Nat):List (Nat×Go.AX.Aae):=[(90,Apl N)]
def Ast:Aac:=⟨[(0,.one (.fn 48)),wq2,wq3],A0m⟩
def Ay0:Aac:=⟨Agj,A0m⟩
abbrev Cip(R:Type):=d4->d0->d2->d3->Int->(Bool->d4->d0->d2->d3->Int->Option R)->Option R
abbrev Asu:={R:Type}→Nat→Cip R
def Beq(Ahu:Avj):Asu:=fun {R} N b c d e a f=>Ahu N a b c d e fun g h i j l=>f g h i j l a
def Ag0:Asu:=@Beq @Ahu
def Dey(N:Nat):Aa0 Ast [Ay0]:=fun R x C=>Ag0 N x.2.2.1.1 x.2.2.1.2.2.2.1 x.2.2.2.1 x.2.2.2.2.1 x.2.2.2.2.2.1.1 (fun y0 y1 y2 y3 y4 y5=>C.1 ((y0,()),(((),()),(y1,(),(),y2,()),y3,y4,(y5,()),())))
def Ber(Ag0:Asu)(N:Nat):Go.AX.Aae:=Aa9 [true] [] false 3 5 Ast [Ay0] (fun R x C=>Ag0 N x.2.2.1.1 x.2.2.1.2.2.2.1 x.2.2.2.1 x.2.2.2.2.1 x.2.2.2.2.2.1.1 (fun y0 y1 y2 y3 y4 y5=>C.1 ((y0,()),(((),()),(y1,(),(),y2,()),y3,y4,(y5,()),()))))
def Bvk(N:Nat):Go.AX.Aae:=Ber @Ag0 N
def Dez(N:Nat):List (Nat×Abu):=[]
def Ciq(N:Nat):List (Nat×Go.AX.Aae):=[(48,Br2 N)]
def Al8:Code:=Tryz.f49.body.getD .skip
def Akn:Aac:=⟨[wq1,Axt,(6,.one (.ptr 32)),(15,.one wq0),(16,.one (.val .bool))],[C8m,Dew,Deu,Cz5]⟩
def Axu:Aac:=⟨Cz2,Al1⟩
def Bgo:Ac8:=.cons .normal Axu (.nil)
abbrev B14(R:Type):=Int->Int->Bool->d4->d0->d2->d3->Int->Int->Int->(Int->d4->d0->d2->d3->Option R)->Option R
abbrev An6:={R:Type}→Nat→B14 R
def Ac1:An6:=fun {R} N f g h a b c d l i j e=>if (h=true) then (e i a b c d) else if ((g==30)=true) then (e j a b c d) else e f a b c d
def Auq(Ac1:An6)(N:Nat):Aar Akn:=fun R x K=>Ac1 N x.1.2.1 x.1.2.2.2.1 x.1.2.2.2.2.1 x.2.1.1 x.2.1.2.2.2.1 x.2.2.1 x.2.2.2.1 x.2.2.2.2.1.1 x.2.2.2.2.1.2.1 x.2.2.2.2.1.2.2.1 (fun y0 y1 y2 y3 y4=>K .normal (Aab Axu (((),y0,()),((y1,(),(),y2,()),y3,y4,()))))
def Bgp(N:Nat):Aar Akn:=Auq @Ac1 N
def Aqx:Code:=Tryz.f93.body.getD .skip
def Ak9:Aac:=⟨Cz2,Al1⟩
def Av2:Aac:=⟨Cz2,Al1⟩
def Bn9:Ac8:=.cons (.exit 0) Av2 (.nil)
abbrev A86(R:Type):=Int->d4->d0->d2->d3->(Int->d4->d0->d2->d3->Option R)->Option R
abbrev Boa(R:Type):=Int->d4->d0->d2->d3->Option R
abbrev Ay1:={R:Type}→Nat→Nat→A86 R
def Ay2(Aap:Aen){R:Type}(N:Nat)(rc:Boa R):A86 R:=fun a f g h i j=>Aap N a f g h i fun l b c d e=>if ((l==19)=true) then (rc (wi (a+1)) b c d e) else j a b c d e
def Aez{R:Type}(N:Nat):Nat→A86 R
 |0=>fun _ _ _ _ _ _=>none
 |k+1=>fun a b c d e f=>Ay2 @Aap N (fun a b c d e=>Aez N k a b c d e f) a b c d e f
def A87(Aez:Ay1)(N k:Nat):Aar Ak9:=fun R x K=>Aez N k x.1.2.1 x.2.1.1 x.2.1.2.2.2.1 x.2.2.1 x.2.2.2.1 (fun y0 y1 y2 y3 y4=>K (.exit 0) (Aab Av2 (((),y0,()),((y1,(),(),y2,()),y3,y4,()))))
def A88(N k:Nat):Aar Ak9:=A87 @Aez N k
def Bes:Aac:=⟨Bua,Al1⟩
def Ay3:Aac:=⟨Aio,Al1⟩
abbrev Cir(R:Type):=Int->d4->d0->d2->d3->(Int->d4->d0->d2->d3->Option R)->Option R
abbrev Akg:={R:Type}→Nat→Cir R
def Bet(Aez:Ay1)(Aap:Aen):Akg:=fun {R} N n o p d q c=>Aez N N (Option.getD (Ash (kt:=(.int .i64)) (et:=(.int .i64)) n d) 0) o p d q fun e r s t u=>Aap N e r s t u fun v f g h i=>if ((v==18)=true) then (let a:=(wi (e+1));Aap N a f g h i fun w b j l m=>if ((w==20)=true) then (if (0≤a∧a<len b) then (c ((b.getD a.toNat (0,(0,0))).2.1) b j l m) else none) else c 0 b j l m) else c 0 f g h i
def Ach:Akg:=@Bet @Aez @Aap
def De0(N:Nat):Aa0 Bes [Ay3]:=fun R x C=>Ach N x.1.2.1 x.2.1.1 x.2.1.2.2.2.1 x.2.2.1 x.2.2.2.1 (fun y0 y1 y2 y3 y4=>C.1 ((y0,()),((y1,(),(),y2,()),y3,y4,())))
def Asv(Ach:Akg)(N:Nat):Go.AX.Aae:=Aa9 [false,true] (List.replicate 32 true) true 2 3 Bes [Ay3] (fun R x C=>Ach N x.1.2.1 x.2.1.1 x.2.1.2.2.2.1 x.2.2.1 x.2.2.2.1 (fun y0 y1 y2 y3 y4=>C.1 ((y0,()),((y1,(),(),y2,()),y3,y4,()))))
def Beu(N:Nat):Go.AX.Aae:=Asv @Ach N
def De1(N:Nat):List (Nat×Abu):=[(5,Aaa Ak9 (A88 N N))]
def Cis(N:Nat):List (Nat×Go.AX.Aae):=[(90,Apl N)]
def Aot:Code:=Tryz.f94.body.getD .skip
def Ajq:Aac:=⟨[wq1,Akb,(5,.one (.mp 32)),Bbv],[C8m,Dew,Deu,(32,.amap 79 (.int .i64) .bool)]⟩
def Atn:Aac:=⟨A1z,Al1⟩
def Ato:Aac:=⟨[],Al1⟩
def Bh8:Ac8:=.cons .ret Atn (.cons (.exit 0) Ato (.nil))
abbrev A29(R:Type):=Int->Int->d4->d0->d2->d3->d3->(Bool->d4->d0->d2->d3->Option R)->(d4->d0->d2->d3->Option R)->Option R
abbrev Bh9(R:Type):=Int->Int->d4->d0->d2->d3->d3->Option R
abbrev Av3:={R:Type}→Nat→Nat→A29 R
def Arq(Ach:Akg){R:Type}(N:Nat)(rc:Bh9 R):A29 R:=fun f a b c d e g i h=>if ((a != 0)=true) then (if ((!(Option.getD (Ash (kt:=(.int .i64)) (et:=.bool) a g) false))=true) then (if ((a==f)=true) then (i true b c d e) else Ach N a b c d e fun j l m n o=>rc f j l m n o (Az9 (kt:=(.int .i64)) (et:=.bool) a true g)) else h b c d e) else h b c d e
def Ac6{R:Type}(N:Nat):Nat→A29 R
 |0=>fun _ _ _ _ _ _ _ _ _=>none
 |k+1=>fun a b c d e f g h i=>Arq @Ach N (fun a b c d e f g=>Ac6 N k a b c d e f g h i) a b c d e f g h i
def A3a(Ac6:Av3)(N k:Nat):Aar Ajq:=fun R x K=>Ac6 N k x.1.2.1 x.1.2.2.2.1 x.2.1.1 x.2.1.2.2.2.1 x.2.2.1 x.2.2.2.1 x.2.2.2.2.1 (fun y0 y1 y2 y3 y4=>K .ret (Aab Atn ((y0,()),((y1,(),(),y2,()),y3,y4,())))) (fun y0 y1 y2 y3=>K (.exit 0) (Aab Ato ((()),((y0,(),(),y1,()),y2,y3,()))))
def A3b(N k:Nat):Aar Ajq:=A3a @Ac6 N k
def A89:Aac:=⟨Bua,Al1⟩
def Av4:Aac:=⟨Agj,Al1⟩
abbrev Ca9(R:Type):=Int->d4->d0->d2->d3->(Bool->d4->d0->d2->d3->Option R)->Option R
abbrev Aou:={R:Type}→Nat→Ca9 R
def A9a(Ach:Akg)(Ac6:Av3):Aou:=fun {R} N a c d e f b=>Ach N a c d e f fun g h i j l=>Ac6 N N a g h i j l ([]:List (Int×Bool)) (fun m n o p q=>b m n o p q) fun r s t u=>b false r s t u
def Ae0:Aou:=@A9a @Ach @Ac6
def Dbs(N:Nat):Aa0 A89 [Av4]:=fun R x C=>Ae0 N x.1.2.1 x.2.1.1 x.2.1.2.2.2.1 x.2.2.1 x.2.2.2.1 (fun y0 y1 y2 y3 y4=>C.1 ((y0,()),((y1,(),(),y2,()),y3,y4,())))
def Ay4(Ae0:Aou)(N:Nat):Go.AX.Aae:=Aa9 [false,true] (List.replicate 32 true) true 2 3 A89 [Av4] (fun R x C=>Ae0 N x.1.2.1 x.2.1.1 x.2.1.2.2.2.1 x.2.2.1 x.2.2.2.1 (fun y0 y1 y2 y3 y4=>C.1 ((y0,()),((y1,(),(),y2,()),y3,y4,()))))
def Bob(N:Nat):Go.AX.Aae:=Ay4 @Ae0 N
def Dbt(N:Nat):List (Nat×Abu):=[(7,Aaa Ajq (A3b N N))]
def Cba(N:Nat):List (Nat×Go.AX.Aae):=[(93,Beu N)]
def Ako:Aac:=⟨Cz2,Al1⟩
def Axv:Aac:=⟨A1z,Al1⟩
def Bgq:Ac8:=.cons .ret Axv (.nil)
abbrev B15(R:Type):=Int->d4->d0->d2->d3->(Bool->d4->d0->d2->d3->Option R)->Option R
abbrev Alx:={R:Type}→Nat→B15 R
def Aur(Ach:Akg)(Ae0:Aou):Alx:=fun {R} N a c d e f b=>if ((decide (a > 0))=true) then (Ach N a c d e f fun l g h i j=>if ((decide (l > 0))=true) then (Ae0 N a g h i j fun m n o p q=>b (!m) n o p q) else b false g h i j) else b false c d e f
def Acr:Alx:=@Aur @Ach @Ae0
def Aus(Acr:Alx)(N:Nat):Aar Ako:=fun R x K=>Acr N x.1.2.1 x.2.1.1 x.2.1.2.2.2.1 x.2.2.1 x.2.2.2.1 (fun y0 y1 y2 y3 y4=>K .ret (Aab Axv ((y0,()),((y1,(),(),y2,()),y3,y4,()))))
def Bgr(N:Nat):Aar Ako:=Aus @Acr N
def A9b:Aac:=⟨Bua,Al1⟩
def Av5:Aac:=⟨Agj,Al1⟩
abbrev Cbb(R:Type):=Int->d4->d0->d2->d3->(Bool->d4->d0->d2->d3->Option R)->Option R
abbrev At3:={R:Type}→Nat→Cbb R
def A9c(Ac1:An6)(Acr:Alx):At3:=fun {R} N c b d e f g=>if (0≤c∧c<len b) then (let a:=(b.getD c.toNat (0,(0,0))).1;let h:=(b.getD c.toNat (0,(0,0))).2.1;let i:=(b.getD c.toNat (0,(0,0))).2.2;if ((a==20)=true) then (Ac1 N 0 a (a==20) b d e f a h i fun j l m n o=>Acr N j l m n o fun p q r s t=>g p q r s t) else if ((a==21)=true) then (Ac1 N 0 a (a==21) b d e f a h i fun u v w x y=>Acr N u v w x y fun z A B C D=>g z A B C D) else if ((a==22)=true) then (Ac1 N 0 a (a==22) b d e f a h i fun E F G H I=>Acr N E F G H I fun J L M O P=>g J L M O P) else Ac1 N 0 a (a==29) b d e f a h i fun Q S T U V=>Acr N Q S T U V fun W X Y Z aa=>g W X Y Z aa) else none
def Agw:At3:=@A9c @Ac1 @Acr
def Dbu(N:Nat):Aa0 A9b [Av5]:=fun R x C=>Agw N x.1.2.1 x.2.1.1 x.2.1.2.2.2.1 x.2.2.1 x.2.2.2.1 (fun y0 y1 y2 y3 y4=>C.1 ((y0,()),((y1,(),(),y2,()),y3,y4,())))
def Boc(Agw:At3)(N:Nat):Go.AX.Aae:=Aa9 [false,true] (List.replicate 32 true) true 2 3 A9b [Av5] (fun R x C=>Agw N x.1.2.1 x.2.1.1 x.2.1.2.2.2.1 x.2.2.1 x.2.2.2.1 (fun y0 y1 y2 y3 y4=>C.1 ((y0,()),((y1,(),(),y2,()),y3,y4,()))))
def Bod(N:Nat):Go.AX.Aae:=Boc @Agw N
def Dbv(N:Nat):List (Nat×Abu):=[(16,Aaa Akn (Bgp N)),(22,Aaa Ako (Bgr N))]
def Cbc(N:Nat):List (Nat×Go.AX.Aae):=[(93,Beu N),(94,Bob N)]
def Asw:Aac:=⟨[(0,.one (.fn 49)),wq2,wq3],A0m⟩
def Ay5:Aac:=⟨Agj,A0m⟩
abbrev Cit(R:Type):=d4->d0->d2->d3->Int->(Bool->d4->d0->d2->d3->Int->Option R)->Option R
abbrev Asx:={R:Type}→Nat→Cit R
def Bev(Agw:At3):Asx:=fun {R} N b c d e a f=>Agw N a b c d e fun g h i j l=>f g h i j l a
def Ag1:Asx:=@Bev @Agw
def De2(N:Nat):Aa0 Asw [Ay5]:=fun R x C=>Ag1 N x.2.2.1.1 x.2.2.1.2.2.2.1 x.2.2.2.1 x.2.2.2.2.1 x.2.2.2.2.2.1.1 (fun y0 y1 y2 y3 y4 y5=>C.1 ((y0,()),(((),()),(y1,(),(),y2,()),y3,y4,(y5,()),())))
def Bew(Ag1:Asx)(N:Nat):Go.AX.Aae:=Aa9 [true] [] false 3 5 Asw [Ay5] (fun R x C=>Ag1 N x.2.2.1.1 x.2.2.1.2.2.2.1 x.2.2.2.1 x.2.2.2.2.1 x.2.2.2.2.2.1.1 (fun y0 y1 y2 y3 y4 y5=>C.1 ((y0,()),(((),()),(y1,(),(),y2,()),y3,y4,(y5,()),()))))
def Bvl(N:Nat):Go.AX.Aae:=Bew @Ag1 N
def De3(N:Nat):List (Nat×Abu):=[]
def Ciu(N:Nat):List (Nat×Go.AX.Aae):=[(49,Bod N)]
def Bvm:Code:=Tryz.f50.body.getD .skip
def Bex:Aac:=⟨Bua,Al1⟩
def Ay6:Aac:=⟨Agj,Al1⟩
abbrev Civ(R:Type):=Int->d4->d0->d2->d3->(Bool->d4->d0->d2->d3->Option R)->Option R
abbrev Aww:={R:Type}→Nat→Civ R
def Bey(Aap:Aen)(Acg:Alu):Aww:=fun {R} N a d e f g b=>if ((decide (a > 0))=true) then (Aap N a d e f g fun p h i j l=>if ((p != 19)=true) then (Aap N a h i j l fun q c m n o=>if ((q != 24)=true) then (Acg N c (wi (a-1)) fun r=>b r c m n o) else b false c m n o) else b false h i j l) else b false d e f g
def Aiu:Aww:=@Bey @Aap @Acg
def De4(N:Nat):Aa0 Bex [Ay6]:=fun R x C=>Aiu N x.1.2.1 x.2.1.1 x.2.1.2.2.2.1 x.2.2.1 x.2.2.2.1 (fun y0 y1 y2 y3 y4=>C.1 ((y0,()),((y1,(),(),y2,()),y3,y4,())))
def Bvn(Aiu:Aww)(N:Nat):Go.AX.Aae:=Aa9 [false,true] (List.replicate 32 true) true 2 3 Bex [Ay6] (fun R x C=>Aiu N x.1.2.1 x.2.1.1 x.2.1.2.2.2.1 x.2.2.1 x.2.2.2.1 (fun y0 y1 y2 y3 y4=>C.1 ((y0,()),((y1,(),(),y2,()),y3,y4,()))))
def Bvo(N:Nat):Go.AX.Aae:=Bvn @Aiu N
def De5(N:Nat):List (Nat×Abu):=[]
def Ciw(N:Nat):List (Nat×Go.AX.Aae):=[(90,Apl N),(75,Bhk N)]
def Asy:Aac:=⟨[(0,.one (.fn 50)),wq2,wq3],A0m⟩
def Ay7:Aac:=⟨Agj,A0m⟩
abbrev Cix(R:Type):=d4->d0->d2->d3->Int->(Bool->d4->d0->d2->d3->Int->Option R)->Option R
abbrev Asz:={R:Type}→Nat→Cix R
def Bez(Aiu:Aww):Asz:=fun {R} N b c d e a f=>Aiu N a b c d e fun g h i j l=>f g h i j l a
def Ag2:Asz:=@Bez @Aiu
def De6(N:Nat):Aa0 Asy [Ay7]:=fun R x C=>Ag2 N x.2.2.1.1 x.2.2.1.2.2.2.1 x.2.2.2.1 x.2.2.2.2.1 x.2.2.2.2.2.1.1 (fun y0 y1 y2 y3 y4 y5=>C.1 ((y0,()),(((),()),(y1,(),(),y2,()),y3,y4,(y5,()),())))
def Be0(Ag2:Asz)(N:Nat):Go.AX.Aae:=Aa9 [true] [] false 3 5 Asy [Ay7] (fun R x C=>Ag2 N x.2.2.1.1 x.2.2.1.2.2.2.1 x.2.2.2.1 x.2.2.2.2.1 x.2.2.2.2.2.1.1 (fun y0 y1 y2 y3 y4 y5=>C.1 ((y0,()),(((),()),(y1,(),(),y2,()),y3,y4,(y5,()),()))))
def Bvp(N:Nat):Go.AX.Aae:=Be0 @Ag2 N
def De7(N:Nat):List (Nat×Abu):=[]
def Ciy(N:Nat):List (Nat×Go.AX.Aae):=[(50,Bvo N)]
def Bvq:Code:=Tryz.f51.body.getD .skip
def Be1:Aac:=⟨Bua,Al1⟩
def Ay8:Aac:=⟨Agj,Al1⟩
abbrev Ciz(R:Type):=Int->d4->d0->d2->d3->(Bool->d4->d0->d2->d3->Option R)->Option R
abbrev Awx:={R:Type}→Nat→Ciz R
def Be2(Aap:Aen):Awx:=fun {R} N a g h i j d=>Aap N a g h i j fun l b e f c=>if ((l==19)=true) then (if (0≤a∧a<len b) then (d (!(Option.getD (Ash (kt:=(.int .i64)) (et:=.bool) (b.getD a.toNat (0,(0,0))).2.1 c) false)) b e f c) else none) else d false b e f c
def Aiv:Awx:=@Be2 @Aap
def De8(N:Nat):Aa0 Be1 [Ay8]:=fun R x C=>Aiv N x.1.2.1 x.2.1.1 x.2.1.2.2.2.1 x.2.2.1 x.2.2.2.1 (fun y0 y1 y2 y3 y4=>C.1 ((y0,()),((y1,(),(),y2,()),y3,y4,())))
def Bvr(Aiv:Awx)(N:Nat):Go.AX.Aae:=Aa9 [false,true] (List.replicate 32 true) true 2 3 Be1 [Ay8] (fun R x C=>Aiv N x.1.2.1 x.2.1.1 x.2.1.2.2.2.1 x.2.2.1 x.2.2.2.1 (fun y0 y1 y2 y3 y4=>C.1 ((y0,()),((y1,(),(),y2,()),y3,y4,()))))
def Bvs(N:Nat):Go.AX.Aae:=Bvr @Aiv N
def De9(N:Nat):List (Nat×Abu):=[]
def Ci0(N:Nat):List (Nat×Go.AX.Aae):=[(90,Apl N)]
def As0:Aac:=⟨[(0,.one (.fn 51)),wq2,wq3],A0m⟩
def Ay9:Aac:=⟨Agj,A0m⟩
abbrev Ci1(R:Type):=d4->d0->d2->d3->Int->(Bool->d4->d0->d2->d3->Int->Option R)->Option R
abbrev As1:={R:Type}→Nat→Ci1 R
def Be3(Aiv:Awx):As1:=fun {R} N b c d e a f=>Aiv N a b c d e fun g h i j l=>f g h i j l a
def Ag3:As1:=@Be3 @Aiv
def Dfa(N:Nat):Aa0 As0 [Ay9]:=fun R x C=>Ag3 N x.2.2.1.1 x.2.2.1.2.2.2.1 x.2.2.2.1 x.2.2.2.2.1 x.2.2.2.2.2.1.1 (fun y0 y1 y2 y3 y4 y5=>C.1 ((y0,()),(((),()),(y1,(),(),y2,()),y3,y4,(y5,()),())))
def Be4(Ag3:As1)(N:Nat):Go.AX.Aae:=Aa9 [true] [] false 3 5 As0 [Ay9] (fun R x C=>Ag3 N x.2.2.1.1 x.2.2.1.2.2.2.1 x.2.2.2.1 x.2.2.2.2.1 x.2.2.2.2.2.1.1 (fun y0 y1 y2 y3 y4 y5=>C.1 ((y0,()),(((),()),(y1,(),(),y2,()),y3,y4,(y5,()),()))))
def Bvt(N:Nat):Go.AX.Aae:=Be4 @Ag3 N
def Dfb(N:Nat):List (Nat×Abu):=[]
def Ci2(N:Nat):List (Nat×Go.AX.Aae):=[(51,Bvs N)]
def Br3:Code:=Tryz.f52.body.getD .skip
def Bce:Aac:=⟨Bua,Al1⟩
def Axk:Aac:=⟨Agj,Al1⟩
abbrev Cey(R:Type):=Int->d4->d0->d2->d3->(Bool->d4->d0->d2->d3->Option R)->Option R
abbrev Avk:={R:Type}→Nat→Cey R
def Bcf(Aap:Aen):Avk:=fun {R} N a g h i j d=>Aap N a g h i j fun l b c e f=>if ((l==18)=true) then (if (0≤a∧a<len c) then (if (0≤a∧a<len b) then (if (((c.getD a.toNat 0)==(b.getD a.toNat (0,(0,0))).2.1)=true) then (Aap N (wi (a-1)) b c e f fun m n o p q=>d (m != 19) n o p q) else d false b c e f) else none) else none) else d false b c e f
def Ahv:Avk:=@Bcf @Aap
def Dc3(N:Nat):Aa0 Bce [Axk]:=fun R x C=>Ahv N x.1.2.1 x.2.1.1 x.2.1.2.2.2.1 x.2.2.1 x.2.2.2.1 (fun y0 y1 y2 y3 y4=>C.1 ((y0,()),((y1,(),(),y2,()),y3,y4,())))
def Br4(Ahv:Avk)(N:Nat):Go.AX.Aae:=Aa9 [false,true] (List.replicate 32 true) true 2 3 Bce [Axk] (fun R x C=>Ahv N x.1.2.1 x.2.1.1 x.2.1.2.2.2.1 x.2.2.1 x.2.2.2.1 (fun y0 y1 y2 y3 y4=>C.1 ((y0,()),((y1,(),(),y2,()),y3,y4,()))))
def Br5(N:Nat):Go.AX.Aae:=Br4 @Ahv N
def Dc4(N:Nat):List (Nat×Abu):=[]
def Cez(N:Nat):List (Nat×Go.AX.Aae):=[(90,Apl N)]
def As2:Aac:=⟨[(0,.one (.fn 52)),wq2,wq3],A0m⟩
def Aza:Aac:=⟨Agj,A0m⟩
abbrev Ci3(R:Type):=d4->d0->d2->d3->Int->(Bool->d4->d0->d2->d3->Int->Option R)->Option R
abbrev As3:={R:Type}→Nat→Ci3 R
def Be5(Ahv:Avk):As3:=fun {R} N b c d e a f=>Ahv N a b c d e fun g h i j l=>f g h i j l a
def Ag4:As3:=@Be5 @Ahv
def Dfc(N:Nat):Aa0 As2 [Aza]:=fun R x C=>Ag4 N x.2.2.1.1 x.2.2.1.2.2.2.1 x.2.2.2.1 x.2.2.2.2.1 x.2.2.2.2.2.1.1 (fun y0 y1 y2 y3 y4 y5=>C.1 ((y0,()),(((),()),(y1,(),(),y2,()),y3,y4,(y5,()),())))
def Be6(Ag4:As3)(N:Nat):Go.AX.Aae:=Aa9 [true] [] false 3 5 As2 [Aza] (fun R x C=>Ag4 N x.2.2.1.1 x.2.2.1.2.2.2.1 x.2.2.2.1 x.2.2.2.2.1 x.2.2.2.2.2.1.1 (fun y0 y1 y2 y3 y4 y5=>C.1 ((y0,()),(((),()),(y1,(),(),y2,()),y3,y4,(y5,()),()))))
def Bvu(N:Nat):Go.AX.Aae:=Be6 @Ag4 N
def Dfd(N:Nat):List (Nat×Abu):=[]
def Ci4(N:Nat):List (Nat×Go.AX.Aae):=[(52,Br5 N)]
def Bkv:Code:=Tryz.f53.body.getD .skip
def A54:Aac:=⟨Bua,Al1⟩
def Aut:Aac:=⟨Agj,Al1⟩
abbrev B65(R:Type):=Int->d4->d0->d2->d3->(Bool->d4->d0->d2->d3->Option R)->Option R
abbrev Asd:={R:Type}→Nat→B65 R
def A55(Aap:Aen)(Ah3:A17):Asd:=fun {R} N a m n o p c=>Aap N a m n o p fun q b d e f=>if ((q==1)=true) then (if (0≤a∧a<len b) then (Ah3 N ((b.getD a.toNat (0,(0,0))).2.1) fun r=>if (r=true) then (let g:=(wi (a+1));Aap N g b d e f fun s h i j l=>if ((s==21)=true) then (c true h i j l) else Aap N g h i j l fun t u v w x=>c (t==22) u v w x) else c false b d e f) else none) else c false b d e f
def Agd:Asd:=@A55 @Aap @Ah3
def Dab(N:Nat):Aa0 A54 [Aut]:=fun R x C=>Agd N x.1.2.1 x.2.1.1 x.2.1.2.2.2.1 x.2.2.1 x.2.2.2.1 (fun y0 y1 y2 y3 y4=>C.1 ((y0,()),((y1,(),(),y2,()),y3,y4,())))
def Bkw(Agd:Asd)(N:Nat):Go.AX.Aae:=Aa9 [false,true] (List.replicate 32 true) true 2 3 A54 [Aut] (fun R x C=>Agd N x.1.2.1 x.2.1.1 x.2.1.2.2.2.1 x.2.2.1 x.2.2.2.1 (fun y0 y1 y2 y3 y4=>C.1 ((y0,()),((y1,(),(),y2,()),y3,y4,()))))
def Bkx(N:Nat):Go.AX.Aae:=Bkw @Agd N
def Dac(N:Nat):List (Nat×Abu):=[]
def B66(N:Nat):List (Nat×Go.AX.Aae):=[(90,Apl N),(95,Bva N)]
def As4:Aac:=⟨[(0,.one (.fn 53)),wq2,wq3],A0m⟩
def Azb:Aac:=⟨Agj,A0m⟩
abbrev Ci5(R:Type):=d4->d0->d2->d3->Int->(Bool->d4->d0->d2->d3->Int->Option R)->Option R
abbrev As5:={R:Type}→Nat→Ci5 R
def Be7(Agd:Asd):As5:=fun {R} N b c d e a f=>Agd N a b c d e fun g h i j l=>f g h i j l a
def Ag5:As5:=@Be7 @Agd
def Dfe(N:Nat):Aa0 As4 [Azb]:=fun R x C=>Ag5 N x.2.2.1.1 x.2.2.1.2.2.2.1 x.2.2.2.1 x.2.2.2.2.1 x.2.2.2.2.2.1.1 (fun y0 y1 y2 y3 y4 y5=>C.1 ((y0,()),(((),()),(y1,(),(),y2,()),y3,y4,(y5,()),())))
def Be8(Ag5:As5)(N:Nat):Go.AX.Aae:=Aa9 [true] [] false 3 5 As4 [Azb] (fun R x C=>Ag5 N x.2.2.1.1 x.2.2.1.2.2.2.1 x.2.2.2.1 x.2.2.2.2.1 x.2.2.2.2.2.1.1 (fun y0 y1 y2 y3 y4 y5=>C.1 ((y0,()),(((),()),(y1,(),(),y2,()),y3,y4,(y5,()),()))))
def Bvv(N:Nat):Go.AX.Aae:=Be8 @Ag5 N
def Dff(N:Nat):List (Nat×Abu):=[]
def Ci6(N:Nat):List (Nat×Go.AX.Aae):=[(53,Bkx N)]
def Bvw:Code:=Tryz.f54.body.getD .skip
def Be9:Aac:=⟨Bua,Al1⟩
def Azc:Aac:=⟨Agj,Al1⟩
abbrev Ci7(R:Type):=Int->d4->d0->d2->d3->(Bool->d4->d0->d2->d3->Option R)->Option R
abbrev Awy:={R:Type}→Nat→Ci7 R
def Bfa(Aap:Aen):Awy:=fun {R} N b m n o p d=>Aap N b m n o p fun q e f g h=>if ((q==2)=true) then (let c:=(wi (b+1));Aap N c e f g h fun r a i j l=>if ((r==3)=true) then (if (0≤b∧b<len a) then (if (0≤c∧c<len a) then (d ((a.getD b.toNat (0,(0,0))).2.1==(a.getD c.toNat (0,(0,0))).2.1) a i j l) else none) else none) else d false a i j l) else d false e f g h
def Aiw:Awy:=@Bfa @Aap
def Dfg(N:Nat):Aa0 Be9 [Azc]:=fun R x C=>Aiw N x.1.2.1 x.2.1.1 x.2.1.2.2.2.1 x.2.2.1 x.2.2.2.1 (fun y0 y1 y2 y3 y4=>C.1 ((y0,()),((y1,(),(),y2,()),y3,y4,())))
def Bvx(Aiw:Awy)(N:Nat):Go.AX.Aae:=Aa9 [false,true] (List.replicate 32 true) true 2 3 Be9 [Azc] (fun R x C=>Aiw N x.1.2.1 x.2.1.1 x.2.1.2.2.2.1 x.2.2.1 x.2.2.2.1 (fun y0 y1 y2 y3 y4=>C.1 ((y0,()),((y1,(),(),y2,()),y3,y4,()))))
def Bvy(N:Nat):Go.AX.Aae:=Bvx @Aiw N
def Dfh(N:Nat):List (Nat×Abu):=[]
def Ci8(N:Nat):List (Nat×Go.AX.Aae):=[(90,Apl N)]
def Bfb:Aac:=⟨[(0,.one (.fn 54)),wq2,wq3],A0m⟩
def Azd:Aac:=⟨Agj,A0m⟩
abbrev Ci9(R:Type):=d4->d0->d2->d3->Int->(Bool->d4->d0->d2->d3->Int->Option R)->Option R
abbrev As6:={R:Type}→Nat→Ci9 R
def Bfc(Aiw:Awy):As6:=fun {R} N b c d e a f=>Aiw N a b c d e fun g h i j l=>f g h i j l a
def Ag6:As6:=@Bfc @Aiw
def Dfi(N:Nat):Aa0 Bfb [Azd]:=fun R x C=>Ag6 N x.2.2.1.1 x.2.2.1.2.2.2.1 x.2.2.2.1 x.2.2.2.2.1 x.2.2.2.2.2.1.1 (fun y0 y1 y2 y3 y4 y5=>C.1 ((y0,()),(((),()),(y1,(),(),y2,()),y3,y4,(y5,()),())))
def Bfd(Ag6:As6)(N:Nat):Go.AX.Aae:=Aa9 [true] [] false 3 5 Bfb [Azd] (fun R x C=>Ag6 N x.2.2.1.1 x.2.2.1.2.2.2.1 x.2.2.2.1 x.2.2.2.2.1 x.2.2.2.2.2.1.1 (fun y0 y1 y2 y3 y4 y5=>C.1 ((y0,()),(((),()),(y1,(),(),y2,()),y3,y4,(y5,()),()))))
def Bvz(N:Nat):Go.AX.Aae:=Bfd @Ag6 N
def Dfj(N:Nat):List (Nat×Abu):=[]
def Cja(N:Nat):List (Nat×Go.AX.Aae):=[(54,Bvy N)]
def Aa2:Aac:=⟨[(0,.one (.vs 0 8)),Deo,Bt7,Bt8],B4c⟩
def Ad2:Aac:=⟨B38,B4c⟩
def Ad3:Aac:=⟨[],B4c⟩
def Aji:Ac8:=.cons .ret Ad2 (.cons (.exit 0) Ad3 (.nil))
abbrev Afu(R:Type):=Int->Int->d4->d0->d2->d3->Int->(Int->d4->d0->d2->d3->Int->Option R)->(d4->d0->d2->d3->Int->Option R)->Option R
abbrev Ajj(R:Type):=Int->Int->d4->d0->d2->d3->Int->Option R
abbrev Ad7:={R:Type}→Nat→Nat→Afu R
def Ajk(Akr:Ax0)(Ag0:Asu)(Ag1:Asx)(Ag2:Asz)(Ag3:As1)(Ag4:As3)(Ag5:As5)(Ag6:As6){R:Type}(N:Nat)(rc:Ajj R):Afu R:=fun b a c d e f g h K1=>if ((decide (a<b))=true) then (if (a=0) then (Akr N c d e f g fun y0 i j l m n=>if (y0=true) then (h a i j l m n) else rc b (wi (a+1)) i j l m n) else if (a=1) then (Ag0 N c d e f g fun y6 o p q r s=>if (y6=true) then (h a o p q r s) else rc b (wi (a+1)) o p q r s) else if (a=2) then (Ag1 N c d e f g fun y12 t u v w x=>if (y12=true) then (h a t u v w x) else rc b (wi (a+1)) t u v w x) else if (a=3) then (Ag2 N c d e f g fun y18 y z A B C=>if (y18=true) then (h a y z A B C) else rc b (wi (a+1)) y z A B C) else if (a=4) then (Ag3 N c d e f g fun y24 D E F G H=>if (y24=true) then (h a D E F G H) else rc b (wi (a+1)) D E F G H) else if (a=5) then (Ag4 N c d e f g fun y30 I J L M O=>if (y30=true) then (h a I J L M O) else rc b (wi (a+1)) I J L M O) else if (a=6) then (Ag5 N c d e f g fun y36 P Q S T U=>if (y36=true) then (h a P Q S T U) else rc b (wi (a+1)) P Q S T U) else if (a=7) then (Ag6 N c d e f g fun y42 V W X Y Z=>if (y42=true) then (h a V W X Y Z) else rc b (wi (a+1)) V W X Y Z) else none) else K1 c d e f g
def Aam{R:Type}(N:Nat):Nat→Afu R
 |0=>fun _ _ _ _ _ _ _ _ _=>none
 |k+1=>fun a b c d e f g h i=>Ajk @Akr @Ag0 @Ag1 @Ag2 @Ag3 @Ag4 @Ag5 @Ag6 N (fun a b c d e f g=>Aam N k a b c d e f g h i) a b c d e f g h i
def Afv(Aam:Ad7)(N k:Nat):Aar Aa2:=fun R x K=>Aam N k x.1.2.2.1 x.1.2.2.2.1 x.2.2.2.1.1 x.2.2.2.1.2.2.2.1 x.2.2.2.2.1 x.2.2.2.2.2.1 x.2.2.2.2.2.2.1.1 (fun y0 y1 y2 y3 y4 y5=>K .ret (Aab Ad2 ((y0,()),(((),(),(),(),(),(),(),(),()),((),()),(y1,(),(),y2,()),y3,y4,(y5,()),())))) (fun y0 y1 y2 y3 y4=>K (.exit 0) (Aab Ad3 ((()),(((),(),(),(),(),(),(),(),()),((),()),(y0,(),(),y1,()),y2,y3,(y4,()),()))))
def Afw(N k:Nat):Aar Aa2:=Afv @Aam N k
def Af4:Aac:=⟨[(0,.one (.vs 0 8)),Deo],B4c⟩
def Ad8:Aac:=⟨Aio,B4c⟩
abbrev Aqo(R:Type):=d4->d0->d2->d3->Int->(Int->d4->d0->d2->d3->Int->Option R)->Option R
abbrev Ac7:={R:Type}→Nat→Aqo R
def Af5(Aam:Ad7):Ac7:=fun {R} N b c d e f a=>Aam N N 8 0 b c d e f (fun g h i j l m=>a g h i j l m) fun n o p q r=>a (-1) n o p q r
def Aau:Ac7:=@Af5 @Aam
def Bc8(N:Nat):Aa0 Af4 [Ad8]:=fun R x C=>Aau N x.2.2.2.1.1 x.2.2.2.1.2.2.2.1 x.2.2.2.2.1 x.2.2.2.2.2.1 x.2.2.2.2.2.2.1.1 (fun y0 y1 y2 y3 y4 y5=>C.1 ((y0,()),(((),(),(),(),(),(),(),(),()),((),()),(y1,(),(),y2,()),y3,y4,(y5,()),())))
def Ajt(Aau:Ac7)(N:Nat):Go.AX.Aae:=Aa9 [true,true] [] false 2 6 Af4 [Ad8] (fun R x C=>Aau N x.2.2.2.1.1 x.2.2.2.1.2.2.2.1 x.2.2.2.2.1 x.2.2.2.2.2.1 x.2.2.2.2.2.2.1.1 (fun y0 y1 y2 y3 y4 y5=>C.1 ((y0,()),(((),(),(),(),(),(),(),(),()),((),()),(y1,(),(),y2,()),y3,y4,(y5,()),()))))
def Aju(N:Nat):Go.AX.Aae:=Ajt @Aau N
def Bc9(N:Nat):List (Nat×Abu):=[(5,Aaa Aa2 (Afw N N))]
def Aqp(N:Nat):List (Nat×Go.AX.Aae):=[(19,Aj3 3 Axz (B5b N) (Aj3 3 Ast (Bvk N) (Aj3 3 Asw (Bvl N) (Aj3 3 Asy (Bvp N) (Aj3 3 As0 (Bvt N) (Aj3 3 As2 (Bvu N) (Aj3 3 As4 (Bvv N) (Bvz N))))))))]
def Afp:Aac:=⟨[(0,.one (.vs 0 8)),Deo],B4c⟩
def Adw:Aac:=⟨Agj,B4c⟩
abbrev Apv(R:Type):=d4->d0->d2->d3->Int->(Bool->d4->d0->d2->d3->Int->Option R)->Option R
abbrev Acd:={R:Type}→Nat→Apv R
def Afq(Aau:Ac7):Acd:=fun {R} N a b c d e f=>Aau N a b c d e fun g h i j l m=>f (decide (g≥0)) h i j l m
def Aah:Acd:=@Afq @Aau
def Bbr(N:Nat):Aa0 Afp [Adw]:=fun R x C=>Aah N x.2.2.2.1.1 x.2.2.2.1.2.2.2.1 x.2.2.2.2.1 x.2.2.2.2.2.1 x.2.2.2.2.2.2.1.1 (fun y0 y1 y2 y3 y4 y5=>C.1 ((y0,()),(((),(),(),(),(),(),(),(),()),((),()),(y1,(),(),y2,()),y3,y4,(y5,()),())))
def Afr(Aah:Acd)(N:Nat):Go.AX.Aae:=Aa9 [true,true] [] false 2 6 Afp [Adw] (fun R x C=>Aah N x.2.2.2.1.1 x.2.2.2.1.2.2.2.1 x.2.2.2.2.1 x.2.2.2.2.2.1 x.2.2.2.2.2.2.1.1 (fun y0 y1 y2 y3 y4 y5=>C.1 ((y0,()),(((),(),(),(),(),(),(),(),()),((),()),(y1,(),(),y2,()),y3,y4,(y5,()),()))))
def Ajg(N:Nat):Go.AX.Aae:=Afr @Aah N
def Bbs(N:Nat):List (Nat×Abu):=[]
def Apw(N:Nat):List (Nat×Go.AX.Aae):=[(55,Aju N)]
def Apm:Aac:=⟨[(6,.one (.ptr 32)),(7,.one (.vs 33 8)),(8,.one (.slf 34)),(25,.one wq0),(26,.one wq0)],[(32,.cells 43 [(.ptr 35)]),(33,.cells 48 [(.fn 47),(.fn 48),(.fn 49),(.fn 50),(.fn 51),(.fn 52),(.fn 53),(.fn 54)]),C2a,(35,.cells 81 [(.val z4),(.mp 36),(.mp 37),Blj]),(36,.amap 78 (.int .i64) (.int .i64)),(37,.amap 79 (.int .i64) .bool)]⟩
def A3c:Aac:=⟨[C8a],B9q⟩
def B16:Ac8:=.cons (.exit 0) A3c (.nil)
abbrev Bly(R:Type):=Int->Int->d0->d4->d0->d2->d3->(d0->Option R)->Option R
abbrev B17(R:Type):=Int->Int->d0->d4->d0->d2->d3->Option R
abbrev Ba7:={R:Type}→Nat→Nat→Bly R
def Ba8(Aah:Acd){R:Type}(N:Nat)(rc:B17 R):Bly R:=fun c a b i j l m n=>if ((decide (a<c))=true) then (Aah N i j l m a fun o d e f g h=>if (o=true) then (if ((((List.length b)+(List.length (h::([]:List Int))))*(8:Nat))≤(70368744177664:Nat)) then (rc c (wi (a+1)) (b++(h::([]:List Int))) d e f g) else none) else rc c (wi (a+1)) b d e f g) else n b
def Agx{R:Type}(N:Nat):Nat→Bly R
 |0=>fun _ _ _ _ _ _ _ _=>none
 |k+1=>fun a b c d e f g h=>Ba8 @Aah N (fun a b c d e f g=>Agx N k a b c d e f g h) a b c d e f g h
def Blz(Agx:Ba7)(N k:Nat):Aar Apm:=fun R x K=>Agx N k x.1.2.2.2.1 x.1.2.2.2.2.1 x.2.2.2.1 x.2.2.2.2.1.1 x.2.2.2.2.1.2.2.2.1 x.2.2.2.2.2.1 x.2.2.2.2.2.2.1 (fun y0=>K (.exit 0) (Aab A3c (((),()),(y0,()))))
def Bl0(N k:Nat):Aar Apm:=Blz @Agx N k
def B0z:Aac:=⟨A2u,[]⟩
def Bdq:Aac:=⟨Cz3,B9q⟩
abbrev C5c(R:Type):=(List UInt8)->d5->d4->d1->Int->Int->(Int->d0->Option R)->Option R
abbrev Bda:={R:Type}→Nat→C5c R
def Bm9(Ajh:Awg)(Ak8:A16)(Ai8:Ayy)(Agx:Ba7):Bda:=fun {R} N d e a f g h b=>Ajh N d e a f g h fun c i=>if ((c != 0)=true) then (b c ([]:List Int)) else Ak8 N a i fun j l m n=>Ai8 N (Agx N N (len a) 0 ([]:List Int) j l m n fun o=>b 0 o)
def Aqi:Bda:=@Bm9 @Ajh @Ak8 @Ai8 @Agx
def Dlo(N:Nat):Aa0 B0z [Bdq]:=fun R x C=>Aqi N x.1.1.1 x.1.1.2.1 x.1.1.2.2.1 x.1.1.2.2.2.1 x.1.1.2.2.2.2.1 x.1.1.2.2.2.2.2.1 (fun y0 y1=>C.1 (((),y0,()),(y1,())))
def Chl(Aqi:Bda)(N:Nat):Go.AX.Aae:=Aa9 [true] [] false 1 0 B0z [Bdq] (fun R x C=>Aqi N x.1.1.1 x.1.1.2.1 x.1.1.2.2.1 x.1.1.2.2.2.1 x.1.1.2.2.2.2.1 x.1.1.2.2.2.2.2.1 (fun y0 y1=>C.1 (((),y0,()),(y1,()))))
def Chm(N:Nat):Go.AX.Aae:=Chl @Aqi N
def Dlp(N:Nat):List (Nat×Abu):=[(17,Aaa Apm (Bl0 N N))]
def C5d(N:Nat):List (Nat×Go.AX.Aae):=[(15,B1x N),(16,B9u N),(17,Byp N),(18,Ajg N)]
def Aew:Code:=Tryz.f7.body.getD .skip
def Am1:Code:=Tryz.f20.body.getD .skip
def Au7:Code:=Tryz.f10.body.getD .skip
def Arr:Code:=Tryz.f30.body.getD .skip
def Ala:Aac:=⟨[wq7,A10,Bt9],Axb⟩
def Av6:Aac:=⟨Det,[]⟩
def Boe:Ac8:=.cons (.exit 0) Av6 (.nil)
abbrev A9d(R:Type):=Int->Int->(List UInt8)->d5->d4->d1->Int->Int->(Int->Option R)->Option R
abbrev Bof(R:Type):=Int->Int->(List UInt8)->d5->d4->d1->Int->Int->Option R
abbrev Aze:={R:Type}→Nat→Nat→A9d R
def Azf{R:Type}(N:Nat)(rc:Bof R):A9d R:=fun c a d b e f g h j=>if ((decide (a<(len b)))=true) then (if (0≤a∧a<len b) then (let i:=(wi (c+(((List.length (b.getD a.toNat (([]:List UInt8),(false,([]:List Int)))).2.2):Nat):Int)));if (0≤a∧a<len b) then (if ((b.getD a.toNat (([]:List UInt8),(false,([]:List Int)))).2.1=true) then (if (0≤a∧a<len b) then (rc (wi (i+(wi (Int.tdiv (wi ((((List.length (b.getD a.toNat (([]:List UInt8),(false,([]:List Int)))).1):Nat):Int)+2)) 2)))) (wi (a+1)) d b e f g h) else none) else rc i (wi (a+1)) d b e f g h) else none) else none) else j c
def Ae1{R:Type}(N:Nat):Nat→A9d R
 |0=>fun _ _ _ _ _ _ _ _ _=>none
 |k+1=>fun a b c d e f g h i=>Azf N (fun a b c d e f g h=>Ae1 N k a b c d e f g h i) a b c d e f g h i
end
end Q

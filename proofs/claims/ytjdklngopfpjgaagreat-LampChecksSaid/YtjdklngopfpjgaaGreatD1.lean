/- Part D1 of the proof. -/
import Derived.Test.YtjdklngopfpjgaaGreatX7
import Derived.Test.YtjdklngopfpjgaaGreatProg
import Derived.KernelRfl
open Go Go.AX Go.Proofs
namespace Q
noncomputable section
set_option maxRecDepth 100000
set_option linter.unusedVariables false
abbrev z0 : Ty := .pair (.int .i64) (.int .i64)
abbrev z1 : Ty := .list z0
abbrev z2 : Ty := .pair (.int .i64) z0
abbrev z3 : Ty := .list (.pair .str (.pair .bool (.list (.int .i64))))
abbrev z4 : Ty := .list z2
abbrev z5 : Ty := .pair (.int .i64) z2
abbrev z6 : Ty := .list (.pair (.int .i64) z5)
abbrev d0 : Type := List (Int)
abbrev d1 : Type := List ((Int × Int))
abbrev d2 : Type := List ((Int × (Int × Int)))
abbrev d3 : Type := List ((List UInt8 × (Bool × d0)))
abbrev d4 : Type := List ((Int × (Int × (Int × (Int × Int)))))
def types : List Nat := [3, 4, 27, 9, 22, 59, 34, 23, 136, 24, 77, 25, 66, 0, 137, 141, 139, 177, 30, 5, 214, 178, 89, 110, 37, 101, 102, 103, 1, 104, 42, 105, 106, 211, 107, 108, 234, 93, 85, 92, 90, 156, 190, 124, 198, 2, 52, 151, 186, 74, 67, 72, 70, 69, 217, 218, 221, 64, 147, 241, 243, 264, 268, 245, 61, 149, 86, 43]
def tt : TT := [(3, (.mk (.int .i64) 1 8 (.some [(.a (.val (.int .i64) ((0 : Int) : Int)))]) false)), (4, (.mk .bool 1 1 (.some [(.a (.val .bool (false : Bool)))]) false)), (27, (.mk (.struct [(0, (1, 9)), (1, (1, 22)), (2, (1, 23)), (3, (1, 24)), (4, (1, 25))]) 5 112 (.some [(.a (.val .str (([] : List UInt8) : List UInt8))), (.a .nilsl), (.a .nilsl), (.a .nilsl), (.a .nilsl)]) true)), (9, (.mk .str 1 16 (.some [(.a (.val .str (([] : List UInt8) : List UInt8)))]) false)), (22, (.mk (.slice 59) 1 24 (.some [(.a .nilsl)]) false)), (59, (.mk (.struct [(0, (1, 9)), (1, (1, 4)), (2, (1, 34))]) 3 48 (.some [(.a (.val .str (([] : List UInt8) : List UInt8))), (.a (.val .bool (false : Bool))), (.a .nilsl)]) true)), (34, (.mk (.slice 3) 1 24 (.some [(.a .nilsl)]) false)), (23, (.mk (.slice 136) 1 24 (.some [(.a .nilsl)]) false)), (136, (.mk (.struct [(0, (1, 3)), (1, (1, 3))]) 2 16 (.some [(.a (.val (.int .i64) ((0 : Int) : Int))), (.a (.val (.int .i64) ((0 : Int) : Int)))]) true)), (24, (.mk (.slice 77) 1 24 (.some [(.a .nilsl)]) false)), (77, (.mk (.struct [(0, (1, 3)), (1, (1, 3)), (2, (1, 3))]) 3 24 (.some [(.a (.val (.int .i64) ((0 : Int) : Int))), (.a (.val (.int .i64) ((0 : Int) : Int))), (.a (.val (.int .i64) ((0 : Int) : Int)))]) true)), (25, (.mk (.slice 66) 1 24 (.some [(.a .nilsl)]) false)), (66, (.mk (.struct [(0, (1, 3)), (1, (1, 3)), (2, (1, 3)), (3, (1, 3)), (4, (1, 3))]) 5 40 (.some [(.a (.val (.int .i64) ((0 : Int) : Int))), (.a (.val (.int .i64) ((0 : Int) : Int))), (.a (.val (.int .i64) ((0 : Int) : Int))), (.a (.val (.int .i64) ((0 : Int) : Int))), (.a (.val (.int .i64) ((0 : Int) : Int)))]) true)), (0, (.mk .other 1 0 (.some [(.a .undef)]) false)), (137, (.mk (.slice 141) 1 24 (.some [(.a .nilsl)]) false)), (141, (.mk (.struct [(0, (1, 3)), (1, (1, 3)), (2, (1, 3))]) 3 24 (.some [(.a (.val (.int .i64) ((0 : Int) : Int))), (.a (.val (.int .i64) ((0 : Int) : Int))), (.a (.val (.int .i64) ((0 : Int) : Int)))]) true)), (139, (.mk (.struct [(0, (1, 9)), (1, (1, 22)), (2, (1, 137)), (3, (1, 23)), (4, (1, 3)), (5, (1, 3))]) 6 104 (.some [(.a (.val .str (([] : List UInt8) : List UInt8))), (.a .nilsl), (.a .nilsl), (.a .nilsl), (.a (.val (.int .i64) ((0 : Int) : Int))), (.a (.val (.int .i64) ((0 : Int) : Int)))]) true)), (177, (.mk (.struct [(0, (1, 34)), (1, (1, 34))]) 2 48 (.some [(.a .nilsl), (.a .nilsl)]) true)), (30, (.mk (.int .i64) 1 8 (.some [(.a (.val (.int .i64) ((0 : Int) : Int)))]) false)), (5, (.mk (.int .u8) 1 1 (.some [(.a (.val (.int .u8) ((0 : Int) : Int)))]) false)), (214, (.mk .other 1 0 (.some [(.a .undef)]) false)), (178, (.mk .other 1 0 (.some [(.a .undef)]) false)), (89, (.mk (.ptr 110) 1 8 (.some [(.a .nilptr)]) false)), (110, (.mk (.struct [(0, (2, 37)), (2, (1, 101)), (3, (1, 3)), (4, (1, 3)), (5, (1, 24)), (6, (1, 102)), (7, (1, 103)), (8, (1, 1)), (9, (1, 104)), (10, (1, 4)), (11, (5, 42)), (16, (1, 3)), (17, (1, 34)), (18, (1, 105)), (19, (1, 9)), (20, (1, 3)), (21, (1, 106)), (22, (1, 107)), (23, (1, 108)), (24, (1, 34))]) 25 296 (.some [(.a (.val (.int .i64) ((0 : Int) : Int))), (.a (.val .bool (false : Bool))), (.a .nilptr), (.a (.val (.int .i64) ((0 : Int) : Int))), (.a (.val (.int .i64) ((0 : Int) : Int))), (.a .nilsl), (.a .nilfn), (.a .nilfn), (.a .nilfn), (.a .nilsl), (.a (.val .bool (false : Bool))), (.a (.val .str (([] : List UInt8) : List UInt8))), (.a (.val (.int .i64) ((0 : Int) : Int))), (.a (.val (.int .i64) ((0 : Int) : Int))), (.a (.val (.int .i64) ((0 : Int) : Int))), (.a (.val (.int .i64) ((0 : Int) : Int))), (.a (.val (.int .i64) ((0 : Int) : Int))), (.a .nilsl), (.a .nilmap), (.a (.val .str (([] : List UInt8) : List UInt8))), (.a (.val (.int .i64) ((0 : Int) : Int))), (.a .nilptr), (.a .nilmap), (.a .nilsl), (.a .nilsl)]) true)), (37, (.mk (.struct [(0, (1, 3)), (1, (1, 4))]) 2 16 (.some [(.a (.val (.int .i64) ((0 : Int) : Int))), (.a (.val .bool (false : Bool)))]) true)), (101, (.mk (.ptr 233) 1 8 (.some [(.a .nilptr)]) false)), (102, (.mk .func 1 8 (.some [(.a .nilfn)]) false)), (103, (.mk .func 1 8 (.some [(.a .nilfn)]) false)), (1, (.mk .func 1 8 (.some [(.a .nilfn)]) false)), (104, (.mk (.slice 5) 1 24 (.some [(.a .nilsl)]) false)), (42, (.mk (.struct [(0, (1, 9)), (1, (1, 3)), (2, (1, 3)), (3, (1, 30)), (4, (1, 3))]) 5 48 (.some [(.a (.val .str (([] : List UInt8) : List UInt8))), (.a (.val (.int .i64) ((0 : Int) : Int))), (.a (.val (.int .i64) ((0 : Int) : Int))), (.a (.val (.int .i64) ((0 : Int) : Int))), (.a (.val (.int .i64) ((0 : Int) : Int)))]) true)), (105, (.mk (.map 3 3) 1 8 (.some [(.a .nilmap)]) false)), (106, (.mk (.ptr 211) 1 8 (.some [(.a .nilptr)]) false)), (211, (.mk (.struct [(0, (1, 3)), (1, (1, 3)), (2, (1, 3)), (3, (1, 4)), (4, (1, 4)), (5, (1, 3)), (6, (1, 3)), (7, (1, 3)), (8, (1, 106))]) 9 64 (.some [(.a (.val (.int .i64) ((0 : Int) : Int))), (.a (.val (.int .i64) ((0 : Int) : Int))), (.a (.val (.int .i64) ((0 : Int) : Int))), (.a (.val .bool (false : Bool))), (.a (.val .bool (false : Bool))), (.a (.val (.int .i64) ((0 : Int) : Int))), (.a (.val (.int .i64) ((0 : Int) : Int))), (.a (.val (.int .i64) ((0 : Int) : Int))), (.a .nilptr)]) true)), (107, (.mk (.map 3 106) 1 8 (.some [(.a .nilmap)]) false)), (108, (.mk (.slice 234) 1 24 (.some [(.a .nilsl)]) false)), (234, (.mk .func 1 8 (.some [(.a .nilfn)]) false)), (93, (.mk .func 1 8 (.some [(.a .nilfn)]) false)), (85, (.mk (.ptr 92) 1 8 (.some [(.a .nilptr)]) false)), (92, (.mk (.struct [(0, (1, 89)), (1, (1, 25)), (2, (1, 3)), (3, (1, 3)), (4, (1, 90))]) 5 56 (.some [(.a .nilptr), (.a .nilsl), (.a (.val (.int .i64) ((0 : Int) : Int))), (.a (.val (.int .i64) ((0 : Int) : Int))), (.a .nilmap)]) true)), (90, (.mk (.map 3 156) 1 8 (.some [(.a .nilmap)]) false)), (156, (.mk .func 1 8 (.some [(.a .nilfn)]) false)), (190, (.mk .func 1 8 (.some [(.a .nilfn)]) false)), (124, (.mk .func 1 8 (.some [(.a .nilfn)]) false)), (198, (.mk .other 1 0 (.some [(.a .undef)]) false)), (2, (.mk (.int .i64) 1 8 (.some [(.a (.val (.int .i64) ((0 : Int) : Int)))]) false)), (52, (.mk .other 1 0 (.some [(.a .undef)]) false)), (151, (.mk .func 1 8 (.some [(.a .nilfn)]) false)), (186, (.mk .other 1 0 (.some [(.a .undef)]) false)), (74, (.mk .func 1 8 (.some [(.a .nilfn)]) false)), (67, (.mk (.ptr 72) 1 8 (.some [(.a .nilptr)]) false)), (72, (.mk (.struct [(0, (5, 27)), (5, (1, 70))]) 6 120 (.some [(.a (.val .str (([] : List UInt8) : List UInt8))), (.a .nilsl), (.a .nilsl), (.a .nilsl), (.a .nilsl), (.a .nilmap)]) true)), (70, (.mk (.map 3 69) 1 8 (.some [(.a .nilmap)]) false)), (69, (.mk .func 1 8 (.some [(.a .nilfn)]) false)), (217, (.mk (.struct [(0, (1, 9)), (1, (1, 3)), (2, (1, 3)), (3, (1, 3))]) 4 40 (.some [(.a (.val .str (([] : List UInt8) : List UInt8))), (.a (.val (.int .i64) ((0 : Int) : Int))), (.a (.val (.int .i64) ((0 : Int) : Int))), (.a (.val (.int .i64) ((0 : Int) : Int)))]) true)), (218, (.mk (.arr 31 217) 124 1240 (.some [(.a (.val .str (([] : List UInt8) : List UInt8))), (.a (.val (.int .i64) ((0 : Int) : Int))), (.a (.val (.int .i64) ((0 : Int) : Int))), (.a (.val (.int .i64) ((0 : Int) : Int))), (.a (.val .str (([] : List UInt8) : List UInt8))), (.a (.val (.int .i64) ((0 : Int) : Int))), (.a (.val (.int .i64) ((0 : Int) : Int))), (.a (.val (.int .i64) ((0 : Int) : Int))), (.a (.val .str (([] : List UInt8) : List UInt8))), (.a (.val (.int .i64) ((0 : Int) : Int))), (.a (.val (.int .i64) ((0 : Int) : Int))), (.a (.val (.int .i64) ((0 : Int) : Int))), (.a (.val .str (([] : List UInt8) : List UInt8))), (.a (.val (.int .i64) ((0 : Int) : Int))), (.a (.val (.int .i64) ((0 : Int) : Int))), (.a (.val (.int .i64) ((0 : Int) : Int))), (.a (.val .str (([] : List UInt8) : List UInt8))), (.a (.val (.int .i64) ((0 : Int) : Int))), (.a (.val (.int .i64) ((0 : Int) : Int))), (.a (.val (.int .i64) ((0 : Int) : Int))), (.a (.val .str (([] : List UInt8) : List UInt8))), (.a (.val (.int .i64) ((0 : Int) : Int))), (.a (.val (.int .i64) ((0 : Int) : Int))), (.a (.val (.int .i64) ((0 : Int) : Int))), (.a (.val .str (([] : List UInt8) : List UInt8))), (.a (.val (.int .i64) ((0 : Int) : Int))), (.a (.val (.int .i64) ((0 : Int) : Int))), (.a (.val (.int .i64) ((0 : Int) : Int))), (.a (.val .str (([] : List UInt8) : List UInt8))), (.a (.val (.int .i64) ((0 : Int) : Int))), (.a (.val (.int .i64) ((0 : Int) : Int))), (.a (.val (.int .i64) ((0 : Int) : Int))), (.a (.val .str (([] : List UInt8) : List UInt8))), (.a (.val (.int .i64) ((0 : Int) : Int))), (.a (.val (.int .i64) ((0 : Int) : Int))), (.a (.val (.int .i64) ((0 : Int) : Int))), (.a (.val .str (([] : List UInt8) : List UInt8))), (.a (.val (.int .i64) ((0 : Int) : Int))), (.a (.val (.int .i64) ((0 : Int) : Int))), (.a (.val (.int .i64) ((0 : Int) : Int))), (.a (.val .str (([] : List UInt8) : List UInt8))), (.a (.val (.int .i64) ((0 : Int) : Int))), (.a (.val (.int .i64) ((0 : Int) : Int))), (.a (.val (.int .i64) ((0 : Int) : Int))), (.a (.val .str (([] : List UInt8) : List UInt8))), (.a (.val (.int .i64) ((0 : Int) : Int))), (.a (.val (.int .i64) ((0 : Int) : Int))), (.a (.val (.int .i64) ((0 : Int) : Int))), (.a (.val .str (([] : List UInt8) : List UInt8))), (.a (.val (.int .i64) ((0 : Int) : Int))), (.a (.val (.int .i64) ((0 : Int) : Int))), (.a (.val (.int .i64) ((0 : Int) : Int))), (.a (.val .str (([] : List UInt8) : List UInt8))), (.a (.val (.int .i64) ((0 : Int) : Int))), (.a (.val (.int .i64) ((0 : Int) : Int))), (.a (.val (.int .i64) ((0 : Int) : Int))), (.a (.val .str (([] : List UInt8) : List UInt8))), (.a (.val (.int .i64) ((0 : Int) : Int))), (.a (.val (.int .i64) ((0 : Int) : Int))), (.a (.val (.int .i64) ((0 : Int) : Int))), (.a (.val .str (([] : List UInt8) : List UInt8))), (.a (.val (.int .i64) ((0 : Int) : Int))), (.a (.val (.int .i64) ((0 : Int) : Int))), (.a (.val (.int .i64) ((0 : Int) : Int))), (.a (.val .str (([] : List UInt8) : List UInt8))), (.a (.val (.int .i64) ((0 : Int) : Int))), (.a (.val (.int .i64) ((0 : Int) : Int))), (.a (.val (.int .i64) ((0 : Int) : Int))), (.a (.val .str (([] : List UInt8) : List UInt8))), (.a (.val (.int .i64) ((0 : Int) : Int))), (.a (.val (.int .i64) ((0 : Int) : Int))), (.a (.val (.int .i64) ((0 : Int) : Int))), (.a (.val .str (([] : List UInt8) : List UInt8))), (.a (.val (.int .i64) ((0 : Int) : Int))), (.a (.val (.int .i64) ((0 : Int) : Int))), (.a (.val (.int .i64) ((0 : Int) : Int))), (.a (.val .str (([] : List UInt8) : List UInt8))), (.a (.val (.int .i64) ((0 : Int) : Int))), (.a (.val (.int .i64) ((0 : Int) : Int))), (.a (.val (.int .i64) ((0 : Int) : Int))), (.a (.val .str (([] : List UInt8) : List UInt8))), (.a (.val (.int .i64) ((0 : Int) : Int))), (.a (.val (.int .i64) ((0 : Int) : Int))), (.a (.val (.int .i64) ((0 : Int) : Int))), (.a (.val .str (([] : List UInt8) : List UInt8))), (.a (.val (.int .i64) ((0 : Int) : Int))), (.a (.val (.int .i64) ((0 : Int) : Int))), (.a (.val (.int .i64) ((0 : Int) : Int))), (.a (.val .str (([] : List UInt8) : List UInt8))), (.a (.val (.int .i64) ((0 : Int) : Int))), (.a (.val (.int .i64) ((0 : Int) : Int))), (.a (.val (.int .i64) ((0 : Int) : Int))), (.a (.val .str (([] : List UInt8) : List UInt8))), (.a (.val (.int .i64) ((0 : Int) : Int))), (.a (.val (.int .i64) ((0 : Int) : Int))), (.a (.val (.int .i64) ((0 : Int) : Int))), (.a (.val .str (([] : List UInt8) : List UInt8))), (.a (.val (.int .i64) ((0 : Int) : Int))), (.a (.val (.int .i64) ((0 : Int) : Int))), (.a (.val (.int .i64) ((0 : Int) : Int))), (.a (.val .str (([] : List UInt8) : List UInt8))), (.a (.val (.int .i64) ((0 : Int) : Int))), (.a (.val (.int .i64) ((0 : Int) : Int))), (.a (.val (.int .i64) ((0 : Int) : Int))), (.a (.val .str (([] : List UInt8) : List UInt8))), (.a (.val (.int .i64) ((0 : Int) : Int))), (.a (.val (.int .i64) ((0 : Int) : Int))), (.a (.val (.int .i64) ((0 : Int) : Int))), (.a (.val .str (([] : List UInt8) : List UInt8))), (.a (.val (.int .i64) ((0 : Int) : Int))), (.a (.val (.int .i64) ((0 : Int) : Int))), (.a (.val (.int .i64) ((0 : Int) : Int))), (.a (.val .str (([] : List UInt8) : List UInt8))), (.a (.val (.int .i64) ((0 : Int) : Int))), (.a (.val (.int .i64) ((0 : Int) : Int))), (.a (.val (.int .i64) ((0 : Int) : Int))), (.a (.val .str (([] : List UInt8) : List UInt8))), (.a (.val (.int .i64) ((0 : Int) : Int))), (.a (.val (.int .i64) ((0 : Int) : Int))), (.a (.val (.int .i64) ((0 : Int) : Int))), (.a (.val .str (([] : List UInt8) : List UInt8))), (.a (.val (.int .i64) ((0 : Int) : Int))), (.a (.val (.int .i64) ((0 : Int) : Int))), (.a (.val (.int .i64) ((0 : Int) : Int)))]) false)), (221, (.mk .other 1 0 (.some [(.a .undef)]) false)), (64, (.mk .func 1 8 (.some [(.a .nilfn)]) false)), (147, (.mk (.map 3 4) 1 8 (.some [(.a .nilmap)]) false)), (241, (.mk (.ptr 243) 1 8 (.some [(.a .nilptr)]) false)), (243, (.mk (.struct [(0, (1, 241)), (1, (1, 104))]) 2 32 (.some [(.a .nilptr), (.a .nilsl)]) true)), (264, (.mk (.ptr 5) 1 8 (.some [(.a .nilptr)]) false)), (268, (.mk .other 1 8 (.some [(.a .nilptr)]) false)), (245, (.mk .iface 1 16 (.some [(.a .nilif)]) false)), (61, (.mk .other 1 0 (.some [(.a .undef)]) false)), (149, (.mk .other 1 0 (.some [(.a .undef)]) false)), (86, (.mk .other 1 0 (.some [(.a .undef)]) false)), (43, (.mk .other 1 0 (.some [(.a .undef)]) false))]
abbrev nK (R : Type) : ASt → (Ex → ASt → Option R) → Option R := fun _ _ => none
abbrev wq0 : Alb := (.val (.int .i64))
abbrev wq1 : Nat × Aci := (0, .one (.ptr 0))
abbrev wq2 : Nat × Aci := (1, .one (.ptr 0))
abbrev wq3 : Nat × Aci := (3, .one (.fn 44))
abbrev wq4 : Nat × Aci := (1, .one (.ptr 32))
abbrev wq5 : Nat × Aci := (3, .one (.ptr 32))
abbrev wq6 : Nat × Aci := (4, .one (.ptr 32))
abbrev wq7 : Nat × Aci := (0, .one (.val z4))
abbrev wq8 : Nat × Aci := (6, .one (.ptr 33))
abbrev wq9 : Nat × Aci := (0, .one (.val z6))
abbrev Bha : Nat × Aci := (3, .one (.ptr 33))
abbrev A0p : Nat × Aci := (2, .one (.ptr 32))
abbrev B87 : Nat × Aci := (2, .one (.ptr 33))
abbrev B88 : Nat × Aci := (4, .one (.ptr 34))
abbrev Cn2 : List Alb := [(.ptr 0), (.slf 1)]
abbrev Chv : Nat × Aci := (80, .one (.val z4))
abbrev Bn0 : Nat × Aci := (0, .one (.val .str))
abbrev B89 : List (Nat × Aci) := [wq4]
abbrev Bs6 : List (Nat × Aci) := [wq5]
abbrev Cmd : Nat × Aci := (0, .one (.val .bool))
abbrev Cme : Nat × Aen := (1, .row 5 (.int .u8))
abbrev Cdj : Nat × Aci := (7, .one (.val .bool))
abbrev Chw : Nat × Aci := (6, .one (.val .bool))
abbrev Cmf : Nat × Aci := (2, .one (.val .bool))
abbrev B9a : Nat × Aci := (4, .one (.val .bool))
abbrev Chx : Nat × Aci := (5, .one (.val .bool))
abbrev Chy : Nat × Aci := (3, .one (.val .bool))
abbrev Cmg : Nat × Aci := (8, .one (.val .bool))
abbrev Cn3 : List Alb := [(.slf 35), (.slf 36)]
abbrev Cn4 : List Alb := [(.slf 37), (.slf 38)]
abbrev Cn5 : List Alb := [(.slf 33), (.slf 34)]
abbrev Cdk : Nat × Aci := (1, .one (.fnp 39 [0]))
abbrev Cdl : Nat × Aci := (2, .one (.fnp 41 [0]))
abbrev Ahl : List (Nat × Aci) := [Cmd]
abbrev Cdm : List (Nat × Aci) := [Chw]
abbrev Azf : List (Nat × Aci) := [Cmf]
abbrev Bzw : Nat × Aen := (33, .row 3 (.int .i64))
abbrev Cdn : Nat × Aen := (34, .row 3 (.int .i64))
abbrev Cmh : Nat × Aen := (32, .row 3 (.int .i64))
abbrev A5j : List (Nat × Aci) := [B9a]
abbrev Bn1 : List (Nat × Aci) := [Cmg]
abbrev Cmi : Nat × Aen := (35, .row 3 (.int .i64))
abbrev Cmj : Nat × Aen := (36, .row 3 (.int .i64))
abbrev Cmk : Nat × Aen := (37, .row 3 (.int .i64))
abbrev Cn6 : Nat × Aen := (38, .row 3 (.int .i64))
abbrev Cn7 : Nat × Aen := (2, .cells 67 [(.ptr 0)])
abbrev Cn8 : Nat × Aen := (0, .cells 67 [(.ptr 1)])
abbrev Bzx : Alb := (.val (.list (.int .i64)))
abbrev Azg : Nat × Aci := (3, .one wq0)
abbrev Azh : Nat × Aci := (4, .one wq0)
abbrev Alz : Nat × Aci := (1, .one wq0)
abbrev Cdo : Nat × Aci := (0, .one wq0)
abbrev A20 : Nat × Aci := (2, .one wq0)
abbrev A8s : Nat × Aci := (5, .one wq0)
abbrev A8t : Nat × Aci := (6, .one wq0)
abbrev B9b : Nat × Aci := (9, .one wq0)
abbrev Bkn : Nat × Aci := (7, .one wq0)
abbrev B9c : Nat × Aci := (8, .one wq0)
abbrev B9d : Nat × Aci := (10, .one wq0)
abbrev Cdp : Nat × Aci := (11, .one wq0)
abbrev Cdq : Nat × Aci := (13, .one wq0)
abbrev Chz : Nat × Aci := (81, .one wq0)
abbrev Ch0 : Nat × Aci := (82, .one wq0)
abbrev Cdr : Nat × Aci := (40, .one wq0)
abbrev Ch1 : Nat × Aci := (24, .one wq0)
abbrev Ch2 : List (Nat × Aci) := [Azg]
abbrev Azi : List (Nat × Aci) := [Cdo]
abbrev Cds : List (Nat × Aci) := [Azh]
abbrev A8u : List (Nat × Aci) := [A20]
abbrev Cdt : List (Nat × Aci) := [Alz]
abbrev Cn9 : Nat × Aen := (3, .cells 69 [(.fnp 79 [2])])
abbrev Coa : Nat × Aen := (3, .cells 69 [(.fnp 79 [0])])
abbrev Cob : Nat × Aen := (0, .cells 243 Cn2)
abbrev Ch3 : Nat × Aci := (0, .one Bzx)
abbrev Coc : Nat × Aen := (33, .cells 177 Cn3)
abbrev Cod : Nat × Aen := (34, .cells 177 Cn4)
abbrev Cof : Nat × Aen := (32, .cells 177 Cn5)
abbrev Cdu : List (Nat × Aci) := [A0p, Bha]
abbrev Ch4 : List (Nat × Aci) := [A0p, Chy]
abbrev Ch5 : List (Nat × Aci) := [wq7, Azg]
abbrev Bzy : List (Nat × Aci) := [wq7, Alz]
abbrev Ch6 : List (Nat × Aci) := [wq4, Azg]
abbrev B9e : List (Nat × Aen) := [Cmh, Bzw]
abbrev Ch7 : List Alb := [(.val .str), (.val z3), (.val z1), (.val z4), (.val z6)]
abbrev B9f : List Alb := [wq0, wq0, wq0]
abbrev Ch8 : List (Nat × Aen) := [Cob, Cme]
abbrev Cog : List Alb := [(.val .str), (.val z3), (.val z1), (.val z4), (.val z6), (.mp 1)]
abbrev Coh : List Alb := [(.val .str), (.val z3), (.val z1), (.val z4), (.val z6), (.mp 2)]
abbrev Bzz : Nat × Aci := (0, .agg Ch7)
abbrev B9g : List (Nat × Aci) := [Bzz]
abbrev Bz0 : Nat × Aci := (0, .agg B9f)
abbrev Cdv : Nat × Aen := (0, .cells 27 Ch7)
abbrev Cdw : List (Nat × Aci) := [Bz0]
abbrev Bs7 : Nat × Aen := (32, .cells 27 Ch7)
abbrev Ch9 : List Alb := [(.val .str), wq0, wq0, wq0]
abbrev Bn2 : List (Nat × Aen) := [Cdv]
abbrev A8v : List (Nat × Aen) := [Bs7]
abbrev Cia : Nat × Aen := (32, .cells 141 B9f)
abbrev Coi : Nat × Aen := (33, .cells 141 B9f)
abbrev A8w : List (Nat × Aen) := [Cia]
abbrev Cnn : Nat × Aen := (0, .cells 72 Cog)
abbrev Cno : Nat × Aen := (1, .cells 72 Coh)
abbrev Cdx : Nat × Aci := (2, .agg Ch9)
abbrev Cnp : List Alb := [(.val .str), (.val z3), (.slf 34), (.val z1), wq0, wq0]
abbrev B7b : List Alb := [(.val .str), (.val z3), (.val z4), (.val z1), wq0, wq0]
abbrev Cdy : List (Nat × Aci) := [Cdo, Alz, A20]
abbrev Cnq : Nat × Aen := (33, .cells 217 Ch9)
abbrev Cdz : List (Nat × Aen) := [Cof, Bzw, Cdn]
abbrev Cd0 : Nat × Aci := (0, .agg B7b)
abbrev A21 : List (Nat × Aci) := [Cd0]
abbrev B7c : List Alb := [wq0, wq0, wq0, wq0, wq0]
abbrev Cd1 : Nat × Aen := (33, .cells 139 Cnp)
abbrev A22 : Nat × Aen := (32, .cells 139 B7b)
abbrev Arj : List (Nat × Aen) := [A22]
abbrev Cit : Nat × Aci := (0, .agg B7c)
abbrev Cd2 : List (Nat × Aci) := [Cit]
abbrev Cnr : Nat × Aen := (33, .cells 66 B7c)
abbrev Cd3 : List (Nat × Aci) := [wq4, B87, B88, A8t, Bkn]
abbrev Bw2 : List (Nat × Aci) := [Cit, wq2]
abbrev Cd4 : List (Nat × Aci) := [wq4, Azg, Azh, A8s, A8t]
abbrev Cd5 : List (Nat × Aen) := [Cia, Cnq]
abbrev Bqf : List (Nat × Aen) := [A22, Coi]
abbrev Bfn : List (Nat × Aen) := [Bs7, Cnr]
abbrev Bko : List (Nat × Aen) := [A22, Coc, Cod, Cmi, Cmj, Cmk, Cn6]
abbrev B7d : List (Nat × Aen) := [Cnn, (1, .fmap 70 .i64 [(3 : Int), (4 : Int), (5 : Int), (13 : Int), (38 : Int), (39 : Int), (1 : Int), (6 : Int), (7 : Int), (8 : Int), (21 : Int), (22 : Int), (23 : Int), (24 : Int), (25 : Int), (26 : Int), (27 : Int), (28 : Int), (29 : Int), (30 : Int), (31 : Int), (32 : Int), (33 : Int), (34 : Int), (35 : Int), (36 : Int), (37 : Int), (9 : Int), (10 : Int), (11 : Int), (2 : Int), (12 : Int), (14 : Int), (15 : Int)] [(.fn 78), (.fn 78), (.fn 78), (.fn 78), (.fn 78), (.fn 78), (.fnp 79 [2]), (.fnp 79 [2]), (.fnp 79 [2]), (.fnp 79 [2]), (.fnp 79 [2]), (.fnp 79 [2]), (.fnp 79 [2]), (.fnp 79 [2]), (.fnp 79 [2]), (.fnp 79 [2]), (.fnp 79 [2]), (.fnp 79 [2]), (.fnp 79 [2]), (.fnp 79 [2]), (.fnp 79 [2]), (.fnp 79 [2]), (.fnp 79 [2]), (.fnp 79 [2]), (.fnp 79 [2]), (.fnp 79 [2]), (.fnp 79 [2]), (.fnp 81 [2]), (.fnp 81 [2]), (.fnp 81 [2]), (.fnp 83 [3]), (.fn 84), (.fnp 85 [2]), (.fnp 86 [2])]), Cn7, Cn9]
abbrev Bfo : List (Nat × Aen) := [Cn8, Cno, (2, .fmap 70 .i64 [(3 : Int), (4 : Int), (5 : Int), (13 : Int), (38 : Int), (39 : Int), (1 : Int), (6 : Int), (7 : Int), (8 : Int), (21 : Int), (22 : Int), (23 : Int), (24 : Int), (25 : Int), (26 : Int), (27 : Int), (28 : Int), (29 : Int), (30 : Int), (31 : Int), (32 : Int), (33 : Int), (34 : Int), (35 : Int), (36 : Int), (37 : Int), (9 : Int), (10 : Int), (11 : Int), (2 : Int), (12 : Int), (14 : Int), (15 : Int)] [(.fn 78), (.fn 78), (.fn 78), (.fn 78), (.fn 78), (.fn 78), (.fnp 79 [0]), (.fnp 79 [0]), (.fnp 79 [0]), (.fnp 79 [0]), (.fnp 79 [0]), (.fnp 79 [0]), (.fnp 79 [0]), (.fnp 79 [0]), (.fnp 79 [0]), (.fnp 79 [0]), (.fnp 79 [0]), (.fnp 79 [0]), (.fnp 79 [0]), (.fnp 79 [0]), (.fnp 79 [0]), (.fnp 79 [0]), (.fnp 79 [0]), (.fnp 79 [0]), (.fnp 79 [0]), (.fnp 79 [0]), (.fnp 79 [0]), (.fnp 81 [0]), (.fnp 81 [0]), (.fnp 81 [0]), (.fnp 83 [3]), (.fn 84), (.fnp 85 [0]), (.fnp 86 [0])]), Coa]
def A7f : Code := Tryz.f3.body.getD .skip
def Ank : Code := Tryz.f12.body.getD .skip
def Ah2 : Aac := ⟨[wq4, Azg, Azh], A8v⟩
def Apz : Aac := ⟨Ch2, []⟩
def Bck : Ac7 := .cons (.exit 0) Apz (.nil)
abbrev A0q (R : Type) := Int->Int->(List UInt8)->d3->d1->d2->d4->(Int->Option R)->Option R
abbrev Bcl (R : Type) := Int->Int->(List UInt8)->d3->d1->d2->d4->Option R
abbrev As5 := {R : Type} → Nat → Nat → A0q R
def As6 {R : Type} (N : Nat) (rc : Bcl R) : A0q R := fun c a d b e f g h => if ((decide (a < (len b))) = true) then (if (0 ≤ a ∧ a < len b) then (if (0 ≤ a ∧ a < len b) then (rc (wi (c + (wi ((((List.length (b.getD a.toNat (([] : List UInt8), (false, ([] : List Int)))).2.2) : Nat) : Int) + (((List.length (b.getD a.toNat (([] : List UInt8), (false, ([] : List Int)))).1) : Nat) : Int))))) (wi (a + 1)) d b e f g) else none) else none) else h c
def Adz {R : Type} (N : Nat) : Nat → A0q R
 | 0 => fun _ _ _ _ _ _ _ _ => none
 | k + 1 => fun a b c d e f g h => As6 N (fun a b c d e f g => Adz N k a b c d e f g h) a b c d e f g h
def A0r (Adz : As5) (N k : Nat) : Aar Ah2 := fun R x K => Adz N k x.1.2.1 x.1.2.2.1 x.2.1.1 x.2.1.2.1 x.2.1.2.2.1 x.2.1.2.2.2.1 x.2.1.2.2.2.2.1 (fun y0 => K (.exit 0) (Aab Apz ((y0, ()), (()))))
def A0s (N k : Nat) : Aar Ah2 := A0r @Adz N k
def A8x : Aac := ⟨B9g, []⟩
def Avp : Aac := ⟨Ahl, []⟩
abbrev B4f (R : Type) := (List UInt8)->d3->d1->d2->d4->(Bool->Option R)->Option R
abbrev Aup := {R : Type} → Nat → B4f R
def A8y (Adz : As5) : Aup := fun {R} N b c d e f a => if ((decide ((len f) > 33000)) = true) then (a true) else if ((decide ((len e) > 300)) = true) then (a true) else if ((decide ((len c) > 2100)) = true) then (a true) else if ((decide ((len d) > 300)) = true) then (a true) else if ((decide ((len b) > 1000)) = true) then (a true) else Adz N N 0 0 b c d e f fun g => a (decide (g > 20000))
def Ait : Aup := @A8y @Adz
def Ckn (N : Nat) : Abv A8x [Avp] := fun R x C => Ait N x.1.1.1 x.1.1.2.1 x.1.1.2.2.1 x.1.1.2.2.2.1 x.1.1.2.2.2.2.1 (fun y0 => C.1 ((y0, ()), (())))
def Bk2 (Ait : Aup) (N : Nat) : Go.AX.Aaj := Acw [true] [] false 1 0 A8x [Avp] (fun R x C => Ait N x.1.1.1 x.1.1.2.1 x.1.1.2.2.1 x.1.1.2.2.2.1 x.1.1.2.2.2.2.1 (fun y0 => C.1 ((y0, ()), (()))))
def Bk3 (N : Nat) : Go.AX.Aaj := Bk2 @Ait N
def Cko (N : Nat) : List (Nat × Acs) := [(11, Aaa Ah2 (A0s N N))]
def B4g (N : Nat) : List (Nat × Go.AX.Aaj) := []
def A8z (N : Nat) : Go.AX.Aaj := Bj9
def Aor : Code := Tryz.f14.body.getD .skip
def Aim : Code := Tryz.f38.body.getD .skip
def Ahw : Aac := ⟨[Cdk, Cdl, wq5, (8, .one (.ptr 33)), (34, .one wq0), (35, .one wq0)], [Cdv, Bs7, Cd1, (34, .row 141 z2)]⟩
def Ark : Aac := ⟨[Cdk, Cdl, wq5, (8, .one (.ptr 33))], [Cdv, Bs7, Cd1, (34, .row 141 z2)]⟩
def Bfp : Ac7 := .cons (.exit 0) Ark (.nil)
abbrev A23 (R : Type) := Int->Int->(List UInt8)->d3->d1->d2->d4->(List UInt8)->d3->d1->d2->d4->(List UInt8)->d3->d1->Int->Int->d2->((List UInt8)->d3->d1->d2->d4->(List UInt8)->d3->d1->d2->d4->(List UInt8)->d3->d1->Int->Int->d2->Option R)->Option R
abbrev Bfq (R : Type) := Int->Int->(List UInt8)->d3->d1->d2->d4->(List UInt8)->d3->d1->d2->d4->(List UInt8)->d3->d1->Int->Int->d2->Option R
abbrev Ap0 := {R : Type} → Nat → Nat → A23 R
def Avq {R : Type} (N : Nat) (rc : Bfq R) : A23 R := fun c d e f g h i j l m n o p q r s t a u => if ((decide (d < c)) = true) then (let b := (wi (d + 1)); if ((((List.length a) + (List.length ((24, (b, 0)) :: [(26, (0, 0))]))) * (24 : Nat)) ≤ (70368744177664 : Nat)) then (rc c b e f g h i j l m n o p q r s t (a ++ ((24, (b, 0)) :: [(26, (0, 0))]))) else none) else u e f g h i j l m n o p q r s t a
def Adi {R : Type} (N : Nat) : Nat → A23 R
 | 0 => fun _ _ _ _ _ _ _ _ _ _ _ _ _ _ _ _ _ _ _ => none
 | k + 1 => fun a b c d e f g h i j l m n o p q r s t => Avq N (fun a b c d e f g h i j l m n o p q r s => Adi N k a b c d e f g h i j l m n o p q r s t) a b c d e f g h i j l m n o p q r s t
def Avr (Adi : Ap0) (N k : Nat) : Aar Ahw := fun R x K => Adi N k x.1.2.2.2.2.1 x.1.2.2.2.2.2.1 x.2.1.1 x.2.1.2.1 x.2.1.2.2.1 x.2.1.2.2.2.1 x.2.1.2.2.2.2.1 x.2.2.1.1 x.2.2.1.2.1 x.2.2.1.2.2.1 x.2.2.1.2.2.2.1 x.2.2.1.2.2.2.2.1 x.2.2.2.1.1 x.2.2.2.1.2.1 x.2.2.2.1.2.2.2.1 x.2.2.2.1.2.2.2.2.1 x.2.2.2.1.2.2.2.2.2.1 x.2.2.2.2.1 (fun y0 y1 y2 y3 y4 y5 y6 y7 y8 y9 y10 y11 y12 y13 y14 y15 => K (.exit 0) (Aab Ark (((), (), (), (), ()), ((y0, y1, y2, y3, y4, ()), (y5, y6, y7, y8, y9, ()), (y10, y11, (), y12, y13, y14, ()), y15, ()))))
def A24 (N k : Nat) : Aar Ahw := Avr @Adi N k
def Bk4 : Code := Tryz.f77.body.getD .skip
def Anl : Code := Tryz.f132.body.getD .skip
def Ah3 : Aac := ⟨[Azg, (27, .one (.val z3)), (28, .one wq0), (29, .one wq0)], []⟩
def Ap1 : Aac := ⟨Ch2, []⟩
def Bcm : Ac7 := .cons (.exit 0) Ap1 (.nil)
abbrev A0t (R : Type) := Int->d3->Int->Int->(Int->Option R)->Option R
abbrev Bcn (R : Type) := Int->d3->Int->Int->Option R
abbrev As7 := {R : Type} → Nat → Nat → A0t R
def As8 {R : Type} (N : Nat) (rc : Bcn R) : A0t R := fun d b c a f => if ((decide (a < c)) = true) then (if (0 ≤ a ∧ a < len b) then (let e := (wi (d + (((List.length (b.getD a.toNat (([] : List UInt8), (false, ([] : List Int)))).2.2) : Nat) : Int))); if ((b.getD a.toNat (([] : List UInt8), (false, ([] : List Int)))).2.1 = true) then (rc (wi (e + (wi (Int.tdiv (wi ((((List.length (b.getD a.toNat (([] : List UInt8), (false, ([] : List Int)))).1) : Nat) : Int) + 2)) 2)))) b c (wi (a + 1))) else rc e b c (wi (a + 1))) else none) else f d
def Ad0 {R : Type} (N : Nat) : Nat → A0t R
 | 0 => fun _ _ _ _ _ => none
 | k + 1 => fun a b c d e => As8 N (fun a b c d => Ad0 N k a b c d e) a b c d e
def A0u (Ad0 : As7) (N k : Nat) : Aar Ah3 := fun R x K => Ad0 N k x.1.1 x.1.2.1 x.1.2.2.1 x.1.2.2.2.1 (fun y0 => K (.exit 0) (Aab Ap1 ((y0, ()), (()))))
def A0v (N k : Nat) : Aar Ah3 := A0u @Ad0 N k
def A80 : Aac := ⟨A21, []⟩
def Avs : Aac := ⟨Ahl, []⟩
abbrev B4h (R : Type) := (List UInt8)->d3->d2->d1->Int->Int->(Bool->Option R)->Option R
abbrev Auq := {R : Type} → Nat → B4h R
def A81 (Ad0 : As7) : Auq := fun {R} N g b c h d e a => if ((decide ((len c) > 40000)) = true) then (a true) else if ((decide ((len b) > 2000)) = true) then (a true) else if ((decide (d > 200)) = true) then (a true) else if ((decide (e > 20000)) = true) then (a true) else Ad0 N N 0 b (len b) 0 fun f => a (decide (f > 7800))
def Aiu : Auq := @A81 @Ad0
def Ckp (N : Nat) : Abv A80 [Avs] := fun R x C => Aiu N x.1.1.1 x.1.1.2.1 x.1.1.2.2.1 x.1.1.2.2.2.1 x.1.1.2.2.2.2.1 x.1.1.2.2.2.2.2.1 (fun y0 => C.1 ((y0, ()), (())))
def Bk5 (Aiu : Auq) (N : Nat) : Go.AX.Aaj := Acw [true] [] false 1 0 A80 [Avs] (fun R x C => Aiu N x.1.1.1 x.1.1.2.1 x.1.1.2.2.1 x.1.1.2.2.2.1 x.1.1.2.2.2.2.1 x.1.1.2.2.2.2.2.1 (fun y0 => C.1 ((y0, ()), (()))))
def Bk6 (N : Nat) : Go.AX.Aaj := Bk5 @Aiu N
def Ckq (N : Nat) : List (Nat × Acs) := [(11, Aaa Ah3 (A0v N N))]
def B4i (N : Nat) : List (Nat × Go.AX.Aaj) := []
def Afs : Code := Tryz.f133.body.getD .skip
def Arf : Code := Tryz.f196.body.getD .skip
def Akf : Code := Tryz.f273.body.getD .skip
def Am0 (N : Nat) : Go.AX.Aaj := A8r 243 5
def Agt : Aac := ⟨[wq1, (1, .one (.val (.int .u8)))], [(0, .cells 243 [(.same .nilptr), (.slf 1)]), Cme]⟩
def Ai9 : Aac := ⟨[(0, .one (.same .nilif))], Ch8⟩
abbrev A7g (R : Type) := Int->d0->(d0->Option R)->Option R
abbrev Ah0 := {R : Type} → Nat → A7g R
def Abk : Ah0 := fun {R} N a b c => if ((((List.length b) + (List.length (a :: ([] : List Int)))) * (1 : Nat)) ≤ (70368744177664 : Nat)) then (c (b ++ (a :: ([] : List Int)))) else none
def A7h (N : Nat) : Abv Agt [Ai9] := fun R x C => Abk N x.1.2.1 x.2.2.1 (fun y0 => C.1 (((), ()), (((), (), ()), y0, ())))
def Am1 (Abk : Ah0) (N : Nat) : Go.AX.Aaj := Acw [false, true] (List.replicate 32 true) true 2 2 Agt [Ai9] (fun R x C => Abk N x.1.2.1 x.2.2.1 (fun y0 => C.1 (((), ()), (((), (), ()), y0, ()))))
def Asy (N : Nat) : Go.AX.Aaj := Am1 @Abk N
def A7i (N : Nat) : List (Nat × Acs) := []
def Asz (N : Nat) : List (Nat × Go.AX.Aaj) := [(300, Am0 N)]
def Apb (N : Nat) : Go.AX.Aaj := A8q
def Alg : Aac := ⟨[wq1, (1, .one (.val (.int .u8)))], Ch8⟩
def Ah4 : Aac := ⟨[(0, .one (.same .nilif))], Ch8⟩
abbrev A25 (R : Type) := Int->d0->(d0->Option R)->Option R
abbrev Afo := {R : Type} → Nat → A25 R
def Aau : Afo := fun {R} N a b c => if ((((List.length b) + (List.length (a :: ([] : List Int)))) * (1 : Nat)) ≤ (70368744177664 : Nat)) then (c (b ++ (a :: ([] : List Int)))) else none
def A26 (N : Nat) : Abv Alg [Ah4] := fun R x C => Aau N x.1.2.1 x.2.2.1 (fun y0 => C.1 (((), ()), (((), (), ()), y0, ())))
def Alh (Aau : Afo) (N : Nat) : Go.AX.Aaj := Acw [false, true] (List.replicate 32 true) true 2 2 Alg [Ah4] (fun R x C => Aau N x.1.2.1 x.2.2.1 (fun y0 => C.1 (((), ()), (((), (), ()), y0, ()))))
def Ap2 (N : Nat) : Go.AX.Aaj := Alh @Aau N
def A27 (N : Nat) : List (Nat × Acs) := []
def Ap3 (N : Nat) : List (Nat × Go.AX.Aaj) := [(300, Am0 N)]
def Akm : Aac := ⟨[Bn0, wq6, B9d, Cdp], [(32, .cells 243 [(.ptr 32), (.slf 33)]), (33, .row 5 (.int .u8))]⟩
def Avt : Aac := ⟨[(2, .one (.val .str)), Azg], []⟩
def Avu : Aac := ⟨[Bn0, wq6], [(32, .cells 243 [(.ptr 32), (.slf 33)]), (33, .row 5 (.int .u8))]⟩
def Bk7 : Ac7 := .cons .ret Avt (.cons (.exit 0) Avu (.nil))
abbrev A82 (R : Type) := (List UInt8)->Int->Int->d0->((List UInt8)->Int->Option R)->((List UInt8)->d0->Option R)->Option R
abbrev Bk8 (R : Type) := (List UInt8)->Int->Int->d0->Option R
abbrev Az8 := {R : Type} → Nat → Nat → A82 R
def Az9 (Aau : Afo) {R : Type} (N : Nat) (rc : Bk8 R) : A82 R := fun b e a f g h => if ((decide (a < e)) = true) then (if (0 ≤ a ∧ a < len b) then (let c := (((UInt8.toNat (b.getD a.toNat (0 : UInt8))) : Nat) : Int); let d := (Bhu [(10 : UInt8), (9 : UInt8), (42 : UInt8), (34 : UInt8)] c); if ((decide (d ≥ 0)) = true) then (Aau N 42 f fun i => if ((0 ≤ d) ∧ (d < 4)) then (Aau N (((UInt8.toNat (List.getD [(110 : UInt8), (116 : UInt8), (42 : UInt8), (34 : UInt8)] (Int.toNat d) (0 : UInt8))) : Nat) : Int) i fun j => rc b e (wi (a + 1)) j) else none) else if ((decide (c < 32)) = true) then (g ([] : List UInt8) 3) else if ((decide (c > 126)) = true) then (g ([] : List UInt8) 3) else Aau N c f fun l => rc b e (wi (a + 1)) l) else none) else h b f
def Afq {R : Type} (N : Nat) : Nat → A82 R
 | 0 => fun _ _ _ _ _ _ => none
 | k + 1 => fun a b c d e f => Az9 @Aau N (fun a b c d => Afq N k a b c d e f) a b c d e f
def A83 (Afq : Az8) (N k : Nat) : Aar Akm := fun R x K => Afq N k x.1.1 x.1.2.2.1 x.1.2.2.2.1 x.2.2.1 (fun y0 y1 => K .ret (Aab Avt ((y0, y1, ()), (())))) (fun y0 y1 => K (.exit 0) (Aab Avu ((y0, (), ()), (((), (), ()), y1, ()))))
def A84 (N k : Nat) : Aar Akm := A83 @Afq N k
def Ali (N : Nat) : Go.AX.Aaj := Bbd 243 5
def Bhb : Aac := ⟨[Bn0], []⟩
def A0a : Aac := ⟨[Bn0, Alz], []⟩
abbrev Cau (R : Type) := (List UInt8)->((List UInt8)->Int->Option R)->Option R
abbrev Aju := {R : Type} → Nat → Cau R
def Bhc (Abk : Ah0) (Afq : Az8) (Aau : Afo) : Aju := fun {R} N c b => Abk N 34 ([] : List Int) fun d => Afq N N c (len c) 0 d (fun e f => b e f) fun g h => if ((decide ((len g) > 100)) = true) then (b ([] : List UInt8) 2) else Aau N 34 h fun a => if (((0 : Nat) < (List.length a)) ∧ (((List.length a) ≤ (70368744177664 : Nat)) ∧ ((Aoq a) = true))) then (b (Bbc a) 0) else none
def Acx : Aju := @Bhc @Abk @Afq @Aau
def Cna (N : Nat) : Abv Bhb [A0a] := fun R x C => Acx N x.1.1 (fun y0 y1 => C.1 ((y0, y1, ()), (())))
def Aof (Acx : Aju) (N : Nat) : Go.AX.Aaj := Acw [true] [] false 1 0 Bhb [A0a] (fun R x C => Acx N x.1.1 (fun y0 y1 => C.1 ((y0, y1, ()), (()))))
def Bhd (N : Nat) : Go.AX.Aaj := Aof @Acx N
def Cnb (N : Nat) : List (Nat × Acs) := [(9, Aaa Akm (A84 N N))]
def Cav (N : Nat) : List (Nat × Go.AX.Aaj) := [(273, Bbt 2 Agt (Asy N) (Ap2 N)), (274, Apb N), (275, Ali N)]
def Bk9 : Code := Tryz.f197.body.getD .skip
def A85 : Aac := ⟨[], []⟩
def Avv : Aac := ⟨[(0, .agg [(.val .str), wq0, wq0, wq0, (.val .str), wq0, wq0, wq0, (.val .str), wq0, wq0, wq0, (.val .str), wq0, wq0, wq0, (.val .str), wq0, wq0, wq0, (.val .str), wq0, wq0, wq0, (.val .str), wq0, wq0, wq0, (.val .str), wq0, wq0, wq0, (.val .str), wq0, wq0, wq0, (.val .str), wq0, wq0, wq0, (.val .str), wq0, wq0, wq0, (.val .str), wq0, wq0, wq0, (.val .str), wq0, wq0, wq0, (.val .str), wq0, wq0, wq0, (.val .str), wq0, wq0, wq0, (.val .str), wq0, wq0, wq0, (.val .str), wq0, wq0, wq0, (.val .str), wq0, wq0, wq0, (.val .str), wq0, wq0, wq0, (.val .str), wq0, wq0, wq0, (.val .str), wq0, wq0, wq0, (.val .str), wq0, wq0, wq0, (.val .str), wq0, wq0, wq0, (.val .str), wq0, wq0, wq0, (.val .str), wq0, wq0, wq0, (.val .str), wq0, wq0, wq0, (.val .str), wq0, wq0, wq0, (.val .str), wq0, wq0, wq0, (.val .str), wq0, wq0, wq0, (.val .str), wq0, wq0, wq0, (.val .str), wq0, wq0, wq0])], []⟩
abbrev B4j (R : Type) := ((List UInt8)->Int->Int->Int->(List UInt8)->Int->Int->Int->(List UInt8)->Int->Int->Int->(List UInt8)->Int->Int->Int->(List UInt8)->Int->Int->Int->(List UInt8)->Int->Int->Int->(List UInt8)->Int->Int->Int->(List UInt8)->Int->Int->Int->(List UInt8)->Int->Int->Int->(List UInt8)->Int->Int->Int->(List UInt8)->Int->Int->Int->(List UInt8)->Int->Int->Int->(List UInt8)->Int->Int->Int->(List UInt8)->Int->Int->Int->(List UInt8)->Int->Int->Int->(List UInt8)->Int->Int->Int->(List UInt8)->Int->Int->Int->(List UInt8)->Int->Int->Int->(List UInt8)->Int->Int->Int->(List UInt8)->Int->Int->Int->(List UInt8)->Int->Int->Int->(List UInt8)->Int->Int->Int->(List UInt8)->Int->Int->Int->(List UInt8)->Int->Int->Int->(List UInt8)->Int->Int->Int->(List UInt8)->Int->Int->Int->(List UInt8)->Int->Int->Int->(List UInt8)->Int->Int->Int->(List UInt8)->Int->Int->Int->(List UInt8)->Int->Int->Int->(List UInt8)->Int->Int->Int->Option R)->Option R
abbrev Ajv := {R : Type} → Nat → B4j R
def Acg : Ajv := fun {R} N a => a ([] : List UInt8) 0 0 0 ([(110 : UInt8), (117 : UInt8), (109 : UInt8)]) 1 0 1 ([(108 : UInt8), (111 : UInt8), (99 : UInt8), (97 : UInt8), (108 : UInt8)]) 2 0 1 ([(112 : UInt8), (117 : UInt8), (116 : UInt8), (108 : UInt8)]) 2 1 0 ([(97 : UInt8), (100 : UInt8), (100 : UInt8), (114 : UInt8), (108 : UInt8)]) 2 0 1 ([(103 : UInt8), (108 : UInt8), (111 : UInt8), (98 : UInt8), (97 : UInt8), (108 : UInt8)]) 3 0 1 ([(112 : UInt8), (117 : UInt8), (116 : UInt8), (103 : UInt8)]) 3 1 0 ([(97 : UInt8), (100 : UInt8), (100 : UInt8), (114 : UInt8), (103 : UInt8)]) 3 0 1 ([(115 : UInt8), (116 : UInt8), (97 : UInt8), (116 : UInt8), (105 : UInt8), (99 : UInt8)]) 4 0 1 ([(112 : UInt8), (117 : UInt8), (116 : UInt8), (115 : UInt8)]) 4 1 0 ([(97 : UInt8), (100 : UInt8), (100 : UInt8), (114 : UInt8), (115 : UInt8)]) 4 0 1 ([(112 : UInt8), (114 : UInt8), (111 : UInt8), (99 : UInt8)]) 5 0 1 ([(108 : UInt8), (111 : UInt8), (97 : UInt8), (100 : UInt8)]) 0 1 1 ([(115 : UInt8), (116 : UInt8), (111 : UInt8), (114 : UInt8), (101 : UInt8)]) 0 2 0 ([(103 : UInt8), (101 : UInt8), (116 : UInt8), (98 : UInt8)]) 0 2 1 ([(112 : UInt8), (117 : UInt8), (116 : UInt8), (98 : UInt8)]) 0 3 0 ([(98 : UInt8), (105 : UInt8), (110 : UInt8)]) 7 2 1 ([(117 : UInt8), (110 : UInt8)]) 8 1 1 ([(115 : UInt8), (116 : UInt8), (97 : UInt8), (99 : UInt8), (107 : UInt8)]) 2 0 0 ([(108 : UInt8), (97 : UInt8), (98 : UInt8), (101 : UInt8), (108 : UInt8)]) 6 0 0 ([(106 : UInt8), (117 : UInt8), (109 : UInt8), (112 : UInt8)]) 6 0 0 ([(116 : UInt8), (114 : UInt8), (117 : UInt8), (101 : UInt8)]) 6 1 0 ([(102 : UInt8), (97 : UInt8), (108 : UInt8), (115 : UInt8), (101 : UInt8)]) 6 1 0 ([(99 : UInt8), (97 : UInt8), (108 : UInt8), (108 : UInt8)]) 2 0 0 ([(101 : UInt8), (110 : UInt8), (116 : UInt8), (101 : UInt8), (114 : UInt8)]) 5 0 0 ([(114 : UInt8), (101 : UInt8), (116 : UInt8), (117 : UInt8), (114 : UInt8), (110 : UInt8)]) 0 1 0 ([(98 : UInt8), (97 : UInt8), (99 : UInt8), (107 : UInt8)]) 0 0 0 ([(114 : UInt8), (101 : UInt8), (115 : UInt8), (117 : UInt8), (108 : UInt8), (116 : UInt8)]) 6 1 0 ([(116 : UInt8), (97 : UInt8), (107 : UInt8), (101 : UInt8)]) 2 0 0 ([(115 : UInt8), (119 : UInt8), (105 : UInt8), (116 : UInt8), (99 : UInt8), (104 : UInt8)]) 6 1 0 ([(99 : UInt8), (97 : UInt8), (115 : UInt8), (101 : UInt8)]) 1 0 0
def B4k (N : Nat) : Abv A85 [Avv] := fun R x C => Acg N  (fun y0 y1 y2 y3 y4 y5 y6 y7 y8 y9 y10 y11 y12 y13 y14 y15 y16 y17 y18 y19 y20 y21 y22 y23 y24 y25 y26 y27 y28 y29 y30 y31 y32 y33 y34 y35 y36 y37 y38 y39 y40 y41 y42 y43 y44 y45 y46 y47 y48 y49 y50 y51 y52 y53 y54 y55 y56 y57 y58 y59 y60 y61 y62 y63 y64 y65 y66 y67 y68 y69 y70 y71 y72 y73 y74 y75 y76 y77 y78 y79 y80 y81 y82 y83 y84 y85 y86 y87 y88 y89 y90 y91 y92 y93 y94 y95 y96 y97 y98 y99 y100 y101 y102 y103 y104 y105 y106 y107 y108 y109 y110 y111 y112 y113 y114 y115 y116 y117 y118 y119 y120 y121 y122 y123 => C.1 (((y0, y1, y2, y3, y4, y5, y6, y7, y8, y9, y10, y11, y12, y13, y14, y15, y16, y17, y18, y19, y20, y21, y22, y23, y24, y25, y26, y27, y28, y29, y30, y31, y32, y33, y34, y35, y36, y37, y38, y39, y40, y41, y42, y43, y44, y45, y46, y47, y48, y49, y50, y51, y52, y53, y54, y55, y56, y57, y58, y59, y60, y61, y62, y63, y64, y65, y66, y67, y68, y69, y70, y71, y72, y73, y74, y75, y76, y77, y78, y79, y80, y81, y82, y83, y84, y85, y86, y87, y88, y89, y90, y91, y92, y93, y94, y95, y96, y97, y98, y99, y100, y101, y102, y103, y104, y105, y106, y107, y108, y109, y110, y111, y112, y113, y114, y115, y116, y117, y118, y119, y120, y121, y122, y123, ()), ()), (())))
def Anm (Acg : Ajv) (N : Nat) : Go.AX.Aaj := Acw [] [] false 0 0 A85 [Avv] (fun R x C => Acg N  (fun y0 y1 y2 y3 y4 y5 y6 y7 y8 y9 y10 y11 y12 y13 y14 y15 y16 y17 y18 y19 y20 y21 y22 y23 y24 y25 y26 y27 y28 y29 y30 y31 y32 y33 y34 y35 y36 y37 y38 y39 y40 y41 y42 y43 y44 y45 y46 y47 y48 y49 y50 y51 y52 y53 y54 y55 y56 y57 y58 y59 y60 y61 y62 y63 y64 y65 y66 y67 y68 y69 y70 y71 y72 y73 y74 y75 y76 y77 y78 y79 y80 y81 y82 y83 y84 y85 y86 y87 y88 y89 y90 y91 y92 y93 y94 y95 y96 y97 y98 y99 y100 y101 y102 y103 y104 y105 y106 y107 y108 y109 y110 y111 y112 y113 y114 y115 y116 y117 y118 y119 y120 y121 y122 y123 => C.1 (((y0, y1, y2, y3, y4, y5, y6, y7, y8, y9, y10, y11, y12, y13, y14, y15, y16, y17, y18, y19, y20, y21, y22, y23, y24, y25, y26, y27, y28, y29, y30, y31, y32, y33, y34, y35, y36, y37, y38, y39, y40, y41, y42, y43, y44, y45, y46, y47, y48, y49, y50, y51, y52, y53, y54, y55, y56, y57, y58, y59, y60, y61, y62, y63, y64, y65, y66, y67, y68, y69, y70, y71, y72, y73, y74, y75, y76, y77, y78, y79, y80, y81, y82, y83, y84, y85, y86, y87, y88, y89, y90, y91, y92, y93, y94, y95, y96, y97, y98, y99, y100, y101, y102, y103, y104, y105, y106, y107, y108, y109, y110, y111, y112, y113, y114, y115, y116, y117, y118, y119, y120, y121, y122, y123, ()), ()), (()))))
def A86 (N : Nat) : Go.AX.Aaj := Anm @Acg N
def B4l (N : Nat) : List (Nat × Acs) := []
def Bla (N : Nat) : List (Nat × Go.AX.Aaj) := []
def Ap4 : Code := Tryz.f198.body.getD .skip
def Bw3 : Code := Tryz.f277.body.getD .skip
def Bkp : Aac := ⟨Cdy, []⟩
def A28 : Aac := ⟨Ahl, []⟩
abbrev Cd6 (R : Type) := Int->Int->Int->(Bool->Option R)->Option R
abbrev Ahm := {R : Type} → Nat → Cd6 R
def Aa2 : Ahm := fun {R} N a c d b => if ((decide (a ≥ c)) = true) then (b (decide (a ≤ d))) else b false
def Cd7 (N : Nat) : Abv Bkp [A28] := fun R x C => Aa2 N x.1.1 x.1.2.1 x.1.2.2.1 (fun y0 => C.1 ((y0, ()), (())))
def Amw (Aa2 : Ahm) (N : Nat) : Go.AX.Aaj := Acw [true, true, true] [] false 3 0 Bkp [A28] (fun R x C => Aa2 N x.1.1 x.1.2.1 x.1.2.2.1 (fun y0 => C.1 ((y0, ()), (()))))
def A29 (N : Nat) : Go.AX.Aaj := Amw @Aa2 N
def Cd8 (N : Nat) : List (Nat × Acs) := []
def Bw4 (N : Nat) : List (Nat × Go.AX.Aaj) := []
def Ajd : Aac := ⟨[wq5, (4, .one (.ptr 33)), Cdj], [Cia, (33, .cells 139 B7b)]⟩
def As9 : Aac := ⟨Cdm, []⟩
def A7j : Ac7 := .cons .ret As9 (.nil)
abbrev Bn3 (R : Type) := Bool->Int->Int->Int->(List UInt8)->d3->d2->d1->Int->Int->(Bool->Option R)->Option R
abbrev Akx := {R : Type} → Nat → Bn3 R
def Aw0 (Aa2 : Ahm) : Akx := fun {R} N b d i c j l m n o e a => if ((d == 24) = true) then (if (b = true) then (Aa2 N c 0 8 fun f => a f) else a false) else if ((d == 29) = true) then (if (b = true) then (Aa2 N c 0 1000 fun g => a g) else a false) else if ((d == 30) = true) then (if (b = true) then (Aa2 N c 1 e fun h => a h) else a false) else if (b = true) then (a (c == 0)) else a false
def Abq : Akx := @Aw0 @Aa2
def Aw1 (Abq : Akx) (N : Nat) : Aar Ajd := fun R x K => Abq N x.1.2.2.1 x.2.1.1 x.2.1.2.1 x.2.1.2.2.1 x.2.2.1.1 x.2.2.1.2.1 x.2.2.1.2.2.1 x.2.2.1.2.2.2.1 x.2.2.1.2.2.2.2.1 x.2.2.1.2.2.2.2.2.1 (fun y0 => K .ret (Aab As9 ((y0, ()), (()))))
def A7k (N : Nat) : Aar Ajd := Aw1 @Abq N
def Bn4 : Code := Tryz.f276.body.getD .skip
def Bco : Aac := ⟨Azi, []⟩
def Ayz : Aac := ⟨Ahl, []⟩
abbrev B9h (R : Type) := Int->(Bool->Option R)->Option R
abbrev Am2 := {R : Type} → Nat → B9h R
def Bcp (Aa2 : Ahm) : Am2 := fun {R} N a b => Aa2 N a (-2147483648) 2147483647 fun c => b c
def Aek : Am2 := @Bcp @Aa2
def Cml (N : Nat) : Abv Bco [Ayz] := fun R x C => Aek N x.1.1 (fun y0 => C.1 ((y0, ()), (())))
def A3a (Aek : Am2) (N : Nat) : Go.AX.Aaj := Acw [true] [] false 1 0 Bco [Ayz] (fun R x C => Aek N x.1.1 (fun y0 => C.1 ((y0, ()), (()))))
def Bcq (N : Nat) : Go.AX.Aaj := A3a @Aek N
def Cmm (N : Nat) : List (Nat × Acs) := []
def B9i (N : Nat) : List (Nat × Go.AX.Aaj) := [(277, A29 N)]
def A3b : Aac := ⟨[Bz0, (1, .agg B7b), Cdx], []⟩
def Arl : Aac := ⟨Ahl, []⟩
abbrev Bw5 (R : Type) := Int->Int->Int->(List UInt8)->d3->d2->d1->Int->Int->(List UInt8)->Int->Int->Int->(Bool->Option R)->Option R
abbrev Akg := {R : Type} → Nat → Bw5 R
def A3c (Abq : Akx) (Aek : Am2) (Aa2 : Ahm) : Akg := fun {R} N e a f g b h i c d E l F G j => if ((l == 0) = true) then (Abq N (a == 0) e a f g b h i c d fun m => j m) else if ((l == 1) = true) then (Aek N a fun n => Abq N n e a f g b h i c d fun o => j o) else if ((l == 2) = true) then (Aa2 N a 0 4000 fun p => Abq N p e a f g b h i c d fun q => j q) else if ((l == 3) = true) then (Aa2 N a 0 199 fun r => Abq N r e a f g b h i c d fun s => j s) else if ((l == 4) = true) then (Aa2 N a 0 (wi ((len b) - 1)) fun t => Abq N t e a f g b h i c d fun u => j u) else if ((l == 5) = true) then (Aa2 N a 1 c fun v => Abq N v e a f g b h i c d fun w => j w) else if ((l == 6) = true) then (Aa2 N a 1 d fun x => Abq N x e a f g b h i c d fun y => j y) else if ((l == 7) = true) then (Aa2 N a 1 17 fun z => Abq N z e a f g b h i c d fun A => j A) else if ((l == 8) = true) then (if ((a == 18) = true) then (Abq N true e a f g b h i c d fun B => j B) else Abq N (a == 19) e a f g b h i c d fun C => j C) else Abq N false e a f g b h i c d fun D => j D
def Ada : Akg := @A3c @Abq @Aek @Aa2
def Ciu (N : Nat) : Abv A3b [Arl] := fun R x C => Ada N x.1.1.1 x.1.1.2.1 x.1.1.2.2.1 x.1.2.1.1 x.1.2.1.2.1 x.1.2.1.2.2.1 x.1.2.1.2.2.2.1 x.1.2.1.2.2.2.2.1 x.1.2.1.2.2.2.2.2.1 x.1.2.2.1.1 x.1.2.2.1.2.1 x.1.2.2.1.2.2.1 x.1.2.2.1.2.2.2.1 (fun y0 => C.1 ((y0, ()), (())))
def Ap5 (Ada : Akg) (N : Nat) : Go.AX.Aaj := Acw [true, true, true] [] false 3 0 A3b [Arl] (fun R x C => Ada N x.1.1.1 x.1.1.2.1 x.1.1.2.2.1 x.1.2.1.1 x.1.2.1.2.1 x.1.2.1.2.2.1 x.1.2.1.2.2.2.1 x.1.2.1.2.2.2.2.1 x.1.2.1.2.2.2.2.2.1 x.1.2.2.1.1 x.1.2.2.1.2.1 x.1.2.2.1.2.2.1 x.1.2.2.1.2.2.2.1 (fun y0 => C.1 ((y0, ()), (()))))
def Bfr (N : Nat) : Go.AX.Aaj := Ap5 @Ada N
def Civ (N : Nat) : List (Nat × Acs) := [(42, Aaa Ajd (A7k N))]
def Bw6 (N : Nat) : List (Nat × Go.AX.Aaj) := [(277, A29 N), (276, Bcq N)]
def Agn : Aac := ⟨[wq4, (5, .one (.ptr 1000)), (35, .one (.val z4)), (36, .one wq0), (37, .one wq0)], [A22, (1000, .row 218 (.pair .str z2))]⟩
def Ap6 : Aac := ⟨Azf, []⟩
def Ap7 : Aac := ⟨B89, Arj⟩
def Bcr : Ac7 := .cons .ret Ap6 (.cons (.exit 0) Ap7 (.nil))
abbrev A0w (R : Type) := d2->Int->Int->(List UInt8)->d3->d2->d1->Int->Int->(List ((List UInt8 × (Int × (Int × Int)))))->(Bool->Option R)->((List UInt8)->d3->d2->d1->Int->Int->Option R)->Option R
abbrev Bcs (R : Type) := d2->Int->Int->(List UInt8)->d3->d2->d1->Int->Int->(List ((List UInt8 × (Int × (Int × Int)))))->Option R
abbrev Al5 := {R : Type} → Nat → Nat → A0w R
def A0x (Ada : Akg) {R : Type} (N : Nat) (rc : Bcs R) : A0w R := fun d m b e f g h i j c l n => if ((decide (b < m)) = true) then (if (0 ≤ b ∧ b < len d) then (let a := (d.getD b.toNat (0, (0, 0))).1; if ((decide (a < 1)) = true) then (l false) else if ((decide (a ≥ 31)) = true) then (l false) else if ((0 ≤ a) ∧ (a < 31)) then (if (a < (len c)) then (Ada N a ((d.getD b.toNat (0, (0, 0))).2.1) ((d.getD b.toNat (0, (0, 0))).2.2) e f g h i j ((c.getD a.toNat (([] : List UInt8), (0, (0, 0)))).1) ((c.getD a.toNat (([] : List UInt8), (0, (0, 0)))).2.1) ((c.getD a.toNat (([] : List UInt8), (0, (0, 0)))).2.2.1) ((c.getD a.toNat (([] : List UInt8), (0, (0, 0)))).2.2.2) fun o => if ((!o) = true) then (l false) else rc d m (wi (b + 1)) e f g h i j c) else none) else none) else none) else n e f g h i j
def Acu {R : Type} (N : Nat) : Nat → A0w R
 | 0 => fun _ _ _ _ _ _ _ _ _ _ _ _ => none
 | k + 1 => fun a b c d e f g h i j l m => A0x @Ada N (fun a b c d e f g h i j => Acu N k a b c d e f g h i j l m) a b c d e f g h i j l m
def Aos (Acu : Al5) (N k : Nat) : Aar Agn := fun R x K => Acu N k x.1.2.2.1 x.1.2.2.2.1 x.1.2.2.2.2.1 x.2.1.1 x.2.1.2.1 x.2.1.2.2.1 x.2.1.2.2.2.1 x.2.1.2.2.2.2.1 x.2.1.2.2.2.2.2.1 x.2.2.1 (fun y0 => K .ret (Aab Ap6 ((y0, ()), (())))) (fun y0 y1 y2 y3 y4 y5 => K (.exit 0) (Aab Ap7 (((), ()), ((y0, y1, y2, y3, y4, y5, ()), ()))))
def A0y (N k : Nat) : Aar Agn := Aos @Acu N k
def Al6 : Code := Tryz.f199.body.getD .skip
def Ah5 : Aac := ⟨[wq4, (2, .one (.slf 33)), (3, .one (.slf 34)), A8s, A8t, (18, .one (.val z4)), (19, .one wq0), (20, .one wq0)], [A22, Bzw, Cdn]⟩
def Ap8 : Aac := ⟨[(2, .one (.slf 32)), (3, .one (.slf 33)), B9a], B9e⟩
def Ap9 : Aac := ⟨[wq4, (2, .one (.slf 33)), (3, .one (.slf 34)), A8s, A8t], [A22, Bzw, Cdn]⟩
def Bct : Ac7 := .cons .ret Ap8 (.cons (.exit 0) Ap9 (.nil))
abbrev A0z (R : Type) := Int->Int->d2->Int->Int->(List UInt8)->d3->d2->d1->Int->Int->d0->d0->(Bool->d0->d0->Option R)->(Int->Int->(List UInt8)->d3->d2->d1->Int->Int->d0->d0->Option R)->Option R
abbrev Bcu (R : Type) := Int->Int->d2->Int->Int->(List UInt8)->d3->d2->d1->Int->Int->d0->d0->Option R
abbrev Ata := {R : Type} → Nat → Nat → A0z R
def A00 {R : Type} (N : Nat) (rc : Bcu R) : A0z R := fun d f e h b i j l m n o g c p s => if ((decide (b < h)) = true) then (if (0 ≤ b ∧ b < len e) then (let q := (e.getD b.toNat (0, (0, 0))).1; let a := (e.getD b.toNat (0, (0, 0))).2.1; if ((q == 24) = true) then (let r := (wi (d + 1)); if ((a != r) = true) then (p false ([] : List Int) ([] : List Int)) else rc r f e h (wi (b + 1)) i j l m n o g c) else if ((q == 19) = true) then (if (0 ≤ a ∧ a < len c) then (if (((c.getD a.toNat 0) != 0) = true) then (p false ([] : List Int) ([] : List Int)) else if ((d == 0) = true) then (p false ([] : List Int) ([] : List Int)) else if (0 ≤ a ∧ a < len g) then (if (0 ≤ a ∧ a < len c) then (rc d (if (a > f) then a else f) e h (wi (b + 1)) i j l m n o (g.set a.toNat b) (c.set a.toNat d)) else none) else none) else none) else rc d f e h (wi (b + 1)) i j l m n o g c) else none) else s d f i j l m n o g c
def Aee {R : Type} (N : Nat) : Nat → A0z R
 | 0 => fun _ _ _ _ _ _ _ _ _ _ _ _ _ _ _ => none
 | k + 1 => fun a b c d e f g h i j l m n o p => A00 N (fun a b c d e f g h i j l m n => Aee N k a b c d e f g h i j l m n o p) a b c d e f g h i j l m n o p
def A01 (Aee : Ata) (N k : Nat) : Aar Ah5 := fun R x K => Aee N k x.1.2.2.2.1 x.1.2.2.2.2.1 x.1.2.2.2.2.2.1 x.1.2.2.2.2.2.2.1 x.1.2.2.2.2.2.2.2.1 x.2.1.1 x.2.1.2.1 x.2.1.2.2.1 x.2.1.2.2.2.1 x.2.1.2.2.2.2.1 x.2.1.2.2.2.2.2.1 x.2.2.1 x.2.2.2.1 (fun y0 y1 y2 => K .ret (Aab Ap8 (((), (), y0, ()), (y1, y2, ())))) (fun y0 y1 y2 y3 y4 y5 y6 y7 y8 y9 => K (.exit 0) (Aab Ap9 (((), (), (), y0, y1, ()), ((y2, y3, y4, y5, y6, y7, ()), y8, y9, ()))))
def A02 (N k : Nat) : Aar Ah5 := A01 @Aee N k
def A5k : Aac := ⟨A21, []⟩
def Atb : Aac := ⟨[(0, .one (.slf 32)), (1, .one (.slf 33)), Cmf], B9e⟩
abbrev Bz1 (R : Type) := (List UInt8)->d3->d2->d1->Int->Int->(Bool->d0->d0->Option R)->Option R
abbrev Ahv := {R : Type} → Nat → Bz1 R
def A5l (Aee : Ata) : Ahv := fun {R} N h i b j l d c => let a := (wi (d + 1)); if ((0 ≤ a) ∧ ((a ≤ a) ∧ ((a * 8) ≤ 70368744177664))) then (let e := (List.replicate (Int.toNat a) 0); if ((0 ≤ a) ∧ ((a ≤ a) ∧ ((a * 8) ≤ 70368744177664))) then (Aee N N 0 0 b (len b) 0 h i b j l d e e (fun m n o => c m n o) fun p q t u v w r s f g => if ((p == r) = true) then (c (q == s) f g) else c false f g) else none) else none
def Abt : Ahv := @A5l @Aee
def Cjy (N : Nat) : Abv A5k [Atb] := fun R x C => Abt N x.1.1.1 x.1.1.2.1 x.1.1.2.2.1 x.1.1.2.2.2.1 x.1.1.2.2.2.2.1 x.1.1.2.2.2.2.2.1 (fun y0 y1 y2 => C.1 (((), (), y0, ()), (y1, y2, ())))
def Al7 (Abt : Ahv) (N : Nat) : Go.AX.Aaj := Acw [true] [] false 1 0 A5k [Atb] (fun R x C => Abt N x.1.1.1 x.1.1.2.1 x.1.1.2.2.1 x.1.1.2.2.2.1 x.1.1.2.2.2.2.1 x.1.1.2.2.2.2.2.1 (fun y0 y1 y2 => C.1 (((), (), y0, ()), (y1, y2, ()))))
def A5m (N : Nat) : Go.AX.Aaj := Al7 @Abt N
def Cjz (N : Nat) : List (Nat × Acs) := [(9, Aaa Ah5 (A02 N N))]
def Bz2 (N : Nat) : List (Nat × Go.AX.Aaj) := []
def Aft : Code := Tryz.f200.body.getD .skip
def Ago : Aac := ⟨[wq7, Azg, (28, .one wq0), (29, .one wq0)], []⟩
def Aqa : Aac := ⟨Azf, []⟩
def Aqb : Aac := ⟨Ch5, []⟩
def Bcv : Ac7 := .cons .ret Aqa (.cons (.exit 3) Aqb (.nil))
abbrev A03 (R : Type) := d2->Int->Int->Int->(Bool->Option R)->(d2->Int->Option R)->Option R
abbrev Bcw (R : Type) := d2->Int->Int->Int->Option R
abbrev Al8 := {R : Type} → Nat → Nat → A03 R
def Atc {R : Type} (N : Nat) (rc : Bcw R) : A03 R := fun a c e d f g => if ((decide (d < e)) = true) then (let b := (wi ((wi (c + 1)) + d)); if ((decide (b ≥ (len a))) = true) then (f false) else if (0 ≤ b ∧ b < len a) then (if (((a.getD b.toNat (0, (0, 0))).1 != 30) = true) then (f false) else rc a c e (wi (d + 1))) else none) else g a c
def Acm {R : Type} (N : Nat) : Nat → A03 R
 | 0 => fun _ _ _ _ _ _ => none
 | k + 1 => fun a b c d e f => Atc N (fun a b c d => Acm N k a b c d e f) a b c d e f
def Aot (Acm : Al8) (N k : Nat) : Aar Ago := fun R x K => Acm N k x.1.1 x.1.2.1 x.1.2.2.1 x.1.2.2.2.1 (fun y0 => K .ret (Aab Aqa ((y0, ()), (())))) (fun y0 y1 => K (.exit 3) (Aab Aqb ((y0, y1, ()), (()))))
def A04 (N k : Nat) : Aar Ago := Aot @Acm N k
def Aw2 : Code := Tryz.f206.body.getD .skip
def Alj : Aac := ⟨[wq7, Alz, B9b, (10, .one (.val .bool))], []⟩
def Azj : Aac := ⟨A5j, []⟩
def Azk : Aac := ⟨[], []⟩
def Bfs : Ac7 := .cons .ret Azj (.cons .normal Azk (.nil))
abbrev Bw7 (R : Type) := d2->Int->Int->Bool->(Bool->Option R)->(Option R)->Option R
abbrev Aqc := {R : Type} → Nat → Bw7 R
def Aeg : Aqc := fun {R} N a b e f c g => if (f = true) then (c true) else if ((e == 29) = true) then (if (0 ≤ b ∧ b < len a) then (c ((a.getD b.toNat (0, (0, 0))).2.2 == 0)) else none) else if ((e == 30) = true) then (let d := (wi (b + 1)); if ((d == (len a)) = true) then (c true) else if (0 ≤ d ∧ d < len a) then (c ((a.getD d.toNat (0, (0, 0))).1 != 30)) else none) else g
def A3d (Aeg : Aqc) (N : Nat) : Aar Alj := fun R x K => Aeg N x.1.1 x.1.2.1 x.1.2.2.1 x.1.2.2.2.1 (fun y0 => K .ret (Aab Azj ((y0, ()), (())))) (K .normal (Aab Azk ((()), (()))))
def Bft (N : Nat) : Aar Alj := A3d @Aeg N
def Bcx : Aac := ⟨Bzy, []⟩
def Ay0 : Aac := ⟨Ahl, []⟩
abbrev B9j (R : Type) := d2->Int->(Bool->Option R)->Option R
abbrev Aje := {R : Type} → Nat → B9j R
def Bcy (Aeg : Aqc) : Aje := fun {R} N d c b => if (0 ≤ c ∧ c < len d) then (let a := (d.getD c.toNat (0, (0, 0))).1; if ((a == 20) = true) then (Aeg N d c a (a == 20) (fun e => b e) (b false)) else if ((a == 25) = true) then (Aeg N d c a (a == 25) (fun f => b f) (b false)) else if ((a == 26) = true) then (Aeg N d c a (a == 26) (fun g => b g) (b false)) else Aeg N d c a (a == 27) (fun h => b h) (b false)) else none
def Abs : Aje := @Bcy @Aeg
def Cmn (N : Nat) : Abv Bcx [Ay0] := fun R x C => Abs N x.1.1 x.1.2.1 (fun y0 => C.1 ((y0, ()), (())))
def Aou (Abs : Aje) (N : Nat) : Go.AX.Aaj := Acw [true, true] [] false 2 0 Bcx [Ay0] (fun R x C => Abs N x.1.1 x.1.2.1 (fun y0 => C.1 ((y0, ()), (()))))
def Bcz (N : Nat) : Go.AX.Aaj := Aou @Abs N
def Cmo (N : Nat) : List (Nat × Acs) := [(12, Aaa Alj (Bft N))]
def B9k (N : Nat) : List (Nat × Go.AX.Aaj) := []
def Ah6 : Aac := ⟨[wq7, Azg, B9a], []⟩
def Aw3 : Aac := ⟨Azf, []⟩
def Aw4 : Aac := ⟨Ch5, []⟩
def Bc0 : Ac7 := .cons .ret Aw3 (.cons .normal Aw4 (.nil))
abbrev Bs8 (R : Type) := d2->Int->Bool->(Bool->Option R)->(d2->Int->Option R)->Option R
abbrev Ajf := {R : Type} → Nat → Bs8 R
def A05 (Abs : Aje) : Ajf := fun {R} N a b f e c => if (f = true) then (Abs N a b fun g => if ((!g) = true) then (e false) else c a b) else let d := (wi (b + 1)); if (0 ≤ d ∧ d < len a) then (if (((a.getD d.toNat (0, (0, 0))).1 == 24) = true) then (Abs N a b fun h => if ((!h) = true) then (e false) else c a b) else c a b) else none
def Abj : Ajf := @A05 @Abs
def Aov (Abj : Ajf) (N : Nat) : Aar Ah6 := fun R x K => Abj N x.1.1 x.1.2.1 x.1.2.2.1 (fun y0 => K .ret (Aab Aw3 ((y0, ()), (())))) (fun y0 y1 => K .normal (Aab Aw4 ((y0, y1, ()), (()))))
def Bc1 (N : Nat) : Aar Ah6 := Aov @Abj N
def Ag4 : Aac := ⟨Ch5, []⟩
def Arm : Aac := ⟨Azf, []⟩
def Arn : Aac := ⟨[wq7], []⟩
def Bfu : Ac7 := .cons .ret Arm (.cons (.exit 0) Arn (.nil))
abbrev A3e (R : Type) := d2->Int->(Bool->Option R)->(d2->Option R)->Option R
abbrev Bfv (R : Type) := d2->Int->Option R
abbrev Am8 := {R : Type} → Nat → Nat → A3e R
def A3f (Acm : Al8) (Abj : Ajf) {R : Type} (N : Nat) (rc : Bfv R) : A3e R := fun a b d l => if ((decide (b < (len a))) = true) then (let c := (wi (b + 1)); if (0 ≤ b ∧ b < len a) then (let h := (a.getD b.toNat (0, (0, 0))).1; if ((h == 29) = true) then (if (0 ≤ b ∧ b < len a) then (Acm N N a b ((a.getD b.toNat (0, (0, 0))).2.2) 0 (fun m => d m) fun e g => if (0 ≤ g ∧ g < len e) then (let i := (wi (g + (e.getD g.toNat (0, (0, 0))).2.2)); let f := (wi (i + 1)); if ((!(f == (len e))) = true) then (if (0 ≤ f ∧ f < len e) then (if (((e.getD f.toNat (0, (0, 0))).1 == 30) = true) then (d false) else Abj N e i (f == (len e)) (fun n => d n) fun o p => rc o (wi (p + 1))) else none) else Abj N e i (f == (len e)) (fun q => d q) fun r s => rc r (wi (s + 1))) else none) else none) else if ((h == 30) = true) then (d false) else if ((h == 19) = true) then (if ((c == (len a)) = true) then (d false) else if (0 ≤ c ∧ c < len a) then (let j := (a.getD c.toNat (0, (0, 0))).1; if ((j != 18) = true) then (if (0 ≤ c ∧ c < len a) then (if ((j != 28) = true) then (if (0 ≤ c ∧ c < len a) then (if ((j != 19) = true) then (d false) else Abj N a b (c == (len a)) (fun t => d t) fun u v => rc u (wi (v + 1))) else none) else Abj N a b (c == (len a)) (fun w => d w) fun x y => rc x (wi (y + 1))) else none) else Abj N a b (c == (len a)) (fun z => d z) fun A B => rc A (wi (B + 1))) else none) else Abj N a b (c == (len a)) (fun C => d C) fun D E => rc D (wi (E + 1))) else none) else l a
def Ace {R : Type} (N : Nat) : Nat → A3e R
 | 0 => fun _ _ _ _ => none
 | k + 1 => fun a b c d => A3f @Acm @Abj N (fun a b => Ace N k a b c d) a b c d
def Aqd (Ace : Am8) (N k : Nat) : Aar Ag4 := fun R x K => Ace N k x.1.1 x.1.2.1 (fun y0 => K .ret (Aab Arm ((y0, ()), (())))) (fun y0 => K (.exit 0) (Aab Arn ((y0, ()), (()))))
def A3g (N k : Nat) : Aar Ag4 := Aqd @Ace N k
def A87 : Aac := ⟨[wq7], []⟩
def Avw : Aac := ⟨Ahl, []⟩
abbrev B4m (R : Type) := d2->(Bool->Option R)->Option R
abbrev Als := {R : Type} → Nat → B4m R
def A88 (Ace : Am8) : Als := fun {R} N c a => Ace N N c 0 (fun d => a d) fun b => if (((len b) == 0) = true) then (a true) else if (((0 :Int) ≤ (0 :Int)) ∧ (0 < (len b))) then (a ((List.getD b (0 : Nat) (0, (0, 0))).1 == 24)) else none
def Ad3 : Als := @A88 @Ace
def Ckr (N : Nat) : Abv A87 [Avw] := fun R x C => Ad3 N x.1.1 (fun y0 => C.1 ((y0, ()), (())))
def Aur (Ad3 : Als) (N : Nat) : Go.AX.Aaj := Acw [true] [] false 1 0 A87 [Avw] (fun R x C => Ad3 N x.1.1 (fun y0 => C.1 ((y0, ()), (()))))
def Blb (N : Nat) : Go.AX.Aaj := Aur @Ad3 N
def Cks (N : Nat) : List (Nat × Acs) := [(17, Aaa Ago (A04 N N)), (44, Aaa Ah6 (Bc1 N)), (5, Aaa Ag4 (A3g N N))]
def B4n (N : Nat) : List (Nat × Go.AX.Aaj) := [(206, Bcz N)]
def Ahr : Code := Tryz.f201.body.getD .skip
def Arh : Code := Tryz.f278.body.getD .skip
def Afu : Code := Tryz.f302.body.getD .skip
def Bfw : Code := Tryz.f279.body.getD .skip
def A3h : Aac := ⟨Azi, []⟩
def Aro : Aac := ⟨Ahl, []⟩
abbrev Bw8 (R : Type) := Int->(Bool->Option R)->Option R
abbrev Am9 := {R : Type} → Nat → Bw8 R
def A3i (Aek : Am2) : Am9 := fun {R} N a b => Aek N a fun c => b (!c)
def Ae4 : Am9 := @A3i @Aek
def Ciw (N : Nat) : Abv A3h [Aro] := fun R x C => Ae4 N x.1.1 (fun y0 => C.1 ((y0, ()), (())))
def A3j (Ae4 : Am9) (N : Nat) : Go.AX.Aaj := Acw [true] [] false 1 0 A3h [Aro] (fun R x C => Ae4 N x.1.1 (fun y0 => C.1 ((y0, ()), (()))))
def Bfx (N : Nat) : Go.AX.Aaj := A3j @Ae4 N
def Cix (N : Nat) : List (Nat × Acs) := []
def Bw9 (N : Nat) : List (Nat × Go.AX.Aaj) := [(276, Bcq N)]
def Adn : Aac := ⟨[Ch3, (1, .one (.fn 279)), Bkn, B9c], []⟩
def Ai2 : Aac := ⟨Cds, []⟩
def Ai3 : Aac := ⟨[], []⟩
def Ash : Ac7 := .cons .ret Ai2 (.cons (.exit 0) Ai3 (.nil))
abbrev Al9 (R : Type) := d0->Int->Int->(Int->Option R)->(Option R)->Option R
abbrev Asi (R : Type) := d0->Int->Int->Option R
abbrev Ajz := {R : Type} → Nat → Nat → Al9 R
def Aj0 (Ae4 : Am9) {R : Type} (N : Nat) (rc : Asi R) : Al9 R := fun b c a d e => if ((decide (a < c)) = true) then (if (0 ≤ a ∧ a < len b) then (Ae4 N (b.getD a.toNat 0) fun f => if (f = true) then (d a) else rc b c (wi (a + 1))) else none) else e
def Aa4 {R : Type} (N : Nat) : Nat → Al9 R
 | 0 => fun _ _ _ _ _ => none
 | k + 1 => fun a b c d e => Aj0 @Ae4 N (fun a b c => Aa4 N k a b c d e) a b c d e
def Ama (Aa4 : Ajz) (N k : Nat) : Aar Adn := fun R x K => Aa4 N k x.1.1 x.1.2.2.1 x.1.2.2.2.1 (fun y0 => K .ret (Aab Ai2 ((y0, ()), (())))) (K (.exit 0) (Aab Ai3 ((()), (()))))
def Amb (N k : Nat) : Aar Adn := Ama @Aa4 N k
def Ann : Aac := ⟨[Ch3, (1, .one (.fn 279))], []⟩
def Aj1 : Aac := ⟨Azi, []⟩
abbrev A89 (R : Type) := d0->(Int->Option R)->Option R
abbrev Ain := {R : Type} → Nat → A89 R
def Ano (Aa4 : Ajz) : Ain := fun {R} N a b => Aa4 N N a (len a) 0 (fun c => b c) (b (-1))
def Ac8 : Ain := @Ano @Aa4
def B4o (N : Nat) : Abv Ann [Aj1] := fun R x C => Ac8 N x.1.1 (fun y0 => C.1 ((y0, ()), (())))
def Aus (Ac8 : Ain) (N : Nat) : Go.AX.Aaj := Acw [true, true] [] false 2 0 Ann [Aj1] (fun R x C => Ac8 N x.1.1 (fun y0 => C.1 ((y0, ()), (()))))
def Aut (N : Nat) : Go.AX.Aaj := Aus @Ac8 N
def B4p (N : Nat) : List (Nat × Acs) := [(5, Aaa Adn (Amb N N))]
def A9a (N : Nat) : List (Nat × Go.AX.Aaj) := [(279, Bfx N)]
def Al0 : Aac := ⟨[Ch3, (1, .one (.fn 279))], []⟩
def Air : Aac := ⟨Ahl, []⟩
abbrev A42 (R : Type) := d0->(Bool->Option R)->Option R
abbrev Aes := {R : Type} → Nat → A42 R
def Al1 (Ac8 : Ain) : Aes := fun {R} N a b => Ac8 N a fun c => b (decide (c ≥ 0))
def Aax : Aes := @Al1 @Ac8
def By0 (N : Nat) : Abv Al0 [Air] := fun R x C => Aax N x.1.1 (fun y0 => C.1 ((y0, ()), (())))
def Aja (Aax : Aes) (N : Nat) : Go.AX.Aaj := Acw [true, true] [] false 2 0 Al0 [Air] (fun R x C => Aax N x.1.1 (fun y0 => C.1 ((y0, ()), (()))))
def Ari (N : Nat) : Go.AX.Aaj := Aja @Aax N
def By1 (N : Nat) : List (Nat × Acs) := []
def A43 (N : Nat) : List (Nat × Go.AX.Aaj) := [(302, Aut N)]
def Ahx : Aac := ⟨[wq4, (11, .one (.val z3)), (12, .one wq0), Cdq], Arj⟩
def Arp : Aac := ⟨Azf, []⟩
def Arq : Aac := ⟨B89, Arj⟩
def Bfy : Ac7 := .cons .ret Arp (.cons (.exit 0) Arq (.nil))
abbrev A3k (R : Type) := d3->Int->Int->(List UInt8)->d3->d2->d1->Int->Int->(Bool->Option R)->((List UInt8)->d3->d2->d1->Int->Int->Option R)->Option R
abbrev Bfz (R : Type) := d3->Int->Int->(List UInt8)->d3->d2->d1->Int->Int->Option R
abbrev Aqe := {R : Type} → Nat → Nat → A3k R
def Avx (Acx : Aju) (Aax : Aes) {R : Type} (N : Nat) (rc : Bfz R) : A3k R := fun b d a e f g h i j c n => if ((decide (a < d)) = true) then (if (0 ≤ a ∧ a < len b) then (let m := (b.getD a.toNat (([] : List UInt8), (false, ([] : List Int)))).1; let l := (b.getD a.toNat (([] : List UInt8), (false, ([] : List Int)))).2.2; if ((b.getD a.toNat (([] : List UInt8), (false, ([] : List Int)))).2.1 = true) then (Acx N m fun q o => if ((o != 0) = true) then (c false) else if ((decide ((len l) > 0)) = true) then (c false) else rc b d (wi (a + 1)) e f g h i j) else if ((!(m == ([] : List UInt8))) = true) then (c false) else if (((len l) == 0) = true) then (c false) else Aax N l fun p => if (p = true) then (c false) else rc b d (wi (a + 1)) e f g h i j) else none) else n e f g h i j
def Adj {R : Type} (N : Nat) : Nat → A3k R
 | 0 => fun _ _ _ _ _ _ _ _ _ _ _ => none
 | k + 1 => fun a b c d e f g h i j l => Avx @Acx @Aax N (fun a b c d e f g h i => Adj N k a b c d e f g h i j l) a b c d e f g h i j l
def Avy (Adj : Aqe) (N k : Nat) : Aar Ahx := fun R x K => Adj N k x.1.2.1 x.1.2.2.1 x.1.2.2.2.1 x.2.1.1 x.2.1.2.1 x.2.1.2.2.1 x.2.1.2.2.2.1 x.2.1.2.2.2.2.1 x.2.1.2.2.2.2.2.1 (fun y0 => K .ret (Aab Arp ((y0, ()), (())))) (fun y0 y1 y2 y3 y4 y5 => K (.exit 0) (Aab Arq (((), ()), ((y0, y1, y2, y3, y4, y5, ()), ()))))
def A3l (N k : Nat) : Aar Ahx := Avy @Adj N k
def Ahe : Aac := ⟨[wq4, (7, .one (.mp 33)), (50, .one (.val z1)), (51, .one wq0), (52, .one wq0)], [A22, (33, .amap 147 (.int .i64) .bool)]⟩
def Aqf : Aac := ⟨Azf, []⟩
def Aqg : Aac := ⟨[], []⟩
def Bc2 : Ac7 := .cons .ret Aqf (.cons (.exit 2) Aqg (.nil))
abbrev A06 (R : Type) := d1->Int->Int->(List UInt8)->d3->d2->d1->Int->Int->(List (Int × Bool))->(Bool->Option R)->(Option R)->Option R
abbrev Bc3 (R : Type) := d1->Int->Int->(List UInt8)->d3->d2->d1->Int->Int->(List (Int × Bool))->Option R
abbrev Aow := {R : Type} → Nat → Nat → A06 R
def Atd (Aa2 : Ahm) {R : Type} (N : Nat) (rc : Bc3 R) : A06 R := fun b e a h i j l f m g c n => if ((decide (a < e)) = true) then (if (0 ≤ a ∧ a < len b) then (let d := (b.getD a.toNat (0, 0)).1; Aa2 N d 1 199 fun o => if ((!o) = true) then (c false) else if ((Option.getD (Aze (kt := (.int .i64)) (et := .bool) d g) false) = true) then (c false) else Aa2 N ((b.getD a.toNat (0, 0)).2) 1 f fun p => if ((!p) = true) then (c false) else rc b e (wi (a + 1)) h i j l f m (A0k (kt := (.int .i64)) (et := .bool) d true g)) else none) else n
def Ac0 {R : Type} (N : Nat) : Nat → A06 R
 | 0 => fun _ _ _ _ _ _ _ _ _ _ _ _ => none
 | k + 1 => fun a b c d e f g h i j l m => Atd @Aa2 N (fun a b c d e f g h i j => Ac0 N k a b c d e f g h i j l m) a b c d e f g h i j l m
def Ate (Ac0 : Aow) (N k : Nat) : Aar Ahe := fun R x K => Ac0 N k x.1.2.2.1 x.1.2.2.2.1 x.1.2.2.2.2.1 x.2.1.1 x.2.1.2.1 x.2.1.2.2.1 x.2.1.2.2.2.1 x.2.1.2.2.2.2.1 x.2.1.2.2.2.2.2.1 x.2.2.1 (fun y0 => K .ret (Aab Aqf ((y0, ()), (())))) (K (.exit 2) (Aab Aqg ((()), (()))))
def A07 (N k : Nat) : Aar Ahe := Ate @Ac0 N k
def A9b : Aac := ⟨A21, []⟩
def Avz : Aac := ⟨Ahl, []⟩
abbrev B4q (R : Type) := (List UInt8)->d3->d2->d1->Int->Int->(Bool->Option R)->Option R
abbrev Alt := {R : Type} → Nat → B4q R
def A9c (Adj : Aqe) (Ac0 : Aow) : Alt := fun {R} N d a e f g h b => Adj N N a (len a) 0 d a e f g h (fun i => b i) fun j l m c n o => Ac0 N N c (len c) 0 j l m c n o ([] : List (Int × Bool)) (fun p => b p) (b true)
def Ad4 : Alt := @A9c @Adj @Ac0
def Ckt (N : Nat) : Abv A9b [Avz] := fun R x C => Ad4 N x.1.1.1 x.1.1.2.1 x.1.1.2.2.1 x.1.1.2.2.2.1 x.1.1.2.2.2.2.1 x.1.1.2.2.2.2.2.1 (fun y0 => C.1 ((y0, ()), (())))
def Auu (Ad4 : Alt) (N : Nat) : Go.AX.Aaj := Acw [true] [] false 1 0 A9b [Avz] (fun R x C => Ad4 N x.1.1.1 x.1.1.2.1 x.1.1.2.2.1 x.1.1.2.2.2.1 x.1.1.2.2.2.2.1 x.1.1.2.2.2.2.2.1 (fun y0 => C.1 ((y0, ()), (()))))
def Blc (N : Nat) : Go.AX.Aaj := Auu @Ad4 N
def Cku (N : Nat) : List (Nat × Acs) := [(5, Aaa Ahx (A3l N N)), (27, Aaa Ahe (A07 N N))]
def B4r (N : Nat) : List (Nat × Go.AX.Aaj) := [(196, Bhd N), (278, Ari N), (277, A29 N)]
def Auv : Code := Tryz.f202.body.getD .skip
def Akn : Aac := ⟨[wq4, Azh, Chx], A8w⟩
def Aw5 : Aac := ⟨A8u, []⟩
def Aw6 : Aac := ⟨[], []⟩
def Bc4 : Ac7 := .cons .ret Aw5 (.cons .normal Aw6 (.nil))
abbrev Bs9 (R : Type) := Int->Bool->Int->Int->Int->(Int->Option R)->(Option R)->Option R
abbrev Aox := {R : Type} → Nat → Bs9 R
def Ado : Aox := fun {R} N b c g d e a f => if (c = true) then (a d) else if ((b == 30) = true) then (a e) else f
def A08 (Ado : Aox) (N : Nat) : Aar Akn := fun R x K => Ado N x.1.2.1 x.1.2.2.1 x.2.1.1 x.2.1.2.1 x.2.1.2.2.1 (fun y0 => K .ret (Aab Aw5 ((y0, ()), (())))) (K .normal (Aab Aw6 ((()), (()))))
def Bc5 (N : Nat) : Aar Akn := A08 @Ado N
def A9d : Aac := ⟨Cdw, []⟩
def Av0 : Aac := ⟨Azi, []⟩
abbrev B4s (R : Type) := Int->Int->Int->(Int->Option R)->Option R
abbrev Aio := {R : Type} → Nat → B4s R
def A9e (Ado : Aox) : Aio := fun {R} N a c d b => if ((a == 20) = true) then (Ado N a (a == 20) a c d (fun e => b e) (b 0)) else if ((a == 21) = true) then (Ado N a (a == 21) a c d (fun f => b f) (b 0)) else if ((a == 22) = true) then (Ado N a (a == 22) a c d (fun g => b g) (b 0)) else if ((a == 27) = true) then (Ado N a (a == 27) a c d (fun h => b h) (b 0)) else Ado N a (a == 29) a c d (fun i => b i) (b 0)
def Ab0 : Aio := @A9e @Ado
def Ckv (N : Nat) : Abv A9d [Av0] := fun R x C => Ab0 N x.1.1.1 x.1.1.2.1 x.1.1.2.2.1 (fun y0 => C.1 ((y0, ()), (())))
def Anp (Ab0 : Aio) (N : Nat) : Go.AX.Aaj := Acw [true] [] false 1 0 A9d [Av0] (fun R x C => Ab0 N x.1.1.1 x.1.1.2.1 x.1.1.2.2.1 (fun y0 => C.1 ((y0, ()), (()))))
def A9f (N : Nat) : Go.AX.Aaj := Anp @Ab0 N
def Ckw (N : Nat) : List (Nat × Acs) := [(14, Aaa Akn (Bc5 N))]
def B4t (N : Nat) : List (Nat × Go.AX.Aaj) := []
def Ah7 : Aac := ⟨[(8, .one (.slf 32)), (9, .one (.slf 33)), Cdp, (13, .one (.ptr 34)), Chv, Chz, Ch0], [Cmh, Bzw, (34, .cells 141 B9f)]⟩
def Aw7 : Aac := ⟨Azf, []⟩
def Aw8 : Aac := ⟨[(8, .one (.slf 32)), (9, .one (.slf 33)), Cdp, Chv, Chz, Ch0], B9e⟩
def Bc6 : Ac7 := .cons .ret Aw7 (.cons .normal Aw8 (.nil))
abbrev Bta (R : Type) := Int->d2->Int->Int->d0->d0->Int->Int->Int->(Bool->Option R)->(Int->d2->Int->Int->d0->d0->Option R)->Option R
abbrev Ajg := {R : Type} → Nat → Bta R
def A09 (Ab0 : Aio) : Ajg := fun {R} N d e f g b c j l m h i => Ab0 N j l m fun a => if ((decide (a > 0)) = true) then (if (0 ≤ a ∧ a < len c) then (if (((c.getD a.toNat 0) != d) = true) then (h false) else if (0 ≤ a ∧ a < len b) then (if (((b.getD a.toNat 0) == 0) = true) then (h false) else i d e f g b c) else none) else none) else i d e f g b c
def Ac1 : Ajg := @A09 @Ab0
def Aoy (Ac1 : Ajg) (N : Nat) : Aar Ah7 := fun R x K => Ac1 N x.1.2.2.1 x.1.2.2.2.2.1 x.1.2.2.2.2.2.1 x.1.2.2.2.2.2.2.1 x.2.1 x.2.2.1 x.2.2.2.1.1 x.2.2.2.1.2.1 x.2.2.2.1.2.2.1 (fun y0 => K .ret (Aab Aw7 ((y0, ()), (())))) (fun y0 y1 y2 y3 y4 y5 => K .normal (Aab Aw8 (((), (), y0, y1, y2, y3, ()), (y4, y5, ()))))
def Bc7 (N : Nat) : Aar Ah7 := Aoy @Ac1 N
def Agp : Aac := ⟨[(8, .one (.slf 32)), (9, .one (.slf 33)), Cdp, Chv, Chz, Ch0], B9e⟩
def Aqh : Aac := ⟨Azf, []⟩
def Aqi : Aac := ⟨[], []⟩
def Bc8 : Ac7 := .cons .ret Aqh (.cons (.exit 2) Aqi (.nil))
abbrev A1a (R : Type) := Int->d2->Int->Int->d0->d0->(Bool->Option R)->(Option R)->Option R
abbrev Bc9 (R : Type) := Int->d2->Int->Int->d0->d0->Option R
abbrev Amc := {R : Type} → Nat → Nat → A1a R
def A1b (Ac1 : Ajg) {R : Type} (N : Nat) (rc : Bc9 R) : A1a R := fun j b c a f g h l => if ((decide (a < c)) = true) then (if (0 ≤ a ∧ a < len b) then (let d := (b.getD a.toNat (0, (0, 0))).1; let e := (b.getD a.toNat (0, (0, 0))).2.1; let i := (b.getD a.toNat (0, (0, 0))).2.2; if ((d == 24) = true) then (Ac1 N e b c a f g d e i (fun m => h m) fun n o p q r s => rc n o p (wi (q + 1)) r s) else Ac1 N j b c a f g d e i (fun t => h t) fun u v w x y z => rc u v w (wi (x + 1)) y z) else none) else l
def Acn {R : Type} (N : Nat) : Nat → A1a R
 | 0 => fun _ _ _ _ _ _ _ _ => none
 | k + 1 => fun a b c d e f g h => A1b @Ac1 N (fun a b c d e f => Acn N k a b c d e f g h) a b c d e f g h
def Aoz (Acn : Amc) (N k : Nat) : Aar Agp := fun R x K => Acn N k x.1.2.2.1 x.1.2.2.2.1 x.1.2.2.2.2.1 x.1.2.2.2.2.2.1 x.2.1 x.2.2.1 (fun y0 => K .ret (Aab Aqh ((y0, ()), (())))) (K (.exit 2) (Aab Aqi ((()), (()))))
def A1c (N k : Nat) : Aar Agp := Aoz @Acn N k
def A9g : Aac := ⟨A21, []⟩
def Av1 : Aac := ⟨Ahl, []⟩
abbrev B4u (R : Type) := (List UInt8)->d3->d2->d1->Int->Int->(Bool->Option R)->Option R
abbrev Auw := {R : Type} → Nat → B4u R
def A9h (Acx : Aju) (Acg : Ajv) (Acu : Al5) (Abt : Ahv) (Ad3 : Als) (Ad4 : Alt) (Acn : Amc) : Auw := fun {R} N d m c n e f a => Acx N d fun y0 o => if ((o != 0) = true) then (a false) else if ((decide (e < 0)) = true) then (a false) else if ((decide (f < 0)) = true) then (a false) else Acg N fun p q r s t u v w x y z A B C D E F G H I J L M O P Q S T U V W X Y Z aa ab ac ad ae af ag ah ai aj ak al am an ao ap aq ar au av aw ax ay az ba bb bc bd be bf bg bh bi bj bk bl bm bn bo bp bq br bs bt bu bv bw bx bz ca cb cc cd ce cf cg ch ci cj ck cl cm cn co cp cq cr cs ct cu cv cw cx cy cz da db dc dd de df dg dh di dj dk dl dm dn dp => Acu N N c (len c) 0 d m c n e f ((p, (q, (r, s))) :: ((t, (u, (v, w))) :: ((x, (y, (z, A))) :: ((B, (C, (D, E))) :: ((F, (G, (H, I))) :: ((J, (L, (M, O))) :: ((P, (Q, (S, T))) :: ((U, (V, (W, X))) :: ((Y, (Z, (aa, ab))) :: ((ac, (ad, (ae, af))) :: ((ag, (ah, (ai, aj))) :: ((ak, (al, (am, an))) :: ((ao, (ap, (aq, ar))) :: ((au, (av, (aw, ax))) :: ((ay, (az, (ba, bb))) :: ((bc, (bd, (be, bf))) :: ((bg, (bh, (bi, bj))) :: ((bk, (bl, (bm, bn))) :: ((bo, (bp, (bq, br))) :: ((bs, (bt, (bu, bv))) :: ((bw, (bx, (bz, ca))) :: ((cb, (cc, (cd, ce))) :: ((cf, (cg, (ch, ci))) :: ((cj, (ck, (cl, cm))) :: ((cn, (co, (cp, cq))) :: ((cr, (cs, (ct, cu))) :: ((cv, (cw, (cx, cy))) :: ((cz, (da, (db, dc))) :: ((dd, (de, (df, dg))) :: ((dh, (di, (dj, dk))) :: ((dl, (dm, (dn, dp))) :: ([] : List (List UInt8 × Int × Int × Int))))))))))))))))))))))))))))))))) (fun dq => a dq) fun g h b i j l => Abt N g h b i j l fun dr ds dt => if ((!dr) = true) then (a false) else Ad3 N b fun du => if ((!du) = true) then (a false) else Ad4 N g h b i j l fun dv => if ((!dv) = true) then (a false) else Acn N N 0 b (len b) 0 ds dt (fun dw => a dw) (a true)
def Aiv : Auw := @A9h @Acx @Acg @Acu @Abt @Ad3 @Ad4 @Acn
def Ckx (N : Nat) : Abv A9g [Av1] := fun R x C => Aiv N x.1.1.1 x.1.1.2.1 x.1.1.2.2.1 x.1.1.2.2.2.1 x.1.1.2.2.2.2.1 x.1.1.2.2.2.2.2.1 (fun y0 => C.1 ((y0, ()), (())))
def Bld (Aiv : Auw) (N : Nat) : Go.AX.Aaj := Acw [true] [] false 1 0 A9g [Av1] (fun R x C => Aiv N x.1.1.1 x.1.1.2.1 x.1.1.2.2.1 x.1.1.2.2.2.1 x.1.1.2.2.2.2.1 x.1.1.2.2.2.2.2.1 (fun y0 => C.1 ((y0, ()), (()))))
def Ble (N : Nat) : Go.AX.Aaj := Bld @Aiv N
def Cky (N : Nat) : List (Nat × Acs) := [(13, Aaa Agn (A0y N N)), (40, Aaa Ah7 (Bc7 N)), (33, Aaa Agp (A1c N N))]
def B4v (N : Nat) : List (Nat × Go.AX.Aaj) := [(196, Bhd N), (197, A86 N), (198, Bfr N), (199, A5m N), (200, Blb N), (201, Blc N), (202, A9f N)]
def Alk : Code := Tryz.f134.body.getD .skip
def Am3 : Code := Tryz.f203.body.getD .skip
def Aky : Aac := ⟨[Alz, Chy, wq6, wq8, B9d, (11, .one (.val .bool))], Cd5⟩
def A1d : Aac := ⟨Bn1, []⟩
def A1e : Aac := ⟨[Alz, wq6, wq8], Cd5⟩
def Bib : Ac7 := .cons .ret A1d (.cons .normal A1e (.nil))
abbrev Bz3 (R : Type) := Int->Bool->Int->Bool->Int->Int->Int->(List UInt8)->Int->Int->Int->(Bool->Option R)->(Int->Int->Int->Int->(List UInt8)->Int->Int->Int->Option R)->Option R
abbrev Amd := {R : Type} → Nat → Bz3 R
def A5n (Aa2 : Ahm) : Amd := fun {R} N b m l n c a d e f g h j i => if (n = true) then (Aa2 N a 2 (wi (b - 1)) fun o => if ((!o) = true) then (j false) else i b c a d e f g h) else if ((l == 4) = true) then (if ((decide (a < 2)) = true) then (j false) else i b c a d e f g h) else if ((l == 23) = true) then (Aa2 N a 2 (wi (b - 3)) fun p => if ((!p) = true) then (j false) else i b c a d e f g h) else if ((l == 18) = true) then (if ((!m) = true) then (if ((decide (a > (wi ((wi (b + 2000)) + 2)))) = true) then (j false) else i b c a d e f g h) else i b c a d e f g h) else i b c a d e f g h
def Aez : Amd := @A5n @Aa2
def Ay1 (Aez : Amd) (N : Nat) : Aar Aky := fun R x K => Aez N x.1.1 x.1.2.1 x.1.2.2.2.2.1 x.1.2.2.2.2.2.1 x.2.1.1 x.2.1.2.1 x.2.1.2.2.1 x.2.2.1.1 x.2.2.1.2.1 x.2.2.1.2.2.1 x.2.2.1.2.2.2.1 (fun y0 => K .ret (Aab A1d ((y0, ()), (())))) (fun y0 y1 y2 y3 y4 y5 y6 y7 => K .normal (Aab A1e ((y0, (), (), ()), ((y1, y2, y3, ()), (y4, y5, y6, y7, ()), ()))))
def Bic (N : Nat) : Aar Aky := Ay1 @Aez N
def Akh : Aac := ⟨[Alz, wq6, wq8], Cd5⟩
def Azl : Aac := ⟨Bn1, []⟩
def Bf0 : Ac7 := .cons .ret Azl (.nil)
abbrev Bxa (R : Type) := Int->Int->Int->Int->(List UInt8)->Int->Int->Int->(Bool->Option R)->Option R
abbrev Ana := {R : Type} → Nat → Bxa R
def Ad8 : Ana := fun {R} N b c e f g h d i a => if ((c == 24) = true) then (a true) else a (decide ((wi (b - d)) ≥ 2))
def Av2 (Ad8 : Ana) (N : Nat) : Aar Akh := fun R x K => Ad8 N x.1.1 x.2.1.1 x.2.1.2.1 x.2.1.2.2.1 x.2.2.1.1 x.2.2.1.2.1 x.2.2.1.2.2.1 x.2.2.1.2.2.2.1 (fun y0 => K .ret (Aab Azl ((y0, ()), (()))))
def Bf1 (N : Nat) : Aar Akh := Av2 @Ad8 N
def Bda : Aac := ⟨[Bz0, Alz, Cdx, Chy], []⟩
def Ay2 : Aac := ⟨Ahl, []⟩
abbrev B9l (R : Type) := Int->Int->Int->Int->(List UInt8)->Int->Int->Int->Bool->(Bool->Option R)->Option R
abbrev Asj := {R : Type} → Nat → B9l R
def Bdb (Aez : Amd) (Ad8 : Ana) : Asj := fun {R} N a c d e f g h i j b => if ((a == 2) = true) then (Aez N e j a (a == 2) a c d f g h i (fun l => b l) fun m n o p q r s t => Ad8 N m n o p q r s t fun u => b u) else Aez N e j a (a == 3) a c d f g h i (fun v => b v) fun w x y z A B C D => Ad8 N w x y z A B C D fun E => b E
def Afp : Asj := @Bdb @Aez @Ad8
def Cmp (N : Nat) : Abv Bda [Ay2] := fun R x C => Afp N x.1.1.1 x.1.1.2.1 x.1.1.2.2.1 x.1.2.1 x.1.2.2.1.1 x.1.2.2.1.2.1 x.1.2.2.1.2.2.1 x.1.2.2.1.2.2.2.1 x.1.2.2.2.1 (fun y0 => C.1 ((y0, ()), (())))
def Bdc (Afp : Asj) (N : Nat) : Go.AX.Aaj := Acw [true, true, true, true] [] false 4 0 Bda [Ay2] (fun R x C => Afp N x.1.1.1 x.1.1.2.1 x.1.1.2.2.1 x.1.2.1 x.1.2.2.1.1 x.1.2.2.1.2.1 x.1.2.2.1.2.2.1 x.1.2.2.1.2.2.2.1 x.1.2.2.2.1 (fun y0 => C.1 ((y0, ()), (()))))
def Bn5 (N : Nat) : Go.AX.Aaj := Bdc @Afp N
def Cmq (N : Nat) : List (Nat × Acs) := [(8, Aaa Aky (Bic N)), (30, Aaa Akh (Bf1 N))]
def B9m (N : Nat) : List (Nat × Go.AX.Aaj) := [(277, A29 N)]
def Alu : Code := Tryz.f204.body.getD .skip
def Ajh : Aac := ⟨Bs6, A8w⟩
def Aw9 : Aac := ⟨[A8t], []⟩
def Bdd : Ac7 := .cons .ret Aw9 (.nil)
abbrev Btb (R : Type) := Int->Int->Int->(Int->Option R)->Option R
abbrev Ame := {R : Type} → Nat → Btb R
def Adp : Ame := fun {R} N c a d b => b (wi (a + 1))
def Atf (Adp : Ame) (N : Nat) : Aar Ajh := fun R x K => Adp N x.2.1.1 x.2.1.2.1 x.2.1.2.2.1 (fun y0 => K .ret (Aab Aw9 ((y0, ()), (()))))
def Bde (N : Nat) : Aar Ajh := Atf @Adp N
def Aji : Aac := ⟨[Alz, (5, .one (.ptr 32))], [(32, .cells 217 Ch9)]⟩
def Axa : Aac := ⟨[A8t], []⟩
def Bdf : Ac7 := .cons .ret Axa (.nil)
abbrev Btc (R : Type) := Int->(List UInt8)->Int->Int->Int->(Int->Option R)->Option R
abbrev Amf := {R : Type} → Nat → Btc R
def Ad1 : Amf := fun {R} N a e f b c d => d (wi ((wi (a - b)) + c))
def Atg (Ad1 : Amf) (N : Nat) : Aar Aji := fun R x K => Ad1 N x.1.1 x.2.1.1 x.2.1.2.1 x.2.1.2.2.1 x.2.1.2.2.2.1 (fun y0 => K .ret (Aab Axa ((y0, ()), (()))))
def Bdg (N : Nat) : Aar Aji := Atg @Ad1 N
def A9i : Aac := ⟨[Bz0, Alz, Cdx], []⟩
def Av3 : Aac := ⟨Azi, []⟩
abbrev B4w (R : Type) := Int->Int->Int->Int->(List UInt8)->Int->Int->Int->(Int->Option R)->Option R
abbrev Apj := {R : Type} → Nat → B4w R
def A9j (Adp : Ame) (Ad1 : Amf) : Apj := fun {R} N a c d e f g h i b => if ((a == 18) = true) then (b c) else if ((a == 24) = true) then (b (wi (2 + d))) else if ((a == 23) = true) then (Adp N a c d fun j => b j) else if ((a == 28) = true) then (Adp N a c d fun l => b l) else Ad1 N e f g h i fun m => b m
def Ae8 : Apj := @A9j @Adp @Ad1
def Ckz (N : Nat) : Abv A9i [Av3] := fun R x C => Ae8 N x.1.1.1 x.1.1.2.1 x.1.1.2.2.1 x.1.2.1 x.1.2.2.1.1 x.1.2.2.1.2.1 x.1.2.2.1.2.2.1 x.1.2.2.1.2.2.2.1 (fun y0 => C.1 ((y0, ()), (())))
def A9k (Ae8 : Apj) (N : Nat) : Go.AX.Aaj := Acw [true, true, true] [] false 3 0 A9i [Av3] (fun R x C => Ae8 N x.1.1.1 x.1.1.2.1 x.1.1.2.2.1 x.1.2.1 x.1.2.2.1.1 x.1.2.2.1.2.1 x.1.2.2.1.2.2.1 x.1.2.2.1.2.2.2.1 (fun y0 => C.1 ((y0, ()), (()))))
def Blf (N : Nat) : Go.AX.Aaj := A9k @Ae8 N
def Ck0 (N : Nat) : List (Nat × Acs) := [(16, Aaa Ajh (Bde N)), (18, Aaa Aji (Bdg N))]
def B4x (N : Nat) : List (Nat × Go.AX.Aaj) := []
def Anq : Code := Tryz.f205.body.getD .skip
def Ai4 : Aac := ⟨Bzy, []⟩
def Arr : Aac := ⟨Cdt, []⟩
def Bf2 : Ac7 := .cons (.exit 0) Arr (.nil)
abbrev A3m (R : Type) := d2->Int->(Int->Option R)->Option R
abbrev Bf3 (R : Type) := d2->Int->Option R
abbrev Av4 := {R : Type} → Nat → Nat → A3m R
def A3n {R : Type} (N : Nat) (rc : Bf3 R) : A3m R := fun b a c => if (0 ≤ a ∧ a < len b) then (if (((b.getD a.toNat (0, (0, 0))).1 == 19) = true) then (rc b (wi (a + 1))) else c a) else none
def Aeo {R : Type} (N : Nat) : Nat → A3m R
 | 0 => fun _ _ _ => none
 | k + 1 => fun a b c => A3n N (fun a b => Aeo N k a b c) a b c
def A3o (Aeo : Av4) (N k : Nat) : Aar Ai4 := fun R x K => Aeo N k x.1.1 x.1.2.1 (fun y0 => K (.exit 0) (Aab Arr ((y0, ()), (()))))
def A3p (N k : Nat) : Aar Ai4 := A3o @Aeo N k
def A9l : Aac := ⟨Bzy, []⟩
def Av5 : Aac := ⟨Azi, []⟩
abbrev B4y (R : Type) := d2->Int->(Int->Option R)->Option R
abbrev Apk := {R : Type} → Nat → B4y R
def A9m (Aeo : Av4) : Apk := fun {R} N a b c => Aeo N N a b fun d => c d
def Adc : Apk := @A9m @Aeo
def Ck1 (N : Nat) : Abv A9l [Av5] := fun R x C => Adc N x.1.1 x.1.2.1 (fun y0 => C.1 ((y0, ()), (())))
def A9n (Adc : Apk) (N : Nat) : Go.AX.Aaj := Acw [true, true] [] false 2 0 A9l [Av5] (fun R x C => Adc N x.1.1 x.1.2.1 (fun y0 => C.1 ((y0, ()), (()))))
def Blg (N : Nat) : Go.AX.Aaj := A9n @Adc N
def Ck2 (N : Nat) : List (Nat × Acs) := [(3, Aaa Ai4 (A3p N N))]
def B4z (N : Nat) : List (Nat × Go.AX.Aaj) := []
def Ag5 : Aac := ⟨[wq4, (3, .one (.ptr 1000)), (4, .one (.slf 33)), Bkn, (19, .one (.val z4)), (20, .one wq0), (21, .one wq0)], [A22, Bzw, (1000, .row 218 (.pair .str z2))]⟩
def An4 : Aac := ⟨Azf, []⟩
def An5 : Aac := ⟨[], []⟩
def A7l : Ac7 := .cons .ret An4 (.cons (.exit 0) An5 (.nil))
abbrev Axb (R : Type) := Int->d2->Int->Int->(List UInt8)->d3->d2->d1->Int->Int->d0->(List ((List UInt8 × (Int × (Int × Int)))))->(Bool->Option R)->(Option R)->Option R
abbrev Am4 (R : Type) := Int->d2->Int->Int->(List UInt8)->d3->d2->d1->Int->Int->d0->(List ((List UInt8 × (Int × (Int × Int)))))->Option R
abbrev Aqj := {R : Type} → Nat → Nat → Axb R
def Axc (Afp : Asj) (Ae8 : Apj) (Ab0 : Aio) (Adc : Apk) (Abs : Aje) {R : Type} (N : Nat) (rc : Am4 R) : Axb R := fun s e g c h i a j l m f d n L => if ((decide (c < g)) = true) then (if (0 ≤ c ∧ c < len e) then (let b := (e.getD c.toNat (0, (0, 0))).1; let q := (e.getD c.toNat (0, (0, 0))).2.1; let r := (e.getD c.toNat (0, (0, 0))).2.2; if ((0 ≤ b) ∧ (b < 31)) then (if (b < (len d)) then (let t := (d.getD b.toNat (([] : List UInt8), (0, (0, 0)))).1; let u := (d.getD b.toNat (([] : List UInt8), (0, (0, 0)))).2.1; let v := (d.getD b.toNat (([] : List UInt8), (0, (0, 0)))).2.2.1; let w := (d.getD b.toNat (([] : List UInt8), (0, (0, 0)))).2.2.2; if ((decide (c > 0)) = true) then (let D := (wi (c - 1)); if (0 ≤ D ∧ D < len a) then (Afp N b q r s t u v w ((a.getD D.toNat (0, (0, 0))).1 == 19) fun M => if ((!M) = true) then (n false) else if ((0 ≤ b) ∧ (b < 31)) then (if (b < (len d)) then (Ae8 N b q r s t u v w fun o => if ((decide (o < 2)) = true) then (n false) else if ((decide (o > 4000)) = true) then (n false) else Ab0 N b q r fun x => if ((decide (x > 0)) = true) then (if (0 ≤ x ∧ x < len f) then (Adc N a (f.getD x.toNat 0) fun E => if (0 ≤ E ∧ E < len a) then (if ((!(((a.getD E.toNat (0, (0, 0))).1 == 28) == (b == 27))) = true) then (n false) else if ((b != 19) = true) then (Abs N a c fun O => if ((!O) = true) then (let y := (wi (c + 1)); if ((decide (y < (len a))) = true) then (Adc N a y fun F => if (0 ≤ F ∧ F < len a) then (if (((a.getD F.toNat (0, (0, 0))).1 == 28) = true) then (n false) else rc o e g y h i a j l m f d) else none) else rc o e g y h i a j l m f d) else rc o e g (wi (c + 1)) h i a j l m f d) else rc o e g (wi (c + 1)) h i a j l m f d) else none) else none) else if ((b != 19) = true) then (Abs N a c fun P => if ((!P) = true) then (let z := (wi (c + 1)); if ((decide (z < (len a))) = true) then (Adc N a z fun G => if (0 ≤ G ∧ G < len a) then (if (((a.getD G.toNat (0, (0, 0))).1 == 28) = true) then (n false) else rc o e g z h i a j l m f d) else none) else rc o e g z h i a j l m f d) else rc o e g (wi (c + 1)) h i a j l m f d) else rc o e g (wi (c + 1)) h i a j l m f d) else none) else none) else none) else Afp N b q r s t u v w false fun Q => if ((!Q) = true) then (n false) else if ((0 ≤ b) ∧ (b < 31)) then (if (b < (len d)) then (Ae8 N b q r s t u v w fun p => if ((decide (p < 2)) = true) then (n false) else if ((decide (p > 4000)) = true) then (n false) else Ab0 N b q r fun A => if ((decide (A > 0)) = true) then (if (0 ≤ A ∧ A < len f) then (Adc N a (f.getD A.toNat 0) fun H => if (0 ≤ H ∧ H < len a) then (if ((!(((a.getD H.toNat (0, (0, 0))).1 == 28) == (b == 27))) = true) then (n false) else if ((b != 19) = true) then (Abs N a c fun S => if ((!S) = true) then (let B := (wi (c + 1)); if ((decide (B < (len a))) = true) then (Adc N a B fun I => if (0 ≤ I ∧ I < len a) then (if (((a.getD I.toNat (0, (0, 0))).1 == 28) = true) then (n false) else rc p e g B h i a j l m f d) else none) else rc p e g B h i a j l m f d) else rc p e g (wi (c + 1)) h i a j l m f d) else rc p e g (wi (c + 1)) h i a j l m f d) else none) else none) else if ((b != 19) = true) then (Abs N a c fun T => if ((!T) = true) then (let C := (wi (c + 1)); if ((decide (C < (len a))) = true) then (Adc N a C fun J => if (0 ≤ J ∧ J < len a) then (if (((a.getD J.toNat (0, (0, 0))).1 == 28) = true) then (n false) else rc p e g C h i a j l m f d) else none) else rc p e g C h i a j l m f d) else rc p e g (wi (c + 1)) h i a j l m f d) else rc p e g (wi (c + 1)) h i a j l m f d) else none) else none) else none) else none) else none) else L
def Ac6 {R : Type} (N : Nat) : Nat → Axb R
 | 0 => fun _ _ _ _ _ _ _ _ _ _ _ _ _ _ => none
 | k + 1 => fun a b c d e f g h i j l m n o => Axc @Afp @Ae8 @Ab0 @Adc @Abs N (fun a b c d e f g h i j l m => Ac6 N k a b c d e f g h i j l m n o) a b c d e f g h i j l m n o
def Axd (Ac6 : Aqj) (N k : Nat) : Aar Ag5 := fun R x K => Ac6 N k x.1.2.2.2.1 x.1.2.2.2.2.1 x.1.2.2.2.2.2.1 x.1.2.2.2.2.2.2.1 x.2.1.1 x.2.1.2.1 x.2.1.2.2.1 x.2.1.2.2.2.1 x.2.1.2.2.2.2.1 x.2.1.2.2.2.2.2.1 x.2.2.1 x.2.2.2.1 (fun y0 => K .ret (Aab An4 ((y0, ()), (())))) (K (.exit 0) (Aab An5 ((()), (()))))
def Axe (N k : Nat) : Aar Ag5 := Axd @Ac6 N k
def A3q : Aac := ⟨A21, []⟩
def Ars : Aac := ⟨Ahl, []⟩
abbrev Bxb (R : Type) := (List UInt8)->d3->d2->d1->Int->Int->(Bool->Option R)->Option R
abbrev Aqk := {R : Type} → Nat → Bxb R
def A3r (Acg : Ajv) (Abt : Ahv) (Ac6 : Aqj) : Aqk := fun {R} N b c a d e f g => Acg N fun h i j l m n o p q r s t u v w x y z A B C D E F G H I J L M O P Q S T U V W X Y Z aa ab ac ad ae af ag ah ai aj ak al am an ao ap aq ar au av aw ax ay az ba bb bc bd be bf bg bh bi bj bk bl bm bn bo bp bq br bs bt bu bv bw bx bz ca cb cc cd ce cf cg ch ci cj ck cl cm cn co cp cq cr cs ct cu cv cw cx cy cz da db dc dd de df dg dh => Abt N b c a d e f fun dk di dl => Ac6 N N 0 a (len a) 0 b c a d e f di ((h, (i, (j, l))) :: ((m, (n, (o, p))) :: ((q, (r, (s, t))) :: ((u, (v, (w, x))) :: ((y, (z, (A, B))) :: ((C, (D, (E, F))) :: ((G, (H, (I, J))) :: ((L, (M, (O, P))) :: ((Q, (S, (T, U))) :: ((V, (W, (X, Y))) :: ((Z, (aa, (ab, ac))) :: ((ad, (ae, (af, ag))) :: ((ah, (ai, (aj, ak))) :: ((al, (am, (an, ao))) :: ((ap, (aq, (ar, au))) :: ((av, (aw, (ax, ay))) :: ((az, (ba, (bb, bc))) :: ((bd, (be, (bf, bg))) :: ((bh, (bi, (bj, bk))) :: ((bl, (bm, (bn, bo))) :: ((bp, (bq, (br, bs))) :: ((bt, (bu, (bv, bw))) :: ((bx, (bz, (ca, cb))) :: ((cc, (cd, (ce, cf))) :: ((cg, (ch, (ci, cj))) :: ((ck, (cl, (cm, cn))) :: ((co, (cp, (cq, cr))) :: ((cs, (ct, (cu, cv))) :: ((cw, (cx, (cy, cz))) :: ((da, (db, (dc, dd))) :: ((de, (df, (dg, dh))) :: ([] : List (List UInt8 × Int × Int × Int))))))))))))))))))))))))))))))))) (fun dj => g dj) (g true)
def Ag0 : Aqk := @A3r @Acg @Abt @Ac6
def Ciy (N : Nat) : Abv A3q [Ars] := fun R x C => Ag0 N x.1.1.1 x.1.1.2.1 x.1.1.2.2.1 x.1.1.2.2.2.1 x.1.1.2.2.2.2.1 x.1.1.2.2.2.2.2.1 (fun y0 => C.1 ((y0, ()), (())))
def Bf4 (Ag0 : Aqk) (N : Nat) : Go.AX.Aaj := Acw [true] [] false 1 0 A3q [Ars] (fun R x C => Ag0 N x.1.1.1 x.1.1.2.1 x.1.1.2.2.1 x.1.1.2.2.2.1 x.1.1.2.2.2.2.1 x.1.1.2.2.2.2.2.1 (fun y0 => C.1 ((y0, ()), (()))))
def Bf5 (N : Nat) : Go.AX.Aaj := Bf4 @Ag0 N
def Ciz (N : Nat) : List (Nat × Acs) := [(11, Aaa Ag5 (Axe N N))]
def Bxc (N : Nat) : List (Nat × Go.AX.Aaj) := [(197, A86 N), (199, A5m N), (203, Bn5 N), (204, Blf N), (202, A9f N), (205, Blg N), (206, Bcz N)]
def A9o : Aac := ⟨A21, []⟩
def Av6 : Aac := ⟨Azi, []⟩
abbrev B40 (R : Type) := (List UInt8)->d3->d2->d1->Int->Int->(Int->Option R)->Option R
abbrev Anr := {R : Type} → Nat → B40 R
def A9p (Aiu : Auq) (Aiv : Auw) (Ag0 : Aqk) : Anr := fun {R} N b c d e f g a => Aiu N b c d e f g fun h => if (h = true) then (a 2) else Aiv N b c d e f g fun i => if ((!i) = true) then (a 60) else Ag0 N b c d e f g fun j => if ((!j) = true) then (a 61) else a 0
def Ae9 : Anr := @A9p @Aiu @Aiv @Ag0
def Ck3 (N : Nat) : Abv A9o [Av6] := fun R x C => Ae9 N x.1.1.1 x.1.1.2.1 x.1.1.2.2.1 x.1.1.2.2.2.1 x.1.1.2.2.2.2.1 x.1.1.2.2.2.2.2.1 (fun y0 => C.1 ((y0, ()), (())))
def A0b (Ae9 : Anr) (N : Nat) : Go.AX.Aaj := Acw [true] [] false 1 0 A9o [Av6] (fun R x C => Ae9 N x.1.1.1 x.1.1.2.1 x.1.1.2.2.1 x.1.1.2.2.2.1 x.1.1.2.2.2.2.1 x.1.1.2.2.2.2.2.1 (fun y0 => C.1 ((y0, ()), (()))))
def Blh (N : Nat) : Go.AX.Aaj := A0b @Ae9 N
def Ck4 (N : Nat) : List (Nat × Acs) := []
def B41 (N : Nat) : List (Nat × Go.AX.Aaj) := [(132, Bk6 N), (133, Ble N), (134, Bf5 N)]
def Bid : Code := Tryz.f39.body.getD .skip
def Az0 : Code := Tryz.f40.body.getD .skip
def Ans : Aac := ⟨[wq9, Alz, B9b, (10, .one (.val .bool))], []⟩
def A3s : Aac := ⟨A5j, []⟩
def A3t : Aac := ⟨[], []⟩
def Bli : Ac7 := .cons .ret A3s (.cons .normal A3t (.nil))
abbrev B42 (R : Type) := d4->Int->Int->Bool->(Bool->Option R)->(Option R)->Option R
abbrev Aux := {R : Type} → Nat → B42 R
def Agv : Aux := fun {R} N a b e f c g => if (f = true) then (c true) else if ((e == 14) = true) then (if (0 ≤ b ∧ b < len a) then (c ((a.getD b.toNat (0, (0, (0, (0, 0))))).2.2.1 == 0)) else none) else if ((e == 15) = true) then (let d := (wi (b + 1)); if ((d == (len a)) = true) then (c true) else if (0 ≤ d ∧ d < len a) then (c ((a.getD d.toNat (0, (0, (0, (0, 0))))).1 != 15)) else none) else g
def A9q (Agv : Aux) (N : Nat) : Aar Ans := fun R x K => Agv N x.1.1 x.1.2.1 x.1.2.2.1 x.1.2.2.2.1 (fun y0 => K .ret (Aab A3s ((y0, ()), (())))) (K .normal (Aab A3t ((()), (()))))
def Blj (N : Nat) : Aar Ans := A9q @Agv N
def Bhe : Aac := ⟨[wq9, Alz], []⟩
def A0c : Aac := ⟨Ahl, []⟩
abbrev Caw (R : Type) := d4->Int->(Bool->Option R)->Option R
abbrev Az1 := {R : Type} → Nat → Caw R
def Bhf (Agv : Aux) : Az1 := fun {R} N c a d => if (0 ≤ a ∧ a < len c) then (let b := (c.getD a.toNat (0, (0, (0, (0, 0))))).1; if ((b == 9) = true) then (Agv N c a b (b == 9) (fun e => d e) (d false)) else Agv N c a b (b == 13) (fun f => d f) (d false)) else none
def Akz : Az1 := @Bhf @Agv
def Cnc (N : Nat) : Abv Bhe [A0c] := fun R x C => Akz N x.1.1 x.1.2.1 (fun y0 => C.1 ((y0, ()), (())))
def Bse (Akz : Az1) (N : Nat) : Go.AX.Aaj := Acw [true, true] [] false 2 0 Bhe [A0c] (fun R x C => Akz N x.1.1 x.1.2.1 (fun y0 => C.1 ((y0, ()), (()))))
def Bsf (N : Nat) : Go.AX.Aaj := Bse @Akz N
def Cnd (N : Nat) : List (Nat × Acs) := [(8, Aaa Ans (Blj N))]
def Cax (N : Nat) : List (Nat × Go.AX.Aaj) := []
def A5o : Aac := ⟨[Cdo, wq2], Bn2⟩
def Ath : Aac := ⟨Ahl, Bn2⟩
abbrev Bz4 (R : Type) := Int->(List UInt8)->d3->d1->d2->d4->(Bool->(List UInt8)->d3->d1->d2->d4->Option R)->Option R
abbrev Ak0 := {R : Type} → Nat → Bz4 R
def Ay3 (Akz : Az1) : Ak0 := fun {R} N b c d e f a g => Akz N a b fun h => g h c d e f a
def Adg : Ak0 := @Ay3 @Akz
def Cj0 (N : Nat) : Abv A5o [Ath] := fun R x C => Adg N x.1.1 x.2.1.1 x.2.1.2.1 x.2.1.2.2.1 x.2.1.2.2.2.1 x.2.1.2.2.2.2.1 (fun y0 y1 y2 y3 y4 y5 => C.1 ((y0, ()), ((y1, y2, y3, y4, y5, ()), ())))
def Ay4 (Adg : Ak0) (N : Nat) : Go.AX.Aaj := Acw [true] [] false 2 1 A5o [Ath] (fun R x C => Adg N x.1.1 x.2.1.1 x.2.1.2.1 x.2.1.2.2.1 x.2.1.2.2.2.1 x.2.1.2.2.2.2.1 (fun y0 y1 y2 y3 y4 y5 => C.1 ((y0, ()), ((y1, y2, y3, y4, y5, ()), ()))))
def Bie (N : Nat) : Go.AX.Aaj := Ay4 @Adg N
def Cj1 (N : Nat) : List (Nat × Acs) := []
def Bz5 (N : Nat) : List (Nat × Go.AX.Aaj) := [(40, Bsf N)]
def Bif : Code := Tryz.f41.body.getD .skip
def A5p : Aac := ⟨[Cdo, wq2], Bn2⟩
def Ati : Aac := ⟨Ahl, Bn2⟩
abbrev Bz6 (R : Type) := Int->(List UInt8)->d3->d1->d2->d4->(Bool->(List UInt8)->d3->d1->d2->d4->Option R)->Option R
abbrev Aoi := {R : Type} → Nat → Bz6 R
def Ae0 : Aoi := fun {R} N a c d e f b g => if (0 ≤ a ∧ a < len b) then (g ((b.getD a.toNat (0, (0, (0, (0, 0))))).1 == 15) c d e f b) else none
def Bz7 (N : Nat) : Abv A5p [Ati] := fun R x C => Ae0 N x.1.1 x.2.1.1 x.2.1.2.1 x.2.1.2.2.1 x.2.1.2.2.2.1 x.2.1.2.2.2.2.1 (fun y0 y1 y2 y3 y4 y5 => C.1 ((y0, ()), ((y1, y2, y3, y4, y5, ()), ())))
def Ay5 (Ae0 : Aoi) (N : Nat) : Go.AX.Aaj := Acw [true] [] false 2 1 A5p [Ati] (fun R x C => Ae0 N x.1.1 x.2.1.1 x.2.1.2.1 x.2.1.2.2.1 x.2.1.2.2.2.1 x.2.1.2.2.2.2.1 (fun y0 y1 y2 y3 y4 y5 => C.1 ((y0, ()), ((y1, y2, y3, y4, y5, ()), ()))))
def Big (N : Nat) : Go.AX.Aaj := Ay5 @Ae0 N
def Bz8 (N : Nat) : List (Nat × Acs) := []
def Bih (N : Nat) : List (Nat × Go.AX.Aaj) := []
def Ahy : Aac := ⟨[Cdk, Cdl, wq5, (68, .one (.val z4)), (69, .one wq0), (70, .one wq0)], [Cdv, Bs7]⟩
def Art : Aac := ⟨[Chw, Cdj], Bn2⟩
def Aru : Aac := ⟨[], Bn2⟩
def Bf6 : Ac7 := .cons .ret Art (.cons (.exit 3) Aru (.nil))
abbrev A3u (R : Type) := d2->Int->Int->(List UInt8)->d3->d1->d2->d4->(List UInt8)->d3->d1->d2->d4->(Bool->Bool->(List UInt8)->d3->d1->d2->d4->Option R)->((List UInt8)->d3->d1->d2->d4->Option R)->Option R
abbrev Bf7 (R : Type) := d2->Int->Int->(List UInt8)->d3->d1->d2->d4->(List UInt8)->d3->d1->d2->d4->Option R
abbrev Aql := {R : Type} → Nat → Nat → A3u R
def A3v (Ae0 : Aoi) (Adg : Ak0) {R : Type} (N : Nat) (rc : Bf7 R) : A3u R := fun h p a j l m n o r s t u q b C => if ((decide (a < p)) = true) then (if (0 ≤ a ∧ a < len h) then (let i := (h.getD a.toNat (0, (0, 0))).1; let v := (h.getD a.toNat (0, (0, 0))).2.1; let w := (h.getD a.toNat (0, (0, 0))).2.2; if ((decide (i < 0)) = true) then (b false false j l m n o) else if ((decide (i ≥ (len q))) = true) then (b false false j l m n o) else Ae0 N i j l m n o fun D c d e f g => if (D = true) then (b false false c d e f g) else if ((decide (v < 0)) = true) then (b false false c d e f g) else if ((decide (v > 8)) = true) then (b false false c d e f g) else if ((decide (w < 2)) = true) then (b false false c d e f g) else if ((decide (w > 4001)) = true) then (b false false c d e f g) else if ((decide (i > 0)) = true) then (Adg N (wi (i - 1)) c d e f g fun E x y z A B => if ((!E) = true) then (b false false x y z A B) else rc h p (wi (a + 1)) x y z A B r s t u q) else rc h p (wi (a + 1)) c d e f g r s t u q) else none) else C j l m n o
def Adk {R : Type} (N : Nat) : Nat → A3u R
 | 0 => fun _ _ _ _ _ _ _ _ _ _ _ _ _ _ _ => none
 | k + 1 => fun a b c d e f g h i j l m n o p => A3v @Ae0 @Adg N (fun a b c d e f g h i j l m n => Adk N k a b c d e f g h i j l m n o p) a b c d e f g h i j l m n o p
def Av7 (Adk : Aql) (N k : Nat) : Aar Ahy := fun R x K => Adk N k x.1.2.2.2.1 x.1.2.2.2.2.1 x.1.2.2.2.2.2.1 x.2.1.1 x.2.1.2.1 x.2.1.2.2.1 x.2.1.2.2.2.1 x.2.1.2.2.2.2.1 x.2.2.1.1 x.2.2.1.2.1 x.2.2.1.2.2.1 x.2.2.1.2.2.2.1 x.2.2.1.2.2.2.2.1 (fun y0 y1 y2 y3 y4 y5 y6 => K .ret (Aab Art ((y0, y1, ()), ((y2, y3, y4, y5, y6, ()), ())))) (fun y0 y1 y2 y3 y4 => K (.exit 3) (Aab Aru ((()), ((y0, y1, y2, y3, y4, ()), ()))))
def A3w (N k : Nat) : Aar Ahy := Av7 @Adk N k
def Bdh : Aac := ⟨[Bzz, Cdk, Cdl], Bn2⟩
def Ay6 : Aac := ⟨[Cmd, (1, .one (.val .bool))], Bn2⟩
abbrev B9n (R : Type) := (List UInt8)->d3->d1->d2->d4->(List UInt8)->d3->d1->d2->d4->(Bool->Bool->(List UInt8)->d3->d1->d2->d4->Option R)->Option R
abbrev Ask := {R : Type} → Nat → B9n R
def Bdi (Adi : Ap0) (Ae9 : Anr) (Adg : Ak0) (Adk : Aql) : Ask := fun {R} N p q r c s j l m n o a => if ((decide ((len s) > 32000)) = true) then (a true false j l m n o) else if ((decide ((len c) > 200)) = true) then (a true false j l m n o) else Adi N N (len c) 0 j l m n o p q r c s p q r (len c) 0 ([] : List (Int × Int × Int)) fun d e f g h t u v b i C D E F G H => Ae9 N C D H E F G fun w => if ((w == 2) = true) then (a true false d e f g h) else if ((w == 60) = true) then (a false false d e f g h) else if ((decide ((len i) > 0)) = true) then (Adg N (wi ((len i) - 1)) d e f g h fun I x y z A B => if ((!I) = true) then (a false false x y z A B) else Adk N N b (len b) 0 x y z A B t u v b i (fun J L M O P Q S => a J L M O P Q S) fun T U V W X => a false true T U V W X) else Adk N N b (len b) 0 d e f g h t u v b i (fun Y Z aa ab ac ad ae => a Y Z aa ab ac ad ae) fun af ag ah ai aj => a false true af ag ah ai aj
def Ahn : Ask := @Bdi @Adi @Ae9 @Adg @Adk
def Cmr (N : Nat) : Abv Bdh [Ay6] := fun R x C => Ahn N x.1.1.1 x.1.1.2.1 x.1.1.2.2.1 x.1.1.2.2.2.1 x.1.1.2.2.2.2.1 x.2.1.1 x.2.1.2.1 x.2.1.2.2.1 x.2.1.2.2.2.1 x.2.1.2.2.2.2.1 (fun y0 y1 y2 y3 y4 y5 y6 => C.1 ((y0, y1, ()), ((y2, y3, y4, y5, y6, ()), ())))
def Bdj (Ahn : Ask) (N : Nat) : Go.AX.Aaj := Acw [true, true, true] [] false 3 1 Bdh [Ay6] (fun R x C => Ahn N x.1.1.1 x.1.1.2.1 x.1.1.2.2.1 x.1.1.2.2.2.1 x.1.1.2.2.2.2.1 x.2.1.1 x.2.1.2.1 x.2.1.2.2.1 x.2.1.2.2.2.1 x.2.1.2.2.2.2.1 (fun y0 y1 y2 y3 y4 y5 y6 => C.1 ((y0, y1, ()), ((y2, y3, y4, y5, y6, ()), ()))))
def Bn6 (N : Nat) : Go.AX.Aaj := Bdj @Ahn N
def Cms (N : Nat) : List (Nat × Acs) := [(11, Aaa Ahw (A24 N N)), (35, Aaa Ahy (A3w N N))]
def B9o (N : Nat) : List (Nat × Go.AX.Aaj) := [(77, Blh N), (39, Bie N), (41, Big N)]
def Bn7 : Code := Tryz.f42.body.getD .skip
def Bdk : Aac := ⟨B9g, []⟩
def Ay7 : Aac := ⟨[(0, .one (.ptr 32))], [(32, .cells 72 [(.val .str), (.val z3), (.val z1), (.val z4), (.val z6), (.mp 33)]), (33, .fmap 70 .i64 [(3 : Int), (4 : Int), (5 : Int), (13 : Int), (38 : Int), (39 : Int), (1 : Int), (6 : Int), (7 : Int), (8 : Int), (21 : Int), (22 : Int), (23 : Int), (24 : Int), (25 : Int), (26 : Int), (27 : Int), (28 : Int), (29 : Int), (30 : Int), (31 : Int), (32 : Int), (33 : Int), (34 : Int), (35 : Int), (36 : Int), (37 : Int), (9 : Int), (10 : Int), (11 : Int), (2 : Int), (12 : Int), (14 : Int), (15 : Int)] [(.fn 78), (.fn 78), (.fn 78), (.fn 78), (.fn 78), (.fn 78), (.fnp 79 [34]), (.fnp 79 [34]), (.fnp 79 [34]), (.fnp 79 [34]), (.fnp 79 [34]), (.fnp 79 [34]), (.fnp 79 [34]), (.fnp 79 [34]), (.fnp 79 [34]), (.fnp 79 [34]), (.fnp 79 [34]), (.fnp 79 [34]), (.fnp 79 [34]), (.fnp 79 [34]), (.fnp 79 [34]), (.fnp 79 [34]), (.fnp 79 [34]), (.fnp 79 [34]), (.fnp 79 [34]), (.fnp 79 [34]), (.fnp 79 [34]), (.fnp 81 [34]), (.fnp 81 [34]), (.fnp 81 [34]), (.fnp 83 [35]), (.fn 84), (.fnp 85 [34]), (.fnp 86 [34])]), (34, .cells 67 [(.ptr 32)]), (35, .cells 69 [(.fnp 79 [34])])]⟩
abbrev B9p (R : Type) := (List UInt8)->d3->d1->d2->d4->((List UInt8)->d3->d1->d2->d4->Option R)->Option R
abbrev Axf := {R : Type} → Nat → B9p R
def Ah8 : Axf := fun {R} N a b c d e f => f a b c d e
def B9q (N : Nat) : Abv Bdk [Ay7] := fun R x C => Ah8 N x.1.1.1 x.1.1.2.1 x.1.1.2.2.1 x.1.1.2.2.2.1 x.1.1.2.2.2.2.1 (fun y0 y1 y2 y3 y4 => C.1 (((), ()), ((y0, y1, y2, y3, y4, (), ()), ((), (), (), (), (), (), (), (), (), (), (), (), (), (), (), (), (), (), (), (), (), (), (), (), (), (), (), (), (), (), (), (), (), (), ()), ((), ()), ((), ()), ())))
def Bdl (Ah8 : Axf) (N : Nat) : Go.AX.Aaj := Acw [true] [] false 1 0 Bdk [Ay7] (fun R x C => Ah8 N x.1.1.1 x.1.1.2.1 x.1.1.2.2.1 x.1.1.2.2.2.1 x.1.1.2.2.2.2.1 (fun y0 y1 y2 y3 y4 => C.1 (((), ()), ((y0, y1, y2, y3, y4, (), ()), ((), (), (), (), (), (), (), (), (), (), (), (), (), (), (), (), (), (), (), (), (), (), (), (), (), (), (), (), (), (), (), (), (), (), ()), ((), ()), ((), ()), ()))))
def Bn8 (N : Nat) : Go.AX.Aaj := Bdl @Ah8 N
def B9r (N : Nat) : List (Nat × Acs) := []
def Bn9 (N : Nat) : List (Nat × Go.AX.Aaj) := []
def Bii : Code := Tryz.f78.body.getD .skip
def A5q : Aac := ⟨Cd2, []⟩
def Atj : Aac := ⟨Ahl, []⟩
abbrev Bz9 (R : Type) := Int->Int->Int->Int->Int->(Bool->Option R)->Option R
abbrev Asl := {R : Type} → Nat → Bz9 R
def Adt : Asl := fun {R} N e b c d f a => if ((b == 0) = true) then (if ((c == 0) = true) then (a (d == 0)) else a false) else a false
def B0a (N : Nat) : Abv A5q [Atj] := fun R x C => Adt N x.1.1.1 x.1.1.2.1 x.1.1.2.2.1 x.1.1.2.2.2.1 x.1.1.2.2.2.2.1 (fun y0 => C.1 ((y0, ()), (())))
def A5r (Adt : Asl) (N : Nat) : Go.AX.Aaj := Acw [true] [] false 1 0 A5q [Atj] (fun R x C => Adt N x.1.1.1 x.1.1.2.1 x.1.1.2.2.1 x.1.1.2.2.2.1 x.1.1.2.2.2.2.1 (fun y0 => C.1 ((y0, ()), (()))))
def Bij (N : Nat) : Go.AX.Aaj := A5r @Adt N
def B0b (N : Nat) : List (Nat × Acs) := []
def Bik (N : Nat) : List (Nat × Go.AX.Aaj) := []
def Bil : Code := Tryz.f79.body.getD .skip
def A7m : Code := Tryz.f80.body.getD .skip
def Akj : Code := Tryz.f135.body.getD .skip
def Aj2 : Aac := ⟨[A20, wq5, Bkn, (34, .one (.val .bool))], A8v⟩
def A1f : Aac := ⟨Cdm, []⟩
def A1g : Aac := ⟨[], []⟩
def Bim : Ac7 := .cons .ret A1f (.cons .normal A1g (.nil))
abbrev B0c (R : Type) := Int->Int->Bool->(List UInt8)->d3->d1->d2->d4->(Bool->Option R)->(Option R)->Option R
abbrev Amg := {R : Type} → Nat → B0c R
def Adu : Amg := fun {R} N a c d h e i f j b g => if (d = true) then (if ((decide (a ≥ 0)) = true) then (b (decide (a < (len e)))) else b false) else if ((c == 7) = true) then (if ((decide (a ≥ 1)) = true) then (b (decide (a ≤ (len f)))) else b false) else g
def Asm (Adu : Amg) (N : Nat) : Aar Aj2 := fun R x K => Adu N x.1.1 x.1.2.2.1 x.1.2.2.2.1 x.2.1.1 x.2.1.2.1 x.2.1.2.2.1 x.2.1.2.2.2.1 x.2.1.2.2.2.2.1 (fun y0 => K .ret (Aab A1f ((y0, ()), (())))) (K .normal (Aab A1g ((()), (()))))
def Bin (N : Nat) : Aar Aj2 := Asm @Adu N
def Aj3 : Aac := ⟨[A20, wq5, Bkn, (25, .one (.val .bool))], A8v⟩
def A1h : Aac := ⟨Cdm, []⟩
def A1i : Aac := ⟨[], []⟩
def Bio : Ac7 := .cons .ret A1h (.cons .normal A1i (.nil))
abbrev B0d (R : Type) := Int->Int->Bool->(List UInt8)->d3->d1->d2->d4->(Bool->Option R)->(Option R)->Option R
abbrev Ak1 := {R : Type} → Nat → B0d R
def A5s (Adu : Amg) : Ak1 := fun {R} N b a j d e f g h c i => if (j = true) then (if ((decide (b ≥ 0)) = true) then (c (decide (b < 200))) else c false) else if ((a == 3) = true) then (Adu N b a (a == 3) d e f g h (fun l => c l) i) else Adu N b a (a == 6) d e f g h (fun m => c m) i
def Ad5 : Ak1 := @A5s @Adu
def Asn (Ad5 : Ak1) (N : Nat) : Aar Aj3 := fun R x K => Ad5 N x.1.1 x.1.2.2.1 x.1.2.2.2.1 x.2.1.1 x.2.1.2.1 x.2.1.2.2.1 x.2.1.2.2.2.1 x.2.1.2.2.2.2.1 (fun y0 => K .ret (Aab A1h ((y0, ()), (())))) (K .normal (Aab A1i ((()), (()))))
def Bip (N : Nat) : Aar Aj3 := Asn @Ad5 N
def Aj4 : Aac := ⟨[A20, wq5, Bkn, (16, .one (.val .bool))], A8v⟩
def A1j : Aac := ⟨Cdm, []⟩
def A1k : Aac := ⟨[], []⟩
def Biq : Ac7 := .cons .ret A1j (.cons .normal A1k (.nil))
abbrev B0e (R : Type) := Int->Int->Bool->(List UInt8)->d3->d1->d2->d4->(Bool->Option R)->(Option R)->Option R
abbrev Ak2 := {R : Type} → Nat → B0e R
def A5t (Ad5 : Ak1) : Ak2 := fun {R} N b a j d e f g h c i => if (j = true) then (if ((decide (b ≥ 0)) = true) then (c (decide (b ≤ 4000))) else c false) else if ((a == 2) = true) then (Ad5 N b a (a == 2) d e f g h (fun l => c l) i) else Ad5 N b a (a == 5) d e f g h (fun m => c m) i
def Ad6 : Ak2 := @A5t @Ad5
def Aso (Ad6 : Ak2) (N : Nat) : Aar Aj4 := fun R x K => Ad6 N x.1.1 x.1.2.2.1 x.1.2.2.2.1 x.2.1.1 x.2.1.2.1 x.2.1.2.2.1 x.2.1.2.2.2.1 x.2.1.2.2.2.2.1 (fun y0 => K .ret (Aab A1j ((y0, ()), (())))) (K .normal (Aab A1k ((()), (()))))
def Bir (N : Nat) : Aar Aj4 := Aso @Ad6 N
def Bhg : Aac := ⟨[Bzz, Alz, A20], []⟩
def A0d : Aac := ⟨Ahl, []⟩
abbrev Cay (R : Type) := (List UInt8)->d3->d1->d2->d4->Int->Int->(Bool->Option R)->Option R
abbrev Az2 := {R : Type} → Nat → Cay R
def Bhh (Ad6 : Ak2) : Az2 := fun {R} N d e f g h a c b => if ((a == 0) = true) then (if ((decide (c ≥ (-2147483648))) = true) then (b (decide (c ≤ 2147483647))) else b false) else if ((a == 1) = true) then (Ad6 N c a (a == 1) d e f g h (fun i => b i) (b false)) else Ad6 N c a (a == 4) d e f g h (fun j => b j) (b false)
def Ak3 : Az2 := @Bhh @Ad6
def Cne (N : Nat) : Abv Bhg [A0d] := fun R x C => Ak3 N x.1.1.1 x.1.1.2.1 x.1.1.2.2.1 x.1.1.2.2.2.1 x.1.1.2.2.2.2.1 x.1.2.1 x.1.2.2.1 (fun y0 => C.1 ((y0, ()), (())))
def Bsg (Ak3 : Az2) (N : Nat) : Go.AX.Aaj := Acw [true, true, true] [] false 3 0 Bhg [A0d] (fun R x C => Ak3 N x.1.1.1 x.1.1.2.1 x.1.1.2.2.1 x.1.1.2.2.2.1 x.1.1.2.2.2.2.1 x.1.2.1 x.1.2.2.1 (fun y0 => C.1 ((y0, ()), (()))))
def Bsh (N : Nat) : Go.AX.Aaj := Bsg @Ak3 N
def Cnf (N : Nat) : List (Nat × Acs) := [(24, Aaa Aj2 (Bin N)), (18, Aaa Aj3 (Bip N)), (12, Aaa Aj4 (Bir N))]
def Caz (N : Nat) : List (Nat × Go.AX.Aaj) := []
def Axg : Aac := ⟨[wq1, (1, .agg B7c)], B7d⟩
def An6 : Aac := ⟨Ahl, B7d⟩
abbrev Boa (R : Type) := Int->Int->Int->Int->Int->(List UInt8)->d3->d1->d2->d4->(Bool->(List UInt8)->d3->d1->d2->d4->Option R)->Option R
abbrev Am5 := {R : Type} → Nat → Boa R
def Axh (Ak3 : Az2) : Am5 := fun {R} N j f g l m a b c d e h => Ak3 N a b c d e f g fun i => h i a b c d e
def Afv : Am5 := @Axh @Ak3
def Cf2 (N : Nat) : Abv Axg [An6] := fun R x C => Afv N x.1.2.1.1 x.1.2.1.2.1 x.1.2.1.2.2.1 x.1.2.1.2.2.2.1 x.1.2.1.2.2.2.2.1 x.2.1.1 x.2.1.2.1 x.2.1.2.2.1 x.2.1.2.2.2.1 x.2.1.2.2.2.2.1 (fun y0 y1 y2 y3 y4 y5 => C.1 ((y0, ()), ((y1, y2, y3, y4, y5, (), ()), ((), (), (), (), (), (), (), (), (), (), (), (), (), (), (), (), (), (), (), (), (), (), (), (), (), (), (), (), (), (), (), (), (), (), ()), ((), ()), ((), ()), ())))
def A7n (Afv : Am5) (N : Nat) : Go.AX.Aaj := Acw [false, true] [] false 2 4 Axg [An6] (fun R x C => Afv N x.1.2.1.1 x.1.2.1.2.1 x.1.2.1.2.2.1 x.1.2.1.2.2.2.1 x.1.2.1.2.2.2.2.1 x.2.1.1 x.2.1.2.1 x.2.1.2.2.1 x.2.1.2.2.2.1 x.2.1.2.2.2.2.1 (fun y0 y1 y2 y3 y4 y5 => C.1 ((y0, ()), ((y1, y2, y3, y4, y5, (), ()), ((), (), (), (), (), (), (), (), (), (), (), (), (), (), (), (), (), (), (), (), (), (), (), (), (), (), (), (), (), (), (), (), (), (), ()), ((), ()), ((), ()), ()))))
def A7o (N : Nat) : Go.AX.Aaj := A7n @Afv N
def Cf3 (N : Nat) : List (Nat × Acs) := []
def Bob (N : Nat) : List (Nat × Go.AX.Aaj) := [(135, Bsh N)]
def A5u : Aac := ⟨Bw2, Bfo⟩
def Atk : Aac := ⟨Ahl, Bfo⟩
abbrev B0f (R : Type) := Int->Int->Int->Int->Int->(List UInt8)->d3->d1->d2->d4->(Bool->(List UInt8)->d3->d1->d2->d4->Option R)->Option R
abbrev Ak4 := {R : Type} → Nat → B0f R
def A5v (Afv : Am5) : Ak4 := fun {R} N h i j a l m n o p q b => Afv N h i j a l m n o p q fun r c d e f g => if (r = true) then (b (a == 0) c d e f g) else b false c d e f g
def Aay : Ak4 := @A5v @Afv
def Cj2 (N : Nat) : Abv A5u [Atk] := fun R x C => Aay N x.1.1.1 x.1.1.2.1 x.1.1.2.2.1 x.1.1.2.2.2.1 x.1.1.2.2.2.2.1 x.2.2.1.1 x.2.2.1.2.1 x.2.2.1.2.2.1 x.2.2.1.2.2.2.1 x.2.2.1.2.2.2.2.1 (fun y0 y1 y2 y3 y4 y5 => C.1 ((y0, ()), (((), ()), (y1, y2, y3, y4, y5, (), ()), ((), (), (), (), (), (), (), (), (), (), (), (), (), (), (), (), (), (), (), (), (), (), (), (), (), (), (), (), (), (), (), (), (), (), ()), ((), ()), ())))
def Ay8 (Aay : Ak4) (N : Nat) : Go.AX.Aaj := Acw [true] [] false 2 4 A5u [Atk] (fun R x C => Aay N x.1.1.1 x.1.1.2.1 x.1.1.2.2.1 x.1.1.2.2.2.1 x.1.1.2.2.2.2.1 x.2.2.1.1 x.2.2.1.2.1 x.2.2.1.2.2.1 x.2.2.1.2.2.2.1 x.2.2.1.2.2.2.2.1 (fun y0 y1 y2 y3 y4 y5 => C.1 ((y0, ()), (((), ()), (y1, y2, y3, y4, y5, (), ()), ((), (), (), (), (), (), (), (), (), (), (), (), (), (), (), (), (), (), (), (), (), (), (), (), (), (), (), (), (), (), (), (), (), (), ()), ((), ()), ()))))
def A5w (N : Nat) : Go.AX.Aaj := Ay8 @Aay N
def Cj3 (N : Nat) : List (Nat × Acs) := []
def B0g (N : Nat) : List (Nat × Go.AX.Aaj) := [(80, A7o N)]
def Bis : Code := Tryz.f81.body.getD .skip
def A7p : Code := Tryz.f82.body.getD .skip
def Axi : Aac := ⟨[wq1, Alz], B7d⟩
def An7 : Aac := ⟨Ahl, B7d⟩
abbrev Boc (R : Type) := Int->(List UInt8)->d3->d1->d2->d4->(Bool->(List UInt8)->d3->d1->d2->d4->Option R)->Option R
abbrev Ah1 := {R : Type} → Nat → Boc R
def Abd : Ah1 := fun {R} N b c d e f a g => if ((decide (b ≥ 0)) = true) then (if ((decide (b < (len a))) = true) then (if (0 ≤ b ∧ b < len a) then (g ((a.getD b.toNat (0, (0, (0, (0, 0))))).1 != 15) c d e f a) else none) else g false c d e f a) else g false c d e f a
def Bod (N : Nat) : Abv Axi [An7] := fun R x C => Abd N x.1.2.1 x.2.1.1 x.2.1.2.1 x.2.1.2.2.1 x.2.1.2.2.2.1 x.2.1.2.2.2.2.1 (fun y0 y1 y2 y3 y4 y5 => C.1 ((y0, ()), ((y1, y2, y3, y4, y5, (), ()), ((), (), (), (), (), (), (), (), (), (), (), (), (), (), (), (), (), (), (), (), (), (), (), (), (), (), (), (), (), (), (), (), (), (), ()), ((), ()), ((), ()), ())))
def Aqm (Abd : Ah1) (N : Nat) : Go.AX.Aaj := Acw [false, true] [] false 2 4 Axi [An7] (fun R x C => Abd N x.1.2.1 x.2.1.1 x.2.1.2.1 x.2.1.2.2.1 x.2.1.2.2.2.1 x.2.1.2.2.2.2.1 (fun y0 y1 y2 y3 y4 y5 => C.1 ((y0, ()), ((y1, y2, y3, y4, y5, (), ()), ((), (), (), (), (), (), (), (), (), (), (), (), (), (), (), (), (), (), (), (), (), (), (), (), (), (), (), (), (), (), (), (), (), (), ()), ((), ()), ((), ()), ()))))
def Aqn (N : Nat) : Go.AX.Aaj := Aqm @Abd N
def Boe (N : Nat) : List (Nat × Acs) := []
def A7q (N : Nat) : List (Nat × Go.AX.Aaj) := []
def A5x : Aac := ⟨Bw2, Bfo⟩
def Atl : Aac := ⟨Ahl, Bfo⟩
abbrev B0h (R : Type) := Int->Int->Int->Int->Int->(List UInt8)->d3->d1->d2->d4->(Bool->(List UInt8)->d3->d1->d2->d4->Option R)->Option R
abbrev Aoj := {R : Type} → Nat → B0h R
def A5y (Abd : Ah1) : Aoj := fun {R} N q g h i r a b c d e f => if ((g == 0) = true) then (if ((i == 0) = true) then (Abd N h a b c d e fun j l m n o p => f j l m n o p) else f false a b c d e) else f false a b c d e
def Ael : Aoj := @A5y @Abd
def Cj4 (N : Nat) : Abv A5x [Atl] := fun R x C => Ael N x.1.1.1 x.1.1.2.1 x.1.1.2.2.1 x.1.1.2.2.2.1 x.1.1.2.2.2.2.1 x.2.2.1.1 x.2.2.1.2.1 x.2.2.1.2.2.1 x.2.2.1.2.2.2.1 x.2.2.1.2.2.2.2.1 (fun y0 y1 y2 y3 y4 y5 => C.1 ((y0, ()), (((), ()), (y1, y2, y3, y4, y5, (), ()), ((), (), (), (), (), (), (), (), (), (), (), (), (), (), (), (), (), (), (), (), (), (), (), (), (), (), (), (), (), (), (), (), (), (), ()), ((), ()), ())))
def A5z (Ael : Aoj) (N : Nat) : Go.AX.Aaj := Acw [true] [] false 2 4 A5x [Atl] (fun R x C => Ael N x.1.1.1 x.1.1.2.1 x.1.1.2.2.1 x.1.1.2.2.2.1 x.1.1.2.2.2.2.1 x.2.2.1.1 x.2.2.1.2.1 x.2.2.1.2.2.1 x.2.2.1.2.2.2.1 x.2.2.1.2.2.2.2.1 (fun y0 y1 y2 y3 y4 y5 => C.1 ((y0, ()), (((), ()), (y1, y2, y3, y4, y5, (), ()), ((), (), (), (), (), (), (), (), (), (), (), (), (), (), (), (), (), (), (), (), (), (), (), (), (), (), (), (), (), (), (), (), (), (), ()), ((), ()), ()))))
def Bit (N : Nat) : Go.AX.Aaj := A5z @Ael N
def Cj5 (N : Nat) : List (Nat × Acs) := []
def B0i (N : Nat) : List (Nat × Go.AX.Aaj) := [(82, Aqn N)]
def Biu : Code := Tryz.f83.body.getD .skip
def A50 : Aac := ⟨Bw2, [(0, .cells 69 [(.fnp 79 [1])]), (1, .cells 67 [(.ptr 2)]), (2, .cells 72 [(.val .str), (.val z3), (.val z1), (.val z4), (.val z6), (.mp 3)]), (3, .fmap 70 .i64 [(3 : Int), (4 : Int), (5 : Int), (13 : Int), (38 : Int), (39 : Int), (1 : Int), (6 : Int), (7 : Int), (8 : Int), (21 : Int), (22 : Int), (23 : Int), (24 : Int), (25 : Int), (26 : Int), (27 : Int), (28 : Int), (29 : Int), (30 : Int), (31 : Int), (32 : Int), (33 : Int), (34 : Int), (35 : Int), (36 : Int), (37 : Int), (9 : Int), (10 : Int), (11 : Int), (2 : Int), (12 : Int), (14 : Int), (15 : Int)] [(.fn 78), (.fn 78), (.fn 78), (.fn 78), (.fn 78), (.fn 78), (.fnp 79 [1]), (.fnp 79 [1]), (.fnp 79 [1]), (.fnp 79 [1]), (.fnp 79 [1]), (.fnp 79 [1]), (.fnp 79 [1]), (.fnp 79 [1]), (.fnp 79 [1]), (.fnp 79 [1]), (.fnp 79 [1]), (.fnp 79 [1]), (.fnp 79 [1]), (.fnp 79 [1]), (.fnp 79 [1]), (.fnp 79 [1]), (.fnp 79 [1]), (.fnp 79 [1]), (.fnp 79 [1]), (.fnp 79 [1]), (.fnp 79 [1]), (.fnp 81 [1]), (.fnp 81 [1]), (.fnp 81 [1]), (.fnp 83 [0]), (.fn 84), (.fnp 85 [1]), (.fnp 86 [1])])]⟩
def Atm : Aac := ⟨Ahl, [(0, .cells 69 [(.fnp 79 [1])]), (1, .cells 67 [(.ptr 2)]), (2, .cells 72 [(.val .str), (.val z3), (.val z1), (.val z4), (.val z6), (.mp 3)]), (3, .fmap 70 .i64 [(3 : Int), (4 : Int), (5 : Int), (13 : Int), (38 : Int), (39 : Int), (1 : Int), (6 : Int), (7 : Int), (8 : Int), (21 : Int), (22 : Int), (23 : Int), (24 : Int), (25 : Int), (26 : Int), (27 : Int), (28 : Int), (29 : Int), (30 : Int), (31 : Int), (32 : Int), (33 : Int), (34 : Int), (35 : Int), (36 : Int), (37 : Int), (9 : Int), (10 : Int), (11 : Int), (2 : Int), (12 : Int), (14 : Int), (15 : Int)] [(.fn 78), (.fn 78), (.fn 78), (.fn 78), (.fn 78), (.fn 78), (.fnp 79 [1]), (.fnp 79 [1]), (.fnp 79 [1]), (.fnp 79 [1]), (.fnp 79 [1]), (.fnp 79 [1]), (.fnp 79 [1]), (.fnp 79 [1]), (.fnp 79 [1]), (.fnp 79 [1]), (.fnp 79 [1]), (.fnp 79 [1]), (.fnp 79 [1]), (.fnp 79 [1]), (.fnp 79 [1]), (.fnp 79 [1]), (.fnp 79 [1]), (.fnp 79 [1]), (.fnp 79 [1]), (.fnp 79 [1]), (.fnp 79 [1]), (.fnp 81 [1]), (.fnp 81 [1]), (.fnp 81 [1]), (.fnp 83 [0]), (.fn 84), (.fnp 85 [1]), (.fnp 86 [1])])]⟩
abbrev B0j (R : Type) := Int->Int->Int->Int->Int->(List UInt8)->d3->d1->d2->d4->(Bool->(List UInt8)->d3->d1->d2->d4->Option R)->Option R
abbrev Aok := {R : Type} → Nat → B0j R
def A51 (Aay : Ak4) : Aok := fun {R} N h a i j l m n o p q b => Aay N h a i j l m n o p q fun r c d e f g => if (r = true) then (if ((decide (a ≥ 1)) = true) then (b (decide (a ≤ 3)) c d e f g) else b false c d e f g) else b false c d e f g
def Afc : Aok := @A51 @Aay
def Cj6 (N : Nat) : Abv A50 [Atm] := fun R x C => Afc N x.1.1.1 x.1.1.2.1 x.1.1.2.2.1 x.1.1.2.2.2.1 x.1.1.2.2.2.2.1 x.2.2.2.1.1 x.2.2.2.1.2.1 x.2.2.2.1.2.2.1 x.2.2.2.1.2.2.2.1 x.2.2.2.1.2.2.2.2.1 (fun y0 y1 y2 y3 y4 y5 => C.1 ((y0, ()), (((), ()), ((), ()), (y1, y2, y3, y4, y5, (), ()), ((), (), (), (), (), (), (), (), (), (), (), (), (), (), (), (), (), (), (), (), (), (), (), (), (), (), (), (), (), (), (), (), (), (), ()), ())))
def A52 (Afc : Aok) (N : Nat) : Go.AX.Aaj := Acw [true] [] false 2 4 A50 [Atm] (fun R x C => Afc N x.1.1.1 x.1.1.2.1 x.1.1.2.2.1 x.1.1.2.2.2.1 x.1.1.2.2.2.2.1 x.2.2.2.1.1 x.2.2.2.1.2.1 x.2.2.2.1.2.2.1 x.2.2.2.1.2.2.2.1 x.2.2.2.1.2.2.2.2.1 (fun y0 y1 y2 y3 y4 y5 => C.1 ((y0, ()), (((), ()), ((), ()), (y1, y2, y3, y4, y5, (), ()), ((), (), (), (), (), (), (), (), (), (), (), (), (), (), (), (), (), (), (), (), (), (), (), (), (), (), (), (), (), (), (), (), (), (), ()), ()))))
def Biv (N : Nat) : Go.AX.Aaj := A52 @Afc N
def Cj7 (N : Nat) : List (Nat × Acs) := []
def B0k (N : Nat) : List (Nat × Go.AX.Aaj) := [(79, A5w N)]
def Biw : Code := Tryz.f84.body.getD .skip
def A53 : Aac := ⟨Cd2, []⟩
def Atn : Aac := ⟨Ahl, []⟩
abbrev B0l (R : Type) := Int->Int->Int->Int->Int->(Bool->Option R)->Option R
abbrev Asp := {R : Type} → Nat → B0l R
def Afd : Asp := fun {R} N e c b d f a => if ((c == 0) = true) then (if ((d == 0) = true) then (if ((decide (b ≥ 0)) = true) then (a (decide (b ≤ 4000))) else a false) else a false) else a false
def B0m (N : Nat) : Abv A53 [Atn] := fun R x C => Afd N x.1.1.1 x.1.1.2.1 x.1.1.2.2.1 x.1.1.2.2.2.1 x.1.1.2.2.2.2.1 (fun y0 => C.1 ((y0, ()), (())))
def A54 (Afd : Asp) (N : Nat) : Go.AX.Aaj := Acw [true] [] false 1 0 A53 [Atn] (fun R x C => Afd N x.1.1.1 x.1.1.2.1 x.1.1.2.2.1 x.1.1.2.2.2.1 x.1.1.2.2.2.2.1 (fun y0 => C.1 ((y0, ()), (()))))
def Bix (N : Nat) : Go.AX.Aaj := A54 @Afd N
def B0n (N : Nat) : List (Nat × Acs) := []
def Biy (N : Nat) : List (Nat × Go.AX.Aaj) := []
def Biz : Code := Tryz.f85.body.getD .skip
def A55 : Aac := ⟨Bw2, Bfo⟩
def Ato : Aac := ⟨Ahl, Bfo⟩
abbrev B0o (R : Type) := Int->Int->Int->Int->Int->(List UInt8)->d3->d1->d2->d4->(Bool->(List UInt8)->d3->d1->d2->d4->Option R)->Option R
abbrev Aol := {R : Type} → Nat → B0o R
def A56 (Abd : Ah1) : Aol := fun {R} N q h g i r a b c d e f => if ((h == 0) = true) then (if ((decide (g ≥ 0)) = true) then (if ((decide (g ≤ 1000)) = true) then (Abd N i a b c d e fun j l m n o p => f j l m n o p) else f false a b c d e) else f false a b c d e) else f false a b c d e
def Afe : Aol := @A56 @Abd
def Cj8 (N : Nat) : Abv A55 [Ato] := fun R x C => Afe N x.1.1.1 x.1.1.2.1 x.1.1.2.2.1 x.1.1.2.2.2.1 x.1.1.2.2.2.2.1 x.2.2.1.1 x.2.2.1.2.1 x.2.2.1.2.2.1 x.2.2.1.2.2.2.1 x.2.2.1.2.2.2.2.1 (fun y0 y1 y2 y3 y4 y5 => C.1 ((y0, ()), (((), ()), (y1, y2, y3, y4, y5, (), ()), ((), (), (), (), (), (), (), (), (), (), (), (), (), (), (), (), (), (), (), (), (), (), (), (), (), (), (), (), (), (), (), (), (), (), ()), ((), ()), ())))
def A57 (Afe : Aol) (N : Nat) : Go.AX.Aaj := Acw [true] [] false 2 4 A55 [Ato] (fun R x C => Afe N x.1.1.1 x.1.1.2.1 x.1.1.2.2.1 x.1.1.2.2.2.1 x.1.1.2.2.2.2.1 x.2.2.1.1 x.2.2.1.2.1 x.2.2.1.2.2.1 x.2.2.1.2.2.2.1 x.2.2.1.2.2.2.2.1 (fun y0 y1 y2 y3 y4 y5 => C.1 ((y0, ()), (((), ()), (y1, y2, y3, y4, y5, (), ()), ((), (), (), (), (), (), (), (), (), (), (), (), (), (), (), (), (), (), (), (), (), (), (), (), (), (), (), (), (), (), (), (), (), (), ()), ((), ()), ()))))
def Bi0 (N : Nat) : Go.AX.Aaj := A57 @Afe N
def Cj9 (N : Nat) : List (Nat × Acs) := []
def B0p (N : Nat) : List (Nat × Go.AX.Aaj) := [(82, Aqn N)]
def Bi1 : Code := Tryz.f86.body.getD .skip
def A58 : Aac := ⟨Bw2, Bfo⟩
def Atp : Aac := ⟨Ahl, Bfo⟩
abbrev B0q (R : Type) := Int->Int->Int->Int->Int->(List UInt8)->d3->d1->d2->d4->(Bool->(List UInt8)->d3->d1->d2->d4->Option R)->Option R
abbrev Aom := {R : Type} → Nat → B0q R
def A59 (Abd : Ah1) : Aom := fun {R} N q h g i r a b c d e f => if ((h == 0) = true) then (if ((decide (g ≥ (-2147483648))) = true) then (if ((decide (g ≤ 2147483647)) = true) then (Abd N i a b c d e fun j l m n o p => f j l m n o p) else f false a b c d e) else f false a b c d e) else f false a b c d e
def Aff : Aom := @A59 @Abd
def Cka (N : Nat) : Abv A58 [Atp] := fun R x C => Aff N x.1.1.1 x.1.1.2.1 x.1.1.2.2.1 x.1.1.2.2.2.1 x.1.1.2.2.2.2.1 x.2.2.1.1 x.2.2.1.2.1 x.2.2.1.2.2.1 x.2.2.1.2.2.2.1 x.2.2.1.2.2.2.2.1 (fun y0 y1 y2 y3 y4 y5 => C.1 ((y0, ()), (((), ()), (y1, y2, y3, y4, y5, (), ()), ((), (), (), (), (), (), (), (), (), (), (), (), (), (), (), (), (), (), (), (), (), (), (), (), (), (), (), (), (), (), (), (), (), (), ()), ((), ()), ())))
def A6a (Aff : Aom) (N : Nat) : Go.AX.Aaj := Acw [true] [] false 2 4 A58 [Atp] (fun R x C => Aff N x.1.1.1 x.1.1.2.1 x.1.1.2.2.1 x.1.1.2.2.2.1 x.1.1.2.2.2.2.1 x.2.2.1.1 x.2.2.1.2.1 x.2.2.1.2.2.1 x.2.2.1.2.2.2.1 x.2.2.1.2.2.2.2.1 (fun y0 y1 y2 y3 y4 y5 => C.1 ((y0, ()), (((), ()), (y1, y2, y3, y4, y5, (), ()), ((), (), (), (), (), (), (), (), (), (), (), (), (), (), (), (), (), (), (), (), (), (), (), (), (), (), (), (), (), (), (), (), (), (), ()), ((), ()), ()))))
def Bi2 (N : Nat) : Go.AX.Aaj := A6a @Aff N
def Ckb (N : Nat) : List (Nat × Acs) := []
def B0r (N : Nat) : List (Nat × Go.AX.Aaj) := [(82, Aqn N)]
def Ai5 : Aac := ⟨[wq4, B9a, (5, .one (.ptr 33)), (20, .one (.val z6)), (21, .one wq0), (22, .one wq0)], [Bs7, (33, .cells 72 [(.val .str), (.val z3), (.val z1), (.val z4), (.val z6), (.mp 34)]), (34, .fmap 70 .i64 [(3 : Int), (4 : Int), (5 : Int), (13 : Int), (38 : Int), (39 : Int), (1 : Int), (6 : Int), (7 : Int), (8 : Int), (21 : Int), (22 : Int), (23 : Int), (24 : Int), (25 : Int), (26 : Int), (27 : Int), (28 : Int), (29 : Int), (30 : Int), (31 : Int), (32 : Int), (33 : Int), (34 : Int), (35 : Int), (36 : Int), (37 : Int), (9 : Int), (10 : Int), (11 : Int), (2 : Int), (12 : Int), (14 : Int), (15 : Int)] [(.fn 78), (.fn 78), (.fn 78), (.fn 78), (.fn 78), (.fn 78), (.fnp 79 [35]), (.fnp 79 [35]), (.fnp 79 [35]), (.fnp 79 [35]), (.fnp 79 [35]), (.fnp 79 [35]), (.fnp 79 [35]), (.fnp 79 [35]), (.fnp 79 [35]), (.fnp 79 [35]), (.fnp 79 [35]), (.fnp 79 [35]), (.fnp 79 [35]), (.fnp 79 [35]), (.fnp 79 [35]), (.fnp 79 [35]), (.fnp 79 [35]), (.fnp 79 [35]), (.fnp 79 [35]), (.fnp 79 [35]), (.fnp 79 [35]), (.fnp 81 [35]), (.fnp 81 [35]), (.fnp 81 [35]), (.fnp 83 [36]), (.fn 84), (.fnp 85 [35]), (.fnp 86 [35])]), (35, .cells 67 [(.ptr 33)]), (36, .cells 69 [(.fnp 79 [35])])]⟩
def Arv : Aac := ⟨A8u, []⟩
def Arw : Aac := ⟨[wq4, B9a], A8v⟩
def Bf8 : Ac7 := .cons .ret Arv (.cons (.exit 0) Arw (.nil))
abbrev A3x (R : Type) := Bool->d4->Int->Int->(List UInt8)->d3->d1->d2->d4->(List UInt8)->d3->d1->d2->d4->(Int->Option R)->(Bool->(List UInt8)->d3->d1->d2->d4->Option R)->Option R
abbrev A3y (R : Type) := Bool->d4->Int->Int->(List UInt8)->d3->d1->d2->d4->(List UInt8)->d3->d1->d2->d4->Option R
abbrev Av8 := {R : Type} → Nat → Nat → A3x R
def Aqo (Adt : Asl) (Aay : Ak4) (Ael : Aoj) (Afc : Aok) (Afd : Asp) (Afe : Aol) (Aff : Aom) {R : Type} (N : Nat) (rc : A3y R) : A3x R := fun f e g d h i j l m n o p q r a v => if ((decide (d < g)) = true) then (if (0 ≤ d ∧ d < len e) then (let b := (e.getD d.toNat (0, (0, (0, (0, 0))))).1; let s := (e.getD d.toNat (0, (0, (0, (0, 0))))).2.1; let t := (e.getD d.toNat (0, (0, (0, (0, 0))))).2.2.1; let u := (e.getD d.toNat (0, (0, (0, (0, 0))))).2.2.2.1; let c := (e.getD d.toNat (0, (0, (0, (0, 0))))).2.2.2.2; if (b = 3) then (if ((c != 0) = true) then (a 60) else Adt N b s t u c fun w => if ((!w) = true) then (a 60) else rc f e g (wi (d + 1)) h i j l m n o p q r) else if (b = 4) then (if ((c != 0) = true) then (a 60) else Adt N b s t u c fun x => if ((!x) = true) then (a 60) else rc f e g (wi (d + 1)) h i j l m n o p q r) else if (b = 5) then (if ((c != 0) = true) then (a 60) else Adt N b s t u c fun y => if ((!y) = true) then (a 60) else rc f e g (wi (d + 1)) h i j l m n o p q r) else if (b = 13) then (if ((c != 0) = true) then (a 60) else Adt N b s t u c fun z => if ((!z) = true) then (a 60) else rc f e g (wi (d + 1)) h i j l m n o p q r) else if (b = 38) then (if ((c != 0) = true) then (a 60) else Adt N b s t u c fun A => if ((!A) = true) then (a 60) else rc f e g (wi (d + 1)) h i j l m n o p q r) else if (b = 39) then (if ((c != 0) = true) then (a 60) else Adt N b s t u c fun B => if ((!B) = true) then (a 60) else rc f e g (wi (d + 1)) h i j l m n o p q r) else if (b = 1) then (if ((c != 0) = true) then (a 60) else Aay N b s t u c n o p q r fun C D E F G H => if ((!C) = true) then (a 60) else rc f e g (wi (d + 1)) h i j l m D E F G H) else if (b = 6) then (if ((c != 0) = true) then (a 60) else Aay N b s t u c n o p q r fun I J L M O P => if ((!I) = true) then (a 60) else rc f e g (wi (d + 1)) h i j l m J L M O P) else if (b = 7) then (if ((c != 0) = true) then (a 60) else Aay N b s t u c n o p q r fun Q S T U V W => if ((!Q) = true) then (a 60) else rc f e g (wi (d + 1)) h i j l m S T U V W) else if (b = 8) then (if ((c != 0) = true) then (a 60) else Aay N b s t u c n o p q r fun X Y Z aa ab ac => if ((!X) = true) then (a 60) else rc f e g (wi (d + 1)) h i j l m Y Z aa ab ac) else if (b = 21) then (if ((c != 0) = true) then (a 60) else Aay N b s t u c n o p q r fun ad ae af ag ah ai => if ((!ad) = true) then (a 60) else rc f e g (wi (d + 1)) h i j l m ae af ag ah ai) else if (b = 22) then (if ((c != 0) = true) then (a 60) else Aay N b s t u c n o p q r fun aj ak al am an ao => if ((!aj) = true) then (a 60) else rc f e g (wi (d + 1)) h i j l m ak al am an ao) else if (b = 23) then (if ((c != 0) = true) then (a 60) else Aay N b s t u c n o p q r fun ap aq ar au av aw => if ((!ap) = true) then (a 60) else rc f e g (wi (d + 1)) h i j l m aq ar au av aw) else if (b = 24) then (if ((c != 0) = true) then (a 60) else Aay N b s t u c n o p q r fun ax ay az ba bb bc => if ((!ax) = true) then (a 60) else rc f e g (wi (d + 1)) h i j l m ay az ba bb bc) else if (b = 25) then (if ((c != 0) = true) then (a 60) else Aay N b s t u c n o p q r fun bd be bf bg bh bi => if ((!bd) = true) then (a 60) else rc f e g (wi (d + 1)) h i j l m be bf bg bh bi) else if (b = 26) then (if ((c != 0) = true) then (a 60) else Aay N b s t u c n o p q r fun bj bk bl bm bn bo => if ((!bj) = true) then (a 60) else rc f e g (wi (d + 1)) h i j l m bk bl bm bn bo) else if (b = 27) then (if ((c != 0) = true) then (a 60) else Aay N b s t u c n o p q r fun bp bq br bs bt bu => if ((!bp) = true) then (a 60) else rc f e g (wi (d + 1)) h i j l m bq br bs bt bu) else if (b = 28) then (if ((c != 0) = true) then (a 60) else Aay N b s t u c n o p q r fun bv bw bx bz ca cb => if ((!bv) = true) then (a 60) else rc f e g (wi (d + 1)) h i j l m bw bx bz ca cb) else if (b = 29) then (if ((c != 0) = true) then (a 60) else Aay N b s t u c n o p q r fun cc cd ce cf cg ch => if ((!cc) = true) then (a 60) else rc f e g (wi (d + 1)) h i j l m cd ce cf cg ch) else if (b = 30) then (if ((c != 0) = true) then (a 60) else Aay N b s t u c n o p q r fun ci cj ck cl cm cn => if ((!ci) = true) then (a 60) else rc f e g (wi (d + 1)) h i j l m cj ck cl cm cn) else if (b = 31) then (if ((c != 0) = true) then (a 60) else Aay N b s t u c n o p q r fun co cp cq cr cs ct => if ((!co) = true) then (a 60) else rc f e g (wi (d + 1)) h i j l m cp cq cr cs ct) else if (b = 32) then (if ((c != 0) = true) then (a 60) else Aay N b s t u c n o p q r fun cu cv cw cx cy cz => if ((!cu) = true) then (a 60) else rc f e g (wi (d + 1)) h i j l m cv cw cx cy cz) else if (b = 33) then (if ((c != 0) = true) then (a 60) else Aay N b s t u c n o p q r fun da db dc dd de df => if ((!da) = true) then (a 60) else rc f e g (wi (d + 1)) h i j l m db dc dd de df) else if (b = 34) then (if ((c != 0) = true) then (a 60) else Aay N b s t u c n o p q r fun dg dh di dj dk dl => if ((!dg) = true) then (a 60) else rc f e g (wi (d + 1)) h i j l m dh di dj dk dl) else if (b = 35) then (if ((c != 0) = true) then (a 60) else Aay N b s t u c n o p q r fun dm dn dp dq dr ds => if ((!dm) = true) then (a 60) else rc f e g (wi (d + 1)) h i j l m dn dp dq dr ds) else if (b = 36) then (if ((c != 0) = true) then (a 60) else Aay N b s t u c n o p q r fun dt du dv dw dx dy => if ((!dt) = true) then (a 60) else rc f e g (wi (d + 1)) h i j l m du dv dw dx dy) else if (b = 37) then (if ((c != 0) = true) then (a 60) else Aay N b s t u c n o p q r fun dz ea eb ec ed ee => if ((!dz) = true) then (a 60) else rc f e g (wi (d + 1)) h i j l m ea eb ec ed ee) else if (b = 9) then (if ((c != 0) = true) then (a 60) else Ael N b s t u c n o p q r fun ef eg eh ei ej ek => if ((!ef) = true) then (a 60) else rc f e g (wi (d + 1)) h i j l m eg eh ei ej ek) else if (b = 10) then (if ((c != 0) = true) then (a 60) else Ael N b s t u c n o p q r fun el em en eo ep eq => if ((!el) = true) then (a 60) else rc f e g (wi (d + 1)) h i j l m em en eo ep eq) else if (b = 11) then (if ((c != 0) = true) then (a 60) else Ael N b s t u c n o p q r fun er es et eu ev ew => if ((!er) = true) then (a 60) else rc f e g (wi (d + 1)) h i j l m es et eu ev ew) else if (b = 2) then (if ((c != 0) = true) then (a 60) else Afc N b s t u c n o p q r fun ex ey ez fa fb fc => if ((!ex) = true) then (a 60) else rc f e g (wi (d + 1)) h i j l m ey ez fa fb fc) else if (b = 12) then (if ((c != 0) = true) then (a 60) else Afd N b s t u c fun fd => if ((!fd) = true) then (a 60) else rc f e g (wi (d + 1)) h i j l m n o p q r) else if (b = 14) then (if ((c != 0) = true) then (a 60) else Afe N b s t u c n o p q r fun fe ff fg fh fi fj => if ((!fe) = true) then (a 60) else rc f e g (wi (d + 1)) h i j l m ff fg fh fi fj) else if (b = 15) then (if ((c != 0) = true) then (a 60) else Aff N b s t u c n o p q r fun fk fl fm fn fo fp => if ((!fk) = true) then (a 60) else rc f e g (wi (d + 1)) h i j l m fl fm fn fo fp) else a 60) else none) else v f h i j l m
def Aeh {R : Type} (N : Nat) : Nat → A3x R
 | 0 => fun _ _ _ _ _ _ _ _ _ _ _ _ _ _ _ _ => none
 | k + 1 => fun a b c d e f g h i j l m n o p q => Aqo @Adt @Aay @Ael @Afc @Afd @Afe @Aff N (fun a b c d e f g h i j l m n o => Aeh N k a b c d e f g h i j l m n o p q) a b c d e f g h i j l m n o p q
def A3z (Aeh : Av8) (N k : Nat) : Aar Ai5 := fun R x K => Aeh N k x.1.2.1 x.1.2.2.2.1 x.1.2.2.2.2.1 x.1.2.2.2.2.2.1 x.2.1.1 x.2.1.2.1 x.2.1.2.2.1 x.2.1.2.2.2.1 x.2.1.2.2.2.2.1 x.2.2.1.1 x.2.2.1.2.1 x.2.2.1.2.2.1 x.2.2.1.2.2.2.1 x.2.2.1.2.2.2.2.1 (fun y0 => K .ret (Aab Arv ((y0, ()), (())))) (fun y0 y1 y2 y3 y4 y5 => K (.exit 0) (Aab Arw (((), y0, ()), ((y1, y2, y3, y4, y5, ()), ()))))
def A30 (N k : Nat) : Aar Ai5 := A3z @Aeh N k
def Agj : Code := Tryz.f43.body.getD .skip
def Bi3 : Code := Tryz.f44.body.getD .skip
def A6b : Aac := ⟨Cd2, []⟩
def Atq : Aac := ⟨Azi, []⟩
abbrev B0s (R : Type) := Int->Int->Int->Int->Int->(Int->Option R)->Option R
abbrev Aon := {R : Type} → Nat → B0s R
def Ae1 : Aon := fun {R} N c d a e f b => b a
def B0t (N : Nat) : Abv A6b [Atq] := fun R x C => Ae1 N x.1.1.1 x.1.1.2.1 x.1.1.2.2.1 x.1.1.2.2.2.1 x.1.1.2.2.2.2.1 (fun y0 => C.1 ((y0, ()), (())))
def Ay9 (Ae1 : Aon) (N : Nat) : Go.AX.Aaj := Acw [true] [] false 1 0 A6b [Atq] (fun R x C => Ae1 N x.1.1.1 x.1.1.2.1 x.1.1.2.2.1 x.1.1.2.2.2.1 x.1.1.2.2.2.2.1 (fun y0 => C.1 ((y0, ()), (()))))
def Bi4 (N : Nat) : Go.AX.Aaj := Ay9 @Ae1 N
def B0u (N : Nat) : List (Nat × Acs) := []
def Bi5 (N : Nat) : List (Nat × Go.AX.Aaj) := []
def Af7 : Aac := ⟨[wq9, Alz, A20, wq3, B9b, B9d, (32, .one wq0), (33, .one wq0)], []⟩
def An8 : Aac := ⟨Bn1, []⟩
def An9 : Aac := ⟨[wq9, Alz, A20, wq3, B9b, B9d], []⟩
def A7r : Ac7 := .cons .ret An8 (.cons (.exit 3) An9 (.nil))
abbrev Axj (R : Type) := d4->Int->Int->Int->Int->Int->Int->(Bool->Option R)->(d4->Int->Int->Int->Int->Option R)->Option R
abbrev A7s (R : Type) := d4->Int->Int->Int->Int->Int->Int->Option R
abbrev Am6 := {R : Type} → Nat → Nat → Axj R
def Aqp {R : Type} (N : Nat) (rc : A7s R) : Axj R := fun a f c d g h e i j => if ((decide (e < h)) = true) then (let b := (wi ((wi (d + 1)) + e)); if ((decide (b ≥ (len a))) = true) then (i false) else if (0 ≤ b ∧ b < len a) then (if (((a.getD b.toNat (0, (0, (0, (0, 0))))).1 != c) = true) then (i false) else rc a f c d g h (wi (e + 1))) else none) else j a f c d g
def Acj {R : Type} (N : Nat) : Nat → Axj R
 | 0 => fun _ _ _ _ _ _ _ _ _ => none
 | k + 1 => fun a b c d e f g h i => Aqp N (fun a b c d e f g => Acj N k a b c d e f g h i) a b c d e f g h i
def Aqq (Acj : Am6) (N k : Nat) : Aar Af7 := fun R x K => Acj N k x.1.1 x.1.2.1 x.1.2.2.1 x.1.2.2.2.2.1 x.1.2.2.2.2.2.1 x.1.2.2.2.2.2.2.1 x.1.2.2.2.2.2.2.2.1 (fun y0 => K .ret (Aab An8 ((y0, ()), (())))) (fun y0 y1 y2 y3 y4 => K (.exit 3) (Aab An9 ((y0, y1, y2, (), y3, y4, ()), (()))))
def Axk (N k : Nat) : Aar Af7 := Aqq @Acj N k
def Agw : Aac := ⟨[wq9, Alz, A20, wq3, B9b], []⟩
def Apc : Aac := ⟨Bn1, []⟩
def Apd : Aac := ⟨[], []⟩
def Bay : Ac7 := .cons .ret Apc (.cons (.exit 0) Apd (.nil))
abbrev Azm (R : Type) := d4->Int->Int->Int->(Bool->Option R)->(Option R)->Option R
abbrev Baz (R : Type) := d4->Int->Int->Int->Option R
abbrev Anz := {R : Type} → Nat → Nat → Azm R
def Azn (Ae1 : Aon) (Acj : Am6) {R : Type} (N : Nat) (rc : Baz R) : Azm R := fun b e f a g m => if ((decide (a < (len b))) = true) then (if (0 ≤ a ∧ a < len b) then (let h := (b.getD a.toNat (0, (0, (0, (0, 0))))).1; if ((h == e) = true) then (if (0 ≤ a ∧ a < len b) then (Ae1 N h ((b.getD a.toNat (0, (0, (0, (0, 0))))).2.1) ((b.getD a.toNat (0, (0, (0, (0, 0))))).2.2.1) ((b.getD a.toNat (0, (0, (0, (0, 0))))).2.2.2.1) ((b.getD a.toNat (0, (0, (0, (0, 0))))).2.2.2.2) fun j => Acj N N b e f a j j 0 (fun n => g n) fun d l i o p => let c := (wi ((wi (o + p)) + 1)); if ((decide (c < (len d))) = true) then (if (0 ≤ c ∧ c < len d) then (if (((d.getD c.toNat (0, (0, (0, (0, 0))))).1 == i) = true) then (g false) else rc d l i c) else none) else rc d l i c) else none) else if ((h == f) = true) then (g false) else rc b e f (wi (a + 1))) else none) else m
def Acq {R : Type} (N : Nat) : Nat → Azm R
 | 0 => fun _ _ _ _ _ _ => none
 | k + 1 => fun a b c d e f => Azn @Ae1 @Acj N (fun a b c d => Acq N k a b c d e f) a b c d e f
def Arx (Acq : Anz) (N k : Nat) : Aar Agw := fun R x K => Acq N k x.1.1 x.1.2.1 x.1.2.2.1 x.1.2.2.2.2.1 (fun y0 => K .ret (Aab Apc ((y0, ()), (())))) (K (.exit 0) (Aab Apd ((()), (()))))
def Azo (N k : Nat) : Aar Agw := Arx @Acq N k
def A31 : Aac := ⟨[wq9, Alz, A20, wq3], []⟩
def Ary : Aac := ⟨Ahl, []⟩
abbrev Bxd (R : Type) := d4->Int->Int->(Bool->Option R)->Option R
abbrev Anb := {R : Type} → Nat → Bxd R
def A32 (Acq : Anz) : Anb := fun {R} N b c d a => Acq N N b c d 0 (fun e => a e) (a true)
def Aep : Anb := @A32 @Acq
def Ci0 (N : Nat) : Abv A31 [Ary] := fun R x C => Aep N x.1.1 x.1.2.1 x.1.2.2.1 (fun y0 => C.1 ((y0, ()), (())))
def A33 (Aep : Anb) (N : Nat) : Go.AX.Aaj := Acw [true, true, true, true] [] false 4 0 A31 [Ary] (fun R x C => Aep N x.1.1 x.1.2.1 x.1.2.2.1 (fun y0 => C.1 ((y0, ()), (()))))
def Bf9 (N : Nat) : Go.AX.Aaj := A33 @Aep N
def Ci1 (N : Nat) : List (Nat × Acs) := [(17, Aaa Af7 (Axk N N)), (5, Aaa Agw (Azo N N))]
def Bxe (N : Nat) : List (Nat × Go.AX.Aaj) := [(44, Bi4 N)]
def Bdm : Aac := ⟨B9g, []⟩
def Aza : Aac := ⟨Azi, []⟩
abbrev B9s (R : Type) := (List UInt8)->d3->d1->d2->d4->(Int->Option R)->Option R
abbrev Axl := {R : Type} → Nat → B9s R
def Bdn (Ahn : Ask) (Ah8 : Axf) (Aeh : Av8) (Aep : Anb) : Axl := fun {R} N c d e f g a => Ahn N c d e f g c d e f g fun m n h i j l b => if (m = true) then (a 2) else Ah8 N h i j l b fun o p q r s => Aeh N N n b (len b) 0 h i j l b o p q r s (fun t => a t) fun u x y z A v => if ((!u) = true) then (a 60) else Aep N v 14 15 fun w => if ((!w) = true) then (a 60) else a 0
def Aj5 : Axl := @Bdn @Ahn @Ah8 @Aeh @Aep
def Cmt (N : Nat) : Abv Bdm [Aza] := fun R x C => Aj5 N x.1.1.1 x.1.1.2.1 x.1.1.2.2.1 x.1.1.2.2.2.1 x.1.1.2.2.2.2.1 (fun y0 => C.1 ((y0, ()), (())))
def Bof (Aj5 : Axl) (N : Nat) : Go.AX.Aaj := Acw [true] [] false 1 0 Bdm [Aza] (fun R x C => Aj5 N x.1.1.1 x.1.1.2.1 x.1.1.2.2.1 x.1.1.2.2.2.1 x.1.1.2.2.2.2.1 (fun y0 => C.1 ((y0, ()), (()))))
def Bog (N : Nat) : Go.AX.Aaj := Bof @Aj5 N
def Cmu (N : Nat) : List (Nat × Acs) := [(13, Aaa Ai5 (A30 N N))]
def B9t (N : Nat) : List (Nat × Go.AX.Aaj) := [(38, Bn6 N), (42, Bn8 N), (78, Bij N), (79, A5w N), (81, Bit N), (83, Biv N), (84, Bix N), (85, Bi0 N), (86, Bi2 N), (43, Bf9 N)]
def Afw : Code := Tryz.f15.body.getD .skip
def Ant : Code := Tryz.f45.body.getD .skip
def Ah9 : Aac := ⟨[wq4, Bha, Azh], [Bs7, Cd1, (34, .row 141 z2)]⟩
def Aqr : Aac := ⟨Bs6, [(32, .cells 139 [(.val .str), (.val z3), (.slf 33), (.val z1), wq0, wq0]), (33, .row 141 z2)]⟩
def Bdo : Ac7 := .cons (.exit 0) Aqr (.nil)
abbrev A1l (R : Type) := Int->(List UInt8)->d3->d1->d2->d4->(List UInt8)->d3->d1->Int->Int->d2->((List UInt8)->d3->d1->Int->Int->d2->Option R)->Option R
abbrev Bdp (R : Type) := Int->(List UInt8)->d3->d1->d2->d4->(List UInt8)->d3->d1->Int->Int->d2->Option R
abbrev Atr := {R : Type} → Nat → Nat → A1l R
def Ats {R : Type} (N : Nat) (rc : Bdp R) : A1l R := fun c j l m d n e f g h i a o => if ((decide (c < (len d))) = true) then (let b := (wi (c + 1)); if ((((List.length a) + (List.length ((24, (b, 0)) :: [(26, (0, 0))]))) * (24 : Nat)) ≤ (70368744177664 : Nat)) then (rc b j l m d n e f g h i (a ++ ((24, (b, 0)) :: [(26, (0, 0))]))) else none) else o e f g h i a
def Ad2 {R : Type} (N : Nat) : Nat → A1l R
 | 0 => fun _ _ _ _ _ _ _ _ _ _ _ _ _ => none
 | k + 1 => fun a b c d e f g h i j l m n => Ats N (fun a b c d e f g h i j l m => Ad2 N k a b c d e f g h i j l m n) a b c d e f g h i j l m n
def A1m (Ad2 : Atr) (N k : Nat) : Aar Ah9 := fun R x K => Ad2 N k x.1.2.2.1 x.2.1.1 x.2.1.2.1 x.2.1.2.2.1 x.2.1.2.2.2.1 x.2.1.2.2.2.2.1 x.2.2.1.1 x.2.2.1.2.1 x.2.2.1.2.2.2.1 x.2.2.1.2.2.2.2.1 x.2.2.1.2.2.2.2.2.1 x.2.2.2.1 (fun y0 y1 y2 y3 y4 y5 => K (.exit 0) (Aab Aqr (((), ()), ((y0, y1, (), y2, y3, y4, ()), y5, ()))))
def A1n (N k : Nat) : Aar Ah9 := A1m @Ad2 N k
def Anu : Code := Tryz.f87.body.getD .skip
def Alm : Code := Tryz.f136.body.getD .skip
def Ag6 : Aac := ⟨[wq4, Azg, Azh], Arj⟩
def Aoa : Aac := ⟨Ch2, []⟩
def A7t : Ac7 := .cons (.exit 0) Aoa (.nil)
abbrev Axm (R : Type) := Int->Int->(List UInt8)->d3->d2->d1->Int->Int->(Int->Option R)->Option R
abbrev A7u (R : Type) := Int->Int->(List UInt8)->d3->d2->d1->Int->Int->Option R
abbrev Aqs := {R : Type} → Nat → Nat → Axm R
def Aqt {R : Type} (N : Nat) (rc : A7u R) : Axm R := fun c a d b e f g h j => if ((decide (a < (len b))) = true) then (if (0 ≤ a ∧ a < len b) then (let i := (wi (c + (((List.length (b.getD a.toNat (([] : List UInt8), (false, ([] : List Int)))).2.2) : Nat) : Int))); if (0 ≤ a ∧ a < len b) then (if ((b.getD a.toNat (([] : List UInt8), (false, ([] : List Int)))).2.1 = true) then (if (0 ≤ a ∧ a < len b) then (rc (wi (i + (wi (Int.tdiv (wi ((((List.length (b.getD a.toNat (([] : List UInt8), (false, ([] : List Int)))).1) : Nat) : Int) + 2)) 2)))) (wi (a + 1)) d b e f g h) else none) else rc i (wi (a + 1)) d b e f g h) else none) else none) else j c
def Ac9 {R : Type} (N : Nat) : Nat → Axm R
 | 0 => fun _ _ _ _ _ _ _ _ _ => none
 | k + 1 => fun a b c d e f g h i => Aqt N (fun a b c d e f g h => Ac9 N k a b c d e f g h i) a b c d e f g h i
def Axn (Ac9 : Aqs) (N k : Nat) : Aar Ag6 := fun R x K => Ac9 N k x.1.2.1 x.1.2.2.1 x.2.1.1 x.2.1.2.1 x.2.1.2.2.1 x.2.1.2.2.2.1 x.2.1.2.2.2.2.1 x.2.1.2.2.2.2.2.1 (fun y0 => K (.exit 0) (Aab Aoa ((y0, ()), (()))))
def Axo (N k : Nat) : Aar Ag6 := Axn @Ac9 N k
def A34 : Aac := ⟨A21, []⟩
def Arz : Aac := ⟨Ahl, []⟩
abbrev Bxf (R : Type) := (List UInt8)->d3->d2->d1->Int->Int->(Bool->Option R)->Option R
abbrev Anc := {R : Type} → Nat → Bxf R
def A35 (Ac9 : Aqs) : Anc := fun {R} N f b c g d e a => if ((decide ((len c) > 40000)) = true) then (a true) else if ((decide ((len b) > 2000)) = true) then (a true) else if ((decide (d > 200)) = true) then (a true) else if ((decide (e > 20000)) = true) then (a true) else Ac9 N N 0 0 f b c g d e fun h => a (decide (h > 7800))
def Ae5 : Anc := @A35 @Ac9
def Ci2 (N : Nat) : Abv A34 [Arz] := fun R x C => Ae5 N x.1.1.1 x.1.1.2.1 x.1.1.2.2.1 x.1.1.2.2.2.1 x.1.1.2.2.2.2.1 x.1.1.2.2.2.2.2.1 (fun y0 => C.1 ((y0, ()), (())))
def A36 (Ae5 : Anc) (N : Nat) : Go.AX.Aaj := Acw [true] [] false 1 0 A34 [Arz] (fun R x C => Ae5 N x.1.1.1 x.1.1.2.1 x.1.1.2.2.1 x.1.1.2.2.2.1 x.1.1.2.2.2.2.1 x.1.1.2.2.2.2.2.1 (fun y0 => C.1 ((y0, ()), (()))))
def Bga (N : Nat) : Go.AX.Aaj := A36 @Ae5 N
def Ci3 (N : Nat) : List (Nat × Acs) := [(11, Aaa Ag6 (Axo N N))]
def Bxg (N : Nat) : List (Nat × Go.AX.Aaj) := []
def Adb : Code := Tryz.f137.body.getD .skip
def Anv : Code := Tryz.f207.body.getD .skip
def Ai6 : Aac := ⟨[Bn0, (4, .one (.val .str)), A8s], []⟩
def Ar0 : Aac := ⟨[(2, .one (.val .str)), Azg], []⟩
def Ar1 : Aac := ⟨[Bn0, (4, .one (.val .str))], []⟩
def Bgb : Ac7 := .cons .ret Ar0 (.cons (.exit 0) Ar1 (.nil))
abbrev A37 (R : Type) := (List UInt8)->(List UInt8)->Int->((List UInt8)->Int->Option R)->((List UInt8)->(List UInt8)->Option R)->Option R
abbrev Bgc (R : Type) := (List UInt8)->(List UInt8)->Int->Option R
abbrev Av9 := {R : Type} → Nat → Nat → A37 R
def Awa {R : Type} (N : Nat) (rc : Bgc R) : A37 R := fun b c a j m => if ((decide (a < (len b))) = true) then (if (0 ≤ a ∧ a < len b) then (let d := (((UInt8.toNat (b.getD a.toNat (0 : UInt8))) : Nat) : Int); if ((d == 10) = true) then (if (((List.length c) + (2 : Nat)) ≤ (70368744177664 : Nat)) then (rc b (c ++ [(42 : UInt8), (110 : UInt8)]) (wi (a + 1))) else none) else if ((d == 9) = true) then (if (((List.length c) + (2 : Nat)) ≤ (70368744177664 : Nat)) then (rc b (c ++ [(42 : UInt8), (116 : UInt8)]) (wi (a + 1))) else none) else if ((d == 42) = true) then (let e := (wi (a + 1)); if ((0 ≤ e) ∧ (e ≤ (len b))) then (if ((0 ≤ a) ∧ (a ≤ e)) then (let h := (List.drop (Int.toNat a) (List.take (Int.toNat e) b)); if (((1 : Nat) + (List.length h)) ≤ (70368744177664 : Nat)) then (if (((List.length c) + (List.length ((42 : UInt8) :: h))) ≤ (70368744177664 : Nat)) then (rc b (c ++ ((42 : UInt8) :: h)) e) else none) else none) else none) else none) else if ((d == 34) = true) then (let f := (wi (a + 1)); if ((0 ≤ f) ∧ (f ≤ (len b))) then (if ((0 ≤ a) ∧ (a ≤ f)) then (let i := (List.drop (Int.toNat a) (List.take (Int.toNat f) b)); if (((1 : Nat) + (List.length i)) ≤ (70368744177664 : Nat)) then (if (((List.length c) + (List.length ((42 : UInt8) :: i))) ≤ (70368744177664 : Nat)) then (rc b (c ++ ((42 : UInt8) :: i)) f) else none) else none) else none) else none) else if ((decide (d < 32)) = true) then (j ([] : List UInt8) 3) else if ((decide (d > 126)) = true) then (j ([] : List UInt8) 3) else let g := (wi (a + 1)); if ((0 ≤ g) ∧ (g ≤ (len b))) then (if ((0 ≤ a) ∧ (a ≤ g)) then (let l := (List.drop (Int.toNat a) (List.take (Int.toNat g) b)); if (((List.length c) + (List.length l)) ≤ (70368744177664 : Nat)) then (rc b (c ++ l) g) else none) else none) else none) else none) else m b c
def Ad9 {R : Type} (N : Nat) : Nat → A37 R
 | 0 => fun _ _ _ _ _ => none
 | k + 1 => fun a b c d e => Awa N (fun a b c => Ad9 N k a b c d e) a b c d e
def A38 (Ad9 : Av9) (N k : Nat) : Aar Ai6 := fun R x K => Ad9 N k x.1.1 x.1.2.1 x.1.2.2.1 (fun y0 y1 => K .ret (Aab Ar0 ((y0, y1, ()), (())))) (fun y0 y1 => K (.exit 0) (Aab Ar1 ((y0, y1, ()), (()))))
def A39 (N k : Nat) : Aar Ai6 := A38 @Ad9 N k
def A9r : Aac := ⟨[Bn0], []⟩
def Awb : Aac := ⟨[Bn0, Alz], []⟩
abbrev B43 (R : Type) := (List UInt8)->((List UInt8)->Int->Option R)->Option R
abbrev Ajw := {R : Type} → Nat → B43 R
def A9s (Ad9 : Av9) : Ajw := fun {R} N c a => Ad9 N N c ([(34 : UInt8)]) 0 (fun d e => a d e) fun f b => if ((decide ((len f) > 100)) = true) then (a ([] : List UInt8) 2) else if (((List.length b) + (1 : Nat)) ≤ (70368744177664 : Nat)) then (a (b ++ [(34 : UInt8)]) 0) else none
def Ack : Ajw := @A9s @Ad9
def Ck5 (N : Nat) : Abv A9r [Awb] := fun R x C => Ack N x.1.1 (fun y0 y1 => C.1 ((y0, y1, ()), (())))
def Apl (Ack : Ajw) (N : Nat) : Go.AX.Aaj := Acw [true] [] false 1 0 A9r [Awb] (fun R x C => Ack N x.1.1 (fun y0 y1 => C.1 ((y0, y1, ()), (()))))
def Blk (N : Nat) : Go.AX.Aaj := Apl @Ack N
def Ck6 (N : Nat) : List (Nat × Acs) := [(7, Aaa Ai6 (A39 N N))]
def B44 (N : Nat) : List (Nat × Go.AX.Aaj) := []
def Bxh : Code := Tryz.f208.body.getD .skip
def Bkq : Aac := ⟨Cdy, []⟩
def A4a : Aac := ⟨Ahl, []⟩
abbrev Cd9 (R : Type) := Int->Int->Int->(Bool->Option R)->Option R
abbrev Adw := {R : Type} → Nat → Cd9 R
def Aal : Adw := fun {R} N a c d b => if ((decide (a ≥ c)) = true) then (b (decide (a ≤ d))) else b false
def Cea (N : Nat) : Abv Bkq [A4a] := fun R x C => Aal N x.1.1 x.1.2.1 x.1.2.2.1 (fun y0 => C.1 ((y0, ()), (())))
def Aho (Aal : Adw) (N : Nat) : Go.AX.Aaj := Acw [true, true, true] [] false 3 0 Bkq [A4a] (fun R x C => Aal N x.1.1 x.1.2.1 x.1.2.2.1 (fun y0 => C.1 ((y0, ()), (()))))
def A4b (N : Nat) : Go.AX.Aaj := Aho @Aal N
def Ceb (N : Nat) : List (Nat × Acs) := []
def Bxi (N : Nat) : List (Nat × Go.AX.Aaj) := []
def Afx : Aac := ⟨[wq4, Azg, (4, .one (.ptr 33)), Bkn], [A22, (33, .cells 59 [(.val .str), (.val .bool), Bzx])]⟩
def Aqu : Aac := ⟨Azf, []⟩
def Aqv : Aac := ⟨Ch6, Arj⟩
def Bdq : Ac7 := .cons .ret Aqu (.cons (.exit 2) Aqv (.nil))
abbrev A1o (R : Type) := Int->Int->(List UInt8)->d3->d2->d1->Int->Int->(List UInt8)->Bool->d0->(Bool->Option R)->(Int->(List UInt8)->d3->d2->d1->Int->Int->Option R)->Option R
abbrev Bdr (R : Type) := Int->Int->(List UInt8)->d3->d2->d1->Int->Int->(List UInt8)->Bool->d0->Option R
abbrev Ako := {R : Type} → Nat → Nat → A1o R
def Att (Aal : Adw) {R : Type} (N : Nat) (rc : Bdr R) : A1o R := fun c a d e f g h i j l b m n => if ((decide (a < (len b))) = true) then (if (0 ≤ a ∧ a < len b) then (Aal N (b.getD a.toNat 0) (-2147483648) 2147483647 fun o => if ((!o) = true) then (m false) else rc c (wi (a + 1)) d e f g h i j l b) else none) else n c d e f g h i
def Ab2 {R : Type} (N : Nat) : Nat → A1o R
 | 0 => fun _ _ _ _ _ _ _ _ _ _ _ _ _ => none
 | k + 1 => fun a b c d e f g h i j l m n => Att @Aal N (fun a b c d e f g h i j l => Ab2 N k a b c d e f g h i j l m n) a b c d e f g h i j l m n
def Amh (Ab2 : Ako) (N k : Nat) : Aar Afx := fun R x K => Ab2 N k x.1.2.1 x.1.2.2.2.1 x.2.1.1 x.2.1.2.1 x.2.1.2.2.1 x.2.1.2.2.2.1 x.2.1.2.2.2.2.1 x.2.1.2.2.2.2.2.1 x.2.2.1.1 x.2.2.1.2.1 x.2.2.1.2.2.1 (fun y0 => K .ret (Aab Aqu ((y0, ()), (())))) (fun y0 y1 y2 y3 y4 y5 y6 => K (.exit 2) (Aab Aqv (((), y0, ()), ((y1, y2, y3, y4, y5, y6, ()), ()))))
def A1p (N k : Nat) : Aar Afx := Amh @Ab2 N k
def Agk : Aac := ⟨Ch6, Arj⟩
def Ar2 : Aac := ⟨Azf, []⟩
def Ar3 : Aac := ⟨B89, Arj⟩
def Bgd : Ac7 := .cons .ret Ar2 (.cons (.exit 0) Ar3 (.nil))
abbrev A4c (R : Type) := Int->(List UInt8)->d3->d2->d1->Int->Int->(Bool->Option R)->((List UInt8)->d3->d2->d1->Int->Int->Option R)->Option R
abbrev Bge (R : Type) := Int->(List UInt8)->d3->d2->d1->Int->Int->Option R
abbrev Aln := {R : Type} → Nat → Nat → A4c R
def Awc (Ack : Ajw) (Ab2 : Ako) {R : Type} (N : Nat) (rc : Bge R) : A4c R := fun a d b e f g h c l => if ((decide (a < (len b))) = true) then (if (0 ≤ a ∧ a < len b) then (let i := (b.getD a.toNat (([] : List UInt8), (false, ([] : List Int)))).1; let j := (b.getD a.toNat (([] : List UInt8), (false, ([] : List Int)))).2.2; if ((b.getD a.toNat (([] : List UInt8), (false, ([] : List Int)))).2.1 = true) then (Ack N i fun v m => if ((m != 0) = true) then (c false) else if ((decide ((len j) > 0)) = true) then (c false) else rc (wi (a + 1)) d b e f g h) else if ((!(i == ([] : List UInt8))) = true) then (c false) else if (((len j) == 0) = true) then (c false) else Ab2 N N a 0 d b e f g h i ((b.getD a.toNat (([] : List UInt8), (false, ([] : List Int)))).2.1) j (fun n => c n) fun o p q r s t u => rc (wi (o + 1)) p q r s t u) else none) else l d b e f g h
def Ab7 {R : Type} (N : Nat) : Nat → A4c R
 | 0 => fun _ _ _ _ _ _ _ _ _ => none
 | k + 1 => fun a b c d e f g h i => Awc @Ack @Ab2 N (fun a b c d e f g => Ab7 N k a b c d e f g h i) a b c d e f g h i
def Ane (Ab7 : Aln) (N k : Nat) : Aar Agk := fun R x K => Ab7 N k x.1.2.1 x.2.1.1 x.2.1.2.1 x.2.1.2.2.1 x.2.1.2.2.2.1 x.2.1.2.2.2.2.1 x.2.1.2.2.2.2.2.1 (fun y0 => K .ret (Aab Ar2 ((y0, ()), (())))) (fun y0 y1 y2 y3 y4 y5 => K (.exit 0) (Aab Ar3 (((), ()), ((y0, y1, y2, y3, y4, y5, ()), ()))))
def A4d (N k : Nat) : Aar Agk := Ane @Ab7 N k
def Afy : Aac := ⟨[wq4, B9c, (9, .one (.ptr 33)), B9d], [A22, (33, .cells 136 [wq0, wq0])]⟩
def Aqw : Aac := ⟨Azf, []⟩
def Aqx : Aac := ⟨[wq4, B9c], Arj⟩
def Bds : Ac7 := .cons .ret Aqw (.cons (.exit 6) Aqx (.nil))
abbrev A1q (R : Type) := Int->Int->(List UInt8)->d3->d2->d1->Int->Int->Int->Int->(Bool->Option R)->(Int->(List UInt8)->d3->d2->d1->Int->Int->Option R)->Option R
abbrev Bdt (R : Type) := Int->Int->(List UInt8)->d3->d2->d1->Int->Int->Int->Int->Option R
abbrev Akp := {R : Type} → Nat → Nat → A1q R
def Atu {R : Type} (N : Nat) (rc : Bdt R) : A1q R := fun c a d e f b g h i j l m => if ((decide (a < c)) = true) then (if (0 ≤ a ∧ a < len b) then (if (((b.getD a.toNat (0, 0)).1 == i) = true) then (l false) else rc c (wi (a + 1)) d e f b g h i j) else none) else m c d e f b g h
def Ab3 {R : Type} (N : Nat) : Nat → A1q R
 | 0 => fun _ _ _ _ _ _ _ _ _ _ _ _ => none
 | k + 1 => fun a b c d e f g h i j l m => Atu N (fun a b c d e f g h i j => Ab3 N k a b c d e f g h i j l m) a b c d e f g h i j l m
def Ami (Ab3 : Akp) (N k : Nat) : Aar Afy := fun R x K => Ab3 N k x.1.2.1 x.1.2.2.2.1 x.2.1.1 x.2.1.2.1 x.2.1.2.2.1 x.2.1.2.2.2.1 x.2.1.2.2.2.2.1 x.2.1.2.2.2.2.2.1 x.2.2.1.1 x.2.2.1.2.1 (fun y0 => K .ret (Aab Aqw ((y0, ()), (())))) (fun y0 y1 y2 y3 y4 y5 y6 => K (.exit 6) (Aab Aqx (((), y0, ()), ((y1, y2, y3, y4, y5, y6, ()), ()))))
def A1r (N k : Nat) : Aar Afy := Ami @Ab3 N k
def Afz : Aac := ⟨[wq4, B9c], Arj⟩
def Aqy : Aac := ⟨Azf, []⟩
def Aqz : Aac := ⟨B89, Arj⟩
def Bdu : Ac7 := .cons .ret Aqy (.cons (.exit 4) Aqz (.nil))
abbrev A1s (R : Type) := Int->(List UInt8)->d3->d2->d1->Int->Int->(Bool->Option R)->((List UInt8)->d3->d2->d1->Int->Int->Option R)->Option R
abbrev Bdv (R : Type) := Int->(List UInt8)->d3->d2->d1->Int->Int->Option R
abbrev Akq := {R : Type} → Nat → Nat → A1s R
def Atv (Aal : Adw) (Ab3 : Akp) {R : Type} (N : Nat) (rc : Bdv R) : A1s R := fun a e f g b c h d l => if ((decide (a < (len b))) = true) then (if (0 ≤ a ∧ a < len b) then (let i := (b.getD a.toNat (0, 0)).1; let j := (b.getD a.toNat (0, 0)).2; Aal N i 1 199 fun m => if ((!m) = true) then (d false) else Aal N j 1 c fun n => if ((!n) = true) then (d false) else Ab3 N N a 0 e f g b c h i j (fun o => d o) fun p q r s t u v => rc (wi (p + 1)) q r s t u v) else none) else l e f g b c h
def Abm {R : Type} (N : Nat) : Nat → A1s R
 | 0 => fun _ _ _ _ _ _ _ _ _ => none
 | k + 1 => fun a b c d e f g h i => Atv @Aal @Ab3 N (fun a b c d e f g => Abm N k a b c d e f g h i) a b c d e f g h i
def Amj (Abm : Akq) (N k : Nat) : Aar Afz := fun R x K => Abm N k x.1.2.1 x.2.1.1 x.2.1.2.1 x.2.1.2.2.1 x.2.1.2.2.2.1 x.2.1.2.2.2.2.1 x.2.1.2.2.2.2.2.1 (fun y0 => K .ret (Aab Aqy ((y0, ()), (())))) (fun y0 y1 y2 y3 y4 y5 => K (.exit 4) (Aab Aqz (((), ()), ((y0, y1, y2, y3, y4, y5, ()), ()))))
def A1t (N k : Nat) : Aar Afz := Amj @Abm N k
def A9t : Aac := ⟨A21, []⟩
def Awd : Aac := ⟨Ahl, []⟩
abbrev B45 (R : Type) := (List UInt8)->d3->d2->d1->Int->Int->(Bool->Option R)->Option R
abbrev Apm := {R : Type} → Nat → B45 R
def A9u (Ab7 : Aln) (Abm : Akq) (Ack : Ajw) : Apm := fun {R} N b c d e f g a => Ab7 N N 0 b c d e f g (fun h => a h) fun i j l m n o => Abm N N 0 i j l m n o (fun p => a p) fun q s t u v w => Ack N q fun x r => a (r == 0)
def Agx : Apm := @A9u @Ab7 @Abm @Ack
def Ck7 (N : Nat) : Abv A9t [Awd] := fun R x C => Agx N x.1.1.1 x.1.1.2.1 x.1.1.2.2.1 x.1.1.2.2.2.1 x.1.1.2.2.2.2.1 x.1.1.2.2.2.2.2.1 (fun y0 => C.1 ((y0, ()), (())))
def A9v (Agx : Apm) (N : Nat) : Go.AX.Aaj := Acw [true] [] false 1 0 A9t [Awd] (fun R x C => Agx N x.1.1.1 x.1.1.2.1 x.1.1.2.2.1 x.1.1.2.2.2.1 x.1.1.2.2.2.2.1 x.1.1.2.2.2.2.2.1 (fun y0 => C.1 ((y0, ()), (()))))
def Bll (N : Nat) : Go.AX.Aaj := A9v @Agx N
def Ck8 (N : Nat) : List (Nat × Acs) := [(25, Aaa Afx (A1p N N)), (5, Aaa Agk (A4d N N)), (47, Aaa Afy (A1r N N)), (35, Aaa Afz (A1t N N))]
def B46 (N : Nat) : List (Nat × Go.AX.Aaj) := [(207, Blk N), (208, A4b N)]
def Adx : Code := Tryz.f138.body.getD .skip
def Afg : Aac := ⟨[A0p, Bha, Cdr, (93, .one (.val .bool))], Bqf⟩
def Atw : Aac := ⟨A5j, []⟩
def Atx : Aac := ⟨Bs6, A8w⟩
def A7v : Ac7 := .cons .ret Atw (.cons .normal Atx (.nil))
abbrev Boh (R : Type) := Int->Bool->(List UInt8)->d3->d2->d1->Int->Int->Int->Int->Int->(Bool->Option R)->(Int->Int->Int->Option R)->Option R
abbrev Af8 := {R : Type} → Nat → Boh R
def Axp (Aal : Adw) : Af8 := fun {R} N d f q r s t g e h b c a i => if (f = true) then (Aal N b 1 e fun j => a j) else if ((d == 24) = true) then (Aal N b 1 g fun l => if (l = true) then (Aal N c 0 8 fun m => a m) else a false) else if ((d == 29) = true) then (Aal N b 1 e fun n => if (n = true) then (Aal N c 0 1000 fun o => a o) else a false) else if ((d == 30) = true) then (Aal N c 1 e fun p => a p) else i h b c
def Aa3 : Af8 := @Axp @Aal
def Ajj (Aa3 : Af8) (N : Nat) : Aar Afg := fun R x K => Aa3 N x.1.2.2.1 x.1.2.2.2.1 x.2.1.1 x.2.1.2.1 x.2.1.2.2.1 x.2.1.2.2.2.1 x.2.1.2.2.2.2.1 x.2.1.2.2.2.2.2.1 x.2.2.1.1 x.2.2.1.2.1 x.2.2.1.2.2.1 (fun y0 => K .ret (Aab Atw ((y0, ()), (())))) (fun y0 y1 y2 => K .normal (Aab Atx (((), ()), ((y0, y1, y2, ()), ()))))
def A7w (N : Nat) : Aar Afg := Ajj @Aa3 N
def Afh : Aac := ⟨[A0p, Bha, Cdr, (60, .one (.val .bool))], Bqf⟩
def Aty : Aac := ⟨A5j, []⟩
def Atz : Aac := ⟨Bs6, A8w⟩
def A7x : Ac7 := .cons .ret Aty (.cons .normal Atz (.nil))
abbrev Boi (R : Type) := Int->Bool->(List UInt8)->d3->d2->d1->Int->Int->Int->Int->Int->(Bool->Option R)->(Int->Int->Int->Option R)->Option R
abbrev Af9 := {R : Type} → Nat → Boi R
def Axq (Aal : Adw) (Aa3 : Af8) : Af9 := fun {R} N a n f d g h e i j b l c m => if (n = true) then (Aal N b 0 (wi ((len d) - 1)) fun o => c o) else if ((a == 11) = true) then (Aal N b 1 e fun p => c p) else if ((a == 16) = true) then (Aal N b 1 17 fun q => c q) else if ((a == 17) = true) then (if ((b == 18) = true) then (c true) else c (b == 19)) else if ((a == 19) = true) then (Aa3 N a (a == 19) f d g h e i j b l (fun r => c r) fun s t u => m s t u) else if ((a == 20) = true) then (Aa3 N a (a == 20) f d g h e i j b l (fun v => c v) fun w x y => m w x y) else if ((a == 21) = true) then (Aa3 N a (a == 21) f d g h e i j b l (fun z => c z) fun A B C => m A B C) else if ((a == 22) = true) then (Aa3 N a (a == 22) f d g h e i j b l (fun D => c D) fun E F G => m E F G) else Aa3 N a (a == 27) f d g h e i j b l (fun H => c H) fun I J L => m I J L
def Aba : Af9 := @Axq @Aal @Aa3
def Ajk (Aba : Af9) (N : Nat) : Aar Afh := fun R x K => Aba N x.1.2.2.1 x.1.2.2.2.1 x.2.1.1 x.2.1.2.1 x.2.1.2.2.1 x.2.1.2.2.2.1 x.2.1.2.2.2.2.1 x.2.1.2.2.2.2.2.1 x.2.2.1.1 x.2.2.1.2.1 x.2.2.1.2.2.1 (fun y0 => K .ret (Aab Aty ((y0, ()), (())))) (fun y0 y1 y2 => K .normal (Aab Atz (((), ()), ((y0, y1, y2, ()), ()))))
def A7y (N : Nat) : Aar Afh := Ajk @Aba N
def Afi : Aac := ⟨[A0p, Bha, Cdr, (53, .one (.val .bool))], Bqf⟩
def At0 : Aac := ⟨A5j, []⟩
def At1 : Aac := ⟨Bs6, A8w⟩
def A7z : Ac7 := .cons .ret At0 (.cons .normal At1 (.nil))
abbrev Boj (R : Type) := Int->Bool->(List UInt8)->d3->d2->d1->Int->Int->Int->Int->Int->(Bool->Option R)->(Int->Int->Int->Option R)->Option R
abbrev Aga := {R : Type} → Nat → Boj R
def Axr (Aal : Adw) (Aba : Af9) : Aga := fun {R} N a n d e f g h i j b l c m => if (n = true) then (Aal N b 0 199 fun o => c o) else if ((a == 8) = true) then (Aba N a (a == 8) d e f g h i j b l (fun p => c p) fun q r s => m q r s) else if ((a == 9) = true) then (Aba N a (a == 9) d e f g h i j b l (fun t => c t) fun u v w => m u v w) else Aba N a (a == 10) d e f g h i j b l (fun x => c x) fun y z A => m y z A
def Abb : Aga := @Axr @Aal @Aba
def Ajl (Abb : Aga) (N : Nat) : Aar Afi := fun R x K => Abb N x.1.2.2.1 x.1.2.2.2.1 x.2.1.1 x.2.1.2.1 x.2.1.2.2.1 x.2.1.2.2.2.1 x.2.1.2.2.2.2.1 x.2.1.2.2.2.2.2.1 x.2.2.1.1 x.2.2.1.2.1 x.2.2.1.2.2.1 (fun y0 => K .ret (Aab At0 ((y0, ()), (())))) (fun y0 y1 y2 => K .normal (Aab At1 (((), ()), ((y0, y1, y2, ()), ()))))
def A70 (N : Nat) : Aar Afi := Ajl @Abb N
def Afj : Aac := ⟨[A0p, Bha, Cdr, (43, .one (.val .bool))], Bqf⟩
def At2 : Aac := ⟨A5j, []⟩
def At3 : Aac := ⟨Bs6, A8w⟩
def A71 : Ac7 := .cons .ret At2 (.cons .normal At3 (.nil))
abbrev Bok (R : Type) := Int->Bool->(List UInt8)->d3->d2->d1->Int->Int->Int->Int->Int->(Bool->Option R)->(Int->Int->Int->Option R)->Option R
abbrev Agb := {R : Type} → Nat → Bok R
def Axs (Aal : Adw) (Abb : Aga) : Agb := fun {R} N a n d e f g h i j b l c m => if (n = true) then (Aal N b 0 4000 fun o => c o) else if ((a == 5) = true) then (Abb N a (a == 5) d e f g h i j b l (fun p => c p) fun q r s => m q r s) else if ((a == 6) = true) then (Abb N a (a == 6) d e f g h i j b l (fun t => c t) fun u v w => m u v w) else Abb N a (a == 7) d e f g h i j b l (fun x => c x) fun y z A => m y z A
def Aao : Agb := @Axs @Aal @Abb
def Ajm (Aao : Agb) (N : Nat) : Aar Afj := fun R x K => Aao N x.1.2.2.1 x.1.2.2.2.1 x.2.1.1 x.2.1.2.1 x.2.1.2.2.1 x.2.1.2.2.2.1 x.2.1.2.2.2.2.1 x.2.1.2.2.2.2.2.1 x.2.2.1.1 x.2.2.1.2.1 x.2.2.1.2.2.1 (fun y0 => K .ret (Aab At2 ((y0, ()), (())))) (fun y0 y1 y2 => K .normal (Aab At3 (((), ()), ((y0, y1, y2, ()), ()))))
def A72 (N : Nat) : Aar Afj := Ajm @Aao N
def Afk : Aac := ⟨Bs6, A8w⟩
def At4 : Aac := ⟨A5j, []⟩
def A73 : Ac7 := .cons .ret At4 (.nil)
abbrev Bol (R : Type) := Int->Int->Int->(Bool->Option R)->Option R
abbrev Ag7 := {R : Type} → Nat → Bol R
def Aan : Ag7 := fun {R} N c a d b => b (a == 0)
def Ajn (Aan : Ag7) (N : Nat) : Aar Afk := fun R x K => Aan N x.2.1.1 x.2.1.2.1 x.2.1.2.2.1 (fun y0 => K .ret (Aab At4 ((y0, ()), (()))))
def A74 (N : Nat) : Aar Afk := Ajn @Aan N
def A4e : Aac := ⟨[Cd0, (1, .agg B9f)], []⟩
def Ar4 : Aac := ⟨Ahl, []⟩
abbrev Bxj (R : Type) := (List UInt8)->d3->d2->d1->Int->Int->Int->Int->Int->(Bool->Option R)->Option R
abbrev Anf := {R : Type} → Nat → Bxj R
def Aq0 (Aal : Adw) (Aao : Agb) (Aan : Ag7) : Anf := fun {R} N e f g h i j a d c b => Aal N a 1 30 fun l => if ((!l) = true) then (b false) else Aal N d (-2147483648) 2147483647 fun m => if ((!m) = true) then (b false) else Aal N c (-2147483648) 2147483647 fun n => if ((!n) = true) then (b false) else if ((a != 24) = true) then (if ((a != 29) = true) then (if ((a != 30) = true) then (if ((c != 0) = true) then (b false) else if ((a == 1) = true) then (b true) else if ((a == 2) = true) then (Aao N a (a == 2) e f g h i j a d c (fun o => b o) fun p q r => Aan N p q r fun s => b s) else if ((a == 3) = true) then (Aao N a (a == 3) e f g h i j a d c (fun t => b t) fun u v w => Aan N u v w fun x => b x) else if ((a == 4) = true) then (Aao N a (a == 4) e f g h i j a d c (fun y => b y) fun z A B => Aan N z A B fun C => b C) else if ((a == 23) = true) then (Aao N a (a == 23) e f g h i j a d c (fun D => b D) fun E F G => Aan N E F G fun H => b H) else if ((a == 18) = true) then (Aao N a (a == 18) e f g h i j a d c (fun I => b I) fun J L M => Aan N J L M fun O => b O) else Aao N a (a == 28) e f g h i j a d c (fun P => b P) fun Q S T => Aan N Q S T fun U => b U) else if ((a == 1) = true) then (b true) else if ((a == 2) = true) then (Aao N a (a == 2) e f g h i j a d c (fun V => b V) fun W X Y => Aan N W X Y fun Z => b Z) else if ((a == 3) = true) then (Aao N a (a == 3) e f g h i j a d c (fun aa => b aa) fun ab ac ad => Aan N ab ac ad fun ae => b ae) else if ((a == 4) = true) then (Aao N a (a == 4) e f g h i j a d c (fun af => b af) fun ag ah ai => Aan N ag ah ai fun aj => b aj) else if ((a == 23) = true) then (Aao N a (a == 23) e f g h i j a d c (fun ak => b ak) fun al am an => Aan N al am an fun ao => b ao) else if ((a == 18) = true) then (Aao N a (a == 18) e f g h i j a d c (fun ap => b ap) fun aq ar au => Aan N aq ar au fun av => b av) else Aao N a (a == 28) e f g h i j a d c (fun aw => b aw) fun ax ay az => Aan N ax ay az fun ba => b ba) else if ((a == 1) = true) then (b true) else if ((a == 2) = true) then (Aao N a (a == 2) e f g h i j a d c (fun bb => b bb) fun bc bd be => Aan N bc bd be fun bf => b bf) else if ((a == 3) = true) then (Aao N a (a == 3) e f g h i j a d c (fun bg => b bg) fun bh bi bj => Aan N bh bi bj fun bk => b bk) else if ((a == 4) = true) then (Aao N a (a == 4) e f g h i j a d c (fun bl => b bl) fun bm bn bo => Aan N bm bn bo fun bp => b bp) else if ((a == 23) = true) then (Aao N a (a == 23) e f g h i j a d c (fun bq => b bq) fun br bs bt => Aan N br bs bt fun bu => b bu) else if ((a == 18) = true) then (Aao N a (a == 18) e f g h i j a d c (fun bv => b bv) fun bw bx bz => Aan N bw bx bz fun ca => b ca) else Aao N a (a == 28) e f g h i j a d c (fun cb => b cb) fun cc cd ce => Aan N cc cd ce fun cf => b cf) else if ((a == 1) = true) then (b true) else if ((a == 2) = true) then (Aao N a (a == 2) e f g h i j a d c (fun cg => b cg) fun ch ci cj => Aan N ch ci cj fun ck => b ck) else if ((a == 3) = true) then (Aao N a (a == 3) e f g h i j a d c (fun cl => b cl) fun cm cn co => Aan N cm cn co fun cp => b cp) else if ((a == 4) = true) then (Aao N a (a == 4) e f g h i j a d c (fun cq => b cq) fun cr cs ct => Aan N cr cs ct fun cu => b cu) else if ((a == 23) = true) then (Aao N a (a == 23) e f g h i j a d c (fun cv => b cv) fun cw cx cy => Aan N cw cx cy fun cz => b cz) else if ((a == 18) = true) then (Aao N a (a == 18) e f g h i j a d c (fun da => b da) fun db dc dd => Aan N db dc dd fun de => b de) else Aao N a (a == 28) e f g h i j a d c (fun df => b df) fun dg dh di => Aan N dg dh di fun dj => b dj
def Aea : Anf := @Aq0 @Aal @Aao @Aan
def Ci4 (N : Nat) : Abv A4e [Ar4] := fun R x C => Aea N x.1.1.1 x.1.1.2.1 x.1.1.2.2.1 x.1.1.2.2.2.1 x.1.1.2.2.2.2.1 x.1.1.2.2.2.2.2.1 x.1.2.1.1 x.1.2.1.2.1 x.1.2.1.2.2.1 (fun y0 => C.1 ((y0, ()), (())))
def A4f (Aea : Anf) (N : Nat) : Go.AX.Aaj := Acw [true, true] [] false 2 0 A4e [Ar4] (fun R x C => Aea N x.1.1.1 x.1.1.2.1 x.1.1.2.2.1 x.1.1.2.2.2.1 x.1.1.2.2.2.2.1 x.1.1.2.2.2.2.2.1 x.1.2.1.1 x.1.2.1.2.1 x.1.2.1.2.2.1 (fun y0 => C.1 ((y0, ()), (()))))
def Bgf (N : Nat) : Go.AX.Aaj := A4f @Aea N
def Ci5 (N : Nat) : List (Nat × Acs) := [(68, Aaa Afg (A7w N)), (44, Aaa Afh (A7y N)), (36, Aaa Afi (A70 N)), (28, Aaa Afj (A72 N)), (82, Aaa Afk (A74 N))]
def Bxk (N : Nat) : List (Nat × Go.AX.Aaj) := [(208, A4b N)]
def Aia : Aac := ⟨Ch6, Arj⟩
def Aq1 : Aac := ⟨A8u, []⟩
def Aq2 : Aac := ⟨B89, Arj⟩
def Bdw : Ac7 := .cons .ret Aq1 (.cons (.exit 0) Aq2 (.nil))
abbrev A1u (R : Type) := Int->(List UInt8)->d3->d2->d1->Int->Int->(Int->Option R)->((List UInt8)->d3->d2->d1->Int->Int->Option R)->Option R
abbrev Bdx (R : Type) := Int->(List UInt8)->d3->d2->d1->Int->Int->Option R
abbrev At5 := {R : Type} → Nat → Nat → A1u R
def A1v (Aea : Anf) {R : Type} (N : Nat) (rc : Bdx R) : A1u R := fun b c d a e f g h i => if ((decide (b < (len a))) = true) then (if (0 ≤ b ∧ b < len a) then (Aea N c d a e f g ((a.getD b.toNat (0, (0, 0))).1) ((a.getD b.toNat (0, (0, 0))).2.1) ((a.getD b.toNat (0, (0, 0))).2.2) fun j => if ((!j) = true) then (h 60) else rc (wi (b + 1)) c d a e f g) else none) else i c d a e f g
def Aef {R : Type} (N : Nat) : Nat → A1u R
 | 0 => fun _ _ _ _ _ _ _ _ _ => none
 | k + 1 => fun a b c d e f g h i => A1v @Aea N (fun a b c d e f g => Aef N k a b c d e f g h i) a b c d e f g h i
def A1w (Aef : At5) (N k : Nat) : Aar Aia := fun R x K => Aef N k x.1.2.1 x.2.1.1 x.2.1.2.1 x.2.1.2.2.1 x.2.1.2.2.2.1 x.2.1.2.2.2.2.1 x.2.1.2.2.2.2.2.1 (fun y0 => K .ret (Aab Aq1 ((y0, ()), (())))) (fun y0 y1 y2 y3 y4 y5 => K (.exit 0) (Aab Aq2 (((), ()), ((y0, y1, y2, y3, y4, y5, ()), ()))))
def A1x (N k : Nat) : Aar Aia := A1w @Aef N k
def Ag1 : Code := Tryz.f139.body.getD .skip
def Bi6 : Code := Tryz.f209.body.getD .skip
def A6c : Aac := ⟨Cdw, []⟩
def At6 : Aac := ⟨Ahl, []⟩
abbrev B0v (R : Type) := Int->Int->Int->(Bool->Option R)->Option R
abbrev Aiw := {R : Type} → Nat → B0v R
def Aaw : Aiw := fun {R} N a c d b => if ((a != 20) = true) then (if ((a != 25) = true) then (if ((a != 26) = true) then (if ((a != 27) = true) then (if ((a != 29) = true) then (b (a != 30)) else b false) else b false) else b false) else b false) else b false
def B0w (N : Nat) : Abv A6c [At6] := fun R x C => Aaw N x.1.1.1 x.1.1.2.1 x.1.1.2.2.1 (fun y0 => C.1 ((y0, ()), (())))
def Amk (Aaw : Aiw) (N : Nat) : Go.AX.Aaj := Acw [true] [] false 1 0 A6c [At6] (fun R x C => Aaw N x.1.1.1 x.1.1.2.1 x.1.1.2.2.1 (fun y0 => C.1 ((y0, ()), (()))))
def A6d (N : Nat) : Go.AX.Aaj := Amk @Aaw N
def B0x (N : Nat) : List (Nat × Acs) := []
def Bi7 (N : Nat) : List (Nat × Go.AX.Aaj) := []
def Aib : Aac := ⟨[wq4, Azg, Azh, A8s, A8t, (7, .one (.ptr 33)), Cmg], Bqf⟩
def Axt : Aac := ⟨Azf, []⟩
def Axu : Aac := ⟨Cd4, Arj⟩
def Bdy : Ac7 := .cons .ret Axt (.cons .normal Axu (.nil))
abbrev Btd (R : Type) := Int->Int->Int->Int->Bool->(List UInt8)->d3->d2->d1->Int->Int->Int->Int->Int->(Bool->Option R)->(Int->Int->Int->Int->(List UInt8)->d3->d2->d1->Int->Int->Option R)->Option R
abbrev Ajo := {R : Type} → Nat → Btd R
def A1y (Aaw : Aiw) : Ajo := fun {R} N c d e a p f g b h i j n q r l m => Aaw N n q r fun s => if (s = true) then (if (p = true) then (l false) else let o := (wi (a + 1)); if (0 ≤ o ∧ o < len b) then (if (((b.getD o.toNat (0, (0, 0))).1 == 24) = true) then (l false) else if ((a == 0) = true) then (if ((n != 24) = true) then (l false) else m c d e a f g b h i j) else m c d e a f g b h i j) else none) else if ((a == 0) = true) then (if ((n != 24) = true) then (l false) else m c d e a f g b h i j) else m c d e a f g b h i j
def Ab4 : Ajo := @A1y @Aaw
def Ao0 (Ab4 : Ajo) (N : Nat) : Aar Aib := fun R x K => Ab4 N x.1.2.1 x.1.2.2.1 x.1.2.2.2.1 x.1.2.2.2.2.1 x.1.2.2.2.2.2.2.1 x.2.1.1 x.2.1.2.1 x.2.1.2.2.1 x.2.1.2.2.2.1 x.2.1.2.2.2.2.1 x.2.1.2.2.2.2.2.1 x.2.2.1.1 x.2.2.1.2.1 x.2.2.1.2.2.1 (fun y0 => K .ret (Aab Axt ((y0, ()), (())))) (fun y0 y1 y2 y3 y4 y5 y6 y7 y8 y9 => K .normal (Aab Axu (((), y0, y1, y2, y3, ()), ((y4, y5, y6, y7, y8, y9, ()), ()))))
def Bdz (N : Nat) : Aar Aib := Ao0 @Ab4 N
def Aic : Aac := ⟨[wq4, Azg, Azh, A8s, A8t, (7, .one (.ptr 33))], Bqf⟩
def Axv : Aac := ⟨Azf, []⟩
def Axw : Aac := ⟨Cd4, Arj⟩
def Bd0 : Ac7 := .cons .ret Axv (.cons .normal Axw (.nil))
abbrev Bte (R : Type) := Int->Int->Int->Int->(List UInt8)->d3->d2->d1->Int->Int->Int->Int->Int->(Bool->Option R)->(Int->Int->Int->Int->(List UInt8)->d3->d2->d1->Int->Int->Option R)->Option R
abbrev Ajp := {R : Type} → Nat → Bte R
def A1z (Ab4 : Ajo) : Ajp := fun {R} N h p q f i j a l m n c d g e o => let b := (wi (f + 1)); if ((c == 24) = true) then (let t := (wi (h + 1)); if ((d != t) = true) then (e false) else Ab4 N t p q f (decide (b ≥ (len a))) i j a l m n c d g (fun u => e u) fun v w x y z A B C D E => o v w x y z A B C D E) else if ((c == 29) = true) then (Ab4 N h p g f (decide (b ≥ (len a))) i j a l m n c d g (fun F => e F) fun G H I J L M O P Q S => o G H I J L M O P Q S) else if ((c == 19) = true) then (let r := (if (d > p) then d else p); if ((decide (b ≥ (len a))) = true) then (e false) else if (0 ≤ b ∧ b < len a) then (let s := (a.getD b.toNat (0, (0, 0))).1; if ((s != 18) = true) then (if (0 ≤ b ∧ b < len a) then (if ((s != 28) = true) then (if (0 ≤ b ∧ b < len a) then (if ((s != 19) = true) then (e false) else Ab4 N h r q f (decide (b ≥ (len a))) i j a l m n c d g (fun T => e T) fun U V W X Y Z aa ab ac ad => o U V W X Y Z aa ab ac ad) else none) else Ab4 N h r q f (decide (b ≥ (len a))) i j a l m n c d g (fun ae => e ae) fun af ag ah ai aj ak al am an ao => o af ag ah ai aj ak al am an ao) else none) else Ab4 N h r q f (decide (b ≥ (len a))) i j a l m n c d g (fun ap => e ap) fun aq ar au av aw ax ay az ba bb => o aq ar au av aw ax ay az ba bb) else none) else Ab4 N h p q f (decide (b ≥ (len a))) i j a l m n c d g (fun bc => e bc) fun bd be bf bg bh bi bj bk bl bm => o bd be bf bg bh bi bj bk bl bm
def Ac2 : Ajp := @A1z @Ab4
def Ao1 (Ac2 : Ajp) (N : Nat) : Aar Aic := fun R x K => Ac2 N x.1.2.1 x.1.2.2.1 x.1.2.2.2.1 x.1.2.2.2.2.1 x.2.1.1 x.2.1.2.1 x.2.1.2.2.1 x.2.1.2.2.2.1 x.2.1.2.2.2.2.1 x.2.1.2.2.2.2.2.1 x.2.2.1.1 x.2.2.1.2.1 x.2.2.1.2.2.1 (fun y0 => K .ret (Aab Axv ((y0, ()), (())))) (fun y0 y1 y2 y3 y4 y5 y6 y7 y8 y9 => K .normal (Aab Axw (((), y0, y1, y2, y3, ()), ((y4, y5, y6, y7, y8, y9, ()), ()))))
def Bd1 (N : Nat) : Aar Aic := Ao1 @Ac2 N
def Ag8 : Aac := ⟨Cd4, Arj⟩
def Ar5 : Aac := ⟨Azf, []⟩
def Ar6 : Aac := ⟨[wq4, Azg, Azh, A8s], Arj⟩
def Bgg : Ac7 := .cons .ret Ar5 (.cons (.exit 0) Ar6 (.nil))
abbrev A4g (R : Type) := Int->Int->Int->Int->(List UInt8)->d3->d2->d1->Int->Int->(Bool->Option R)->(Int->Int->Int->(List UInt8)->d3->d2->d1->Int->Int->Option R)->Option R
abbrev Bgh (R : Type) := Int->Int->Int->Int->(List UInt8)->d3->d2->d1->Int->Int->Option R
abbrev Ang := {R : Type} → Nat → Nat → A4g R
def A4h (Ac2 : Ajp) {R : Type} (N : Nat) (rc : Bgh R) : A4g R := fun d e c a f g b h i j l p => if ((decide (a < (len b))) = true) then (if (0 ≤ a ∧ a < len b) then (let m := (b.getD a.toNat (0, (0, 0))).1; let n := (b.getD a.toNat (0, (0, 0))).2.1; let o := (b.getD a.toNat (0, (0, 0))).2.2; if ((!((decide (c > 0)) == (m == 30))) = true) then (l false) else if ((decide (c > 0)) = true) then (Ac2 N d e (wi (c - 1)) a f g b h i j m n o (fun q => l q) fun r s t u v w x y z A => rc r s t (wi (u + 1)) v w x y z A) else Ac2 N d e c a f g b h i j m n o (fun B => l B) fun C D E F G H I J L M => rc C D E (wi (F + 1)) G H I J L M) else none) else p d e c f g b h i j
def Acr {R : Type} (N : Nat) : Nat → A4g R
 | 0 => fun _ _ _ _ _ _ _ _ _ _ _ _ => none
 | k + 1 => fun a b c d e f g h i j l m => A4h @Ac2 N (fun a b c d e f g h i j => Acr N k a b c d e f g h i j l m) a b c d e f g h i j l m
def Aq3 (Acr : Ang) (N k : Nat) : Aar Ag8 := fun R x K => Acr N k x.1.2.1 x.1.2.2.1 x.1.2.2.2.1 x.1.2.2.2.2.1 x.2.1.1 x.2.1.2.1 x.2.1.2.2.1 x.2.1.2.2.2.1 x.2.1.2.2.2.2.1 x.2.1.2.2.2.2.2.1 (fun y0 => K .ret (Aab Ar5 ((y0, ()), (())))) (fun y0 y1 y2 y3 y4 y5 y6 y7 y8 => K (.exit 0) (Aab Ar6 (((), y0, y1, y2, ()), ((y3, y4, y5, y6, y7, y8, ()), ()))))
def A4i (N k : Nat) : Aar Ag8 := Aq3 @Acr N k
def A9w : Aac := ⟨A21, []⟩
def Awe : Aac := ⟨Ahl, []⟩
abbrev B47 (R : Type) := (List UInt8)->d3->d2->d1->Int->Int->(Bool->Option R)->Option R
abbrev Apn := {R : Type} → Nat → B47 R
def A9x (Acr : Ang) : Apn := fun {R} N b c d e f g a => Acr N N 0 0 0 0 b c d e f g (fun h => a h) fun i j l o p q r m n => if ((l == 0) = true) then (if ((i == m) = true) then (a (j == n)) else a false) else a false
def Agc : Apn := @A9x @Acr
def Ck9 (N : Nat) : Abv A9w [Awe] := fun R x C => Agc N x.1.1.1 x.1.1.2.1 x.1.1.2.2.1 x.1.1.2.2.2.1 x.1.1.2.2.2.2.1 x.1.1.2.2.2.2.2.1 (fun y0 => C.1 ((y0, ()), (())))
def A9y (Agc : Apn) (N : Nat) : Go.AX.Aaj := Acw [true] [] false 1 0 A9w [Awe] (fun R x C => Agc N x.1.1.1 x.1.1.2.1 x.1.1.2.2.1 x.1.1.2.2.2.1 x.1.1.2.2.2.2.1 x.1.1.2.2.2.2.2.1 (fun y0 => C.1 ((y0, ()), (()))))
def Blm (N : Nat) : Go.AX.Aaj := A9y @Agc N
def Cla (N : Nat) : List (Nat × Acs) := [(44, Aaa Aib (Bdz N)), (20, Aaa Aic (Bd1 N)), (7, Aaa Ag8 (A4i N N))]
def B48 (N : Nat) : List (Nat × Go.AX.Aaj) := [(209, A6d N)]
def Ade : Code := Tryz.f140.body.getD .skip
def Af0 : Aac := ⟨[wq4, B87, B88, A8s], Bko⟩
def Aq4 : Aac := ⟨[wq4, B87, B88], Bko⟩
def Bd2 : Ac7 := .cons (.exit 0) Aq4 (.nil)
abbrev A10 (R : Type) := Int->(List UInt8)->d3->d2->d1->Int->Int->d0->d0->d0->d0->((List UInt8)->d3->d2->d1->Int->Int->d0->d0->d0->d0->Option R)->Option R
abbrev Bd3 (R : Type) := Int->(List UInt8)->d3->d2->d1->Int->Int->d0->d0->d0->d0->Option R
abbrev Akr := {R : Type} → Nat → Nat → A10 R
def At7 {R : Type} (N : Nat) (rc : Bd3 R) : A10 R := fun a d e f g h b i j c l m => if ((decide (a ≤ b)) = true) then (if (0 ≤ a ∧ a < len c) then (rc (wi (a + 1)) d e f g h b i j (c.set a.toNat (-1)) l) else none) else m d e f g h b i j c l
def Ab5 {R : Type} (N : Nat) : Nat → A10 R
 | 0 => fun _ _ _ _ _ _ _ _ _ _ _ _ => none
 | k + 1 => fun a b c d e f g h i j l m => At7 N (fun a b c d e f g h i j l => Ab5 N k a b c d e f g h i j l m) a b c d e f g h i j l m
def Aml (Ab5 : Akr) (N k : Nat) : Aar Af0 := fun R x K => Ab5 N k x.1.2.2.2.1 x.2.1.1 x.2.1.2.1 x.2.1.2.2.1 x.2.1.2.2.2.1 x.2.1.2.2.2.2.1 x.2.1.2.2.2.2.2.1 x.2.2.2.2.1 x.2.2.2.2.2.1 x.2.2.2.2.2.2.1 x.2.2.2.2.2.2.2.1 (fun y0 y1 y2 y3 y4 y5 y6 y7 y8 y9 => K (.exit 0) (Aab Aq4 (((), (), (), ()), ((y0, y1, y2, y3, y4, y5, ()), ((), (), ()), ((), (), ()), y6, y7, y8, y9, ()))))
def A11 (N k : Nat) : Aar Af0 := Aml @Ab5 N k
def Agy : Aac := ⟨Cd3, Bko⟩
def Avg : Aac := ⟨Ch4, Cdz⟩
def Avh : Aac := ⟨Cd3, Bko⟩
def Ba0 : Ac7 := .cons .ret Avg (.cons .normal Avh (.nil))
abbrev Bqj (R : Type) := Int->Int->(List UInt8)->d3->d2->d1->Int->Int->d0->d0->d0->d0->(Bool->d0->d0->Option R)->(Int->Int->(List UInt8)->d3->d2->d1->Int->Int->d0->d0->d0->d0->Option R)->Option R
abbrev Aiy := {R : Type} → Nat → Bqj R
def Ab8 : Aiy := fun {R} N e a g h b i j l m n c f p o => if (0 ≤ a ∧ a < len f) then (if (0 ≤ a ∧ a < len b) then (if (((b.getD a.toNat (0, (0, 0))).1 == 19) = true) then (if (0 ≤ a ∧ a < len b) then (let d := (b.getD a.toNat (0, (0, 0))).2.1; if (0 ≤ d ∧ d < len c) then (if ((decide ((c.getD d.toNat 0) ≥ 0)) = true) then (p false c (f.set a.toNat e)) else if (0 ≤ a ∧ a < len b) then (if (0 ≤ d ∧ d < len c) then (o e a g h b i j l m n (c.set d.toNat a) (f.set a.toNat e)) else none) else none) else none) else none) else o e a g h b i j l m n c (f.set a.toNat e)) else none) else none
def Alp (Ab8 : Aiy) (N : Nat) : Aar Agy := fun R x K => Ab8 N x.1.2.2.2.1 x.1.2.2.2.2.1 x.2.1.1 x.2.1.2.1 x.2.1.2.2.1 x.2.1.2.2.2.1 x.2.1.2.2.2.2.1 x.2.1.2.2.2.2.2.1 x.2.2.2.2.1 x.2.2.2.2.2.1 x.2.2.2.2.2.2.1 x.2.2.2.2.2.2.2.1 (fun y0 y1 y2 => K .ret (Aab Avg (((), y0, ()), (((), (), ()), y1, y2, ())))) (fun y0 y1 y2 y3 y4 y5 y6 y7 y8 y9 y10 y11 => K .normal (Aab Avh (((), (), (), y0, y1, ()), ((y2, y3, y4, y5, y6, y7, ()), ((), (), ()), ((), (), ()), y8, y9, y10, y11, ()))))
def Ba1 (N : Nat) : Aar Agy := Alp @Ab8 N
def Ae6 : Aac := ⟨Cd3, Bko⟩
def Ape : Aac := ⟨Ch4, Cdz⟩
def Apf : Aac := ⟨[wq4, B87, B88], Bko⟩
def Ba2 : Ac7 := .cons .ret Ape (.cons (.exit 2) Apf (.nil))
abbrev Azp (R : Type) := Int->Int->(List UInt8)->d3->d2->d1->Int->Int->d0->d0->d0->d0->(Bool->d0->d0->Option R)->((List UInt8)->d3->d2->d1->Int->Int->d0->d0->d0->d0->Option R)->Option R
abbrev Ba3 (R : Type) := Int->Int->(List UInt8)->d3->d2->d1->Int->Int->d0->d0->d0->d0->Option R
abbrev Aka := {R : Type} → Nat → Nat → Azp R
def Azq (Ab8 : Aiy) {R : Type} (N : Nat) (rc : Ba3 R) : Azp R := fun m a c d b e f g h i j l n o => if ((decide (a < (len b))) = true) then (if (0 ≤ a ∧ a < len b) then (if (((b.getD a.toNat (0, (0, 0))).1 == 24) = true) then (Ab8 N (wi (m + 1)) a c d b e f g h i j l (fun p q r => n p q r) fun s t u v w x y z A B C D => rc s (wi (t + 1)) u v w x y z A B C D) else Ab8 N m a c d b e f g h i j l (fun E F G => n E F G) fun H I J L M O P Q S T U V => rc H (wi (I + 1)) J L M O P Q S T U V) else none) else o c d b e f g h i j l
def Abn {R : Type} (N : Nat) : Nat → Azp R
 | 0 => fun _ _ _ _ _ _ _ _ _ _ _ _ _ _ => none
 | k + 1 => fun a b c d e f g h i j l m n o => Azq @Ab8 N (fun a b c d e f g h i j l m => Abn N k a b c d e f g h i j l m n o) a b c d e f g h i j l m n o
def Alq (Abn : Aka) (N k : Nat) : Aar Ae6 := fun R x K => Abn N k x.1.2.2.2.1 x.1.2.2.2.2.1 x.2.1.1 x.2.1.2.1 x.2.1.2.2.1 x.2.1.2.2.2.1 x.2.1.2.2.2.2.1 x.2.1.2.2.2.2.2.1 x.2.2.2.2.1 x.2.2.2.2.2.1 x.2.2.2.2.2.2.1 x.2.2.2.2.2.2.2.1 (fun y0 y1 y2 => K .ret (Aab Ape (((), y0, ()), (((), (), ()), y1, y2, ())))) (fun y0 y1 y2 y3 y4 y5 y6 y7 y8 y9 => K (.exit 2) (Aab Apf (((), (), (), ()), ((y0, y1, y2, y3, y4, y5, ()), ((), (), ()), ((), (), ()), y6, y7, y8, y9, ()))))
def Azr (N k : Nat) : Aar Ae6 := Alq @Abn N k
def Auy : Code := Tryz.f210.body.getD .skip
def Aks : Aac := ⟨[wq4, Azh, Chx], A8w⟩
def Axx : Aac := ⟨A8u, []⟩
def Axy : Aac := ⟨[], []⟩
def Bd4 : Ac7 := .cons .ret Axx (.cons .normal Axy (.nil))
abbrev Btf (R : Type) := Int->Bool->Int->Int->Int->(Int->Option R)->(Option R)->Option R
abbrev Ao2 := {R : Type} → Nat → Btf R
def Adq : Ao2 := fun {R} N b c g d e a f => if (c = true) then (a d) else if ((b == 30) = true) then (a e) else f
def A12 (Adq : Ao2) (N : Nat) : Aar Aks := fun R x K => Adq N x.1.2.1 x.1.2.2.1 x.2.1.1 x.2.1.2.1 x.2.1.2.2.1 (fun y0 => K .ret (Aab Axx ((y0, ()), (())))) (K .normal (Aab Axy ((()), (()))))
def Bd5 (N : Nat) : Aar Aks := A12 @Adq N
def A9z : Aac := ⟨Cdw, []⟩
def Awf : Aac := ⟨Azi, []⟩
abbrev B49 (R : Type) := Int->Int->Int->(Int->Option R)->Option R
abbrev Ahs := {R : Type} → Nat → B49 R
def A90 (Adq : Ao2) : Ahs := fun {R} N a c d b => if ((a == 20) = true) then (Adq N a (a == 20) a c d (fun e => b e) (b 0)) else if ((a == 21) = true) then (Adq N a (a == 21) a c d (fun f => b f) (b 0)) else if ((a == 22) = true) then (Adq N a (a == 22) a c d (fun g => b g) (b 0)) else if ((a == 27) = true) then (Adq N a (a == 27) a c d (fun h => b h) (b 0)) else Adq N a (a == 29) a c d (fun i => b i) (b 0)
def Aa9 : Ahs := @A90 @Adq
def Clb (N : Nat) : Abv A9z [Awf] := fun R x C => Aa9 N x.1.1.1 x.1.1.2.1 x.1.1.2.2.1 (fun y0 => C.1 ((y0, ()), (())))
def Alv (Aa9 : Ahs) (N : Nat) : Go.AX.Aaj := Acw [true] [] false 1 0 A9z [Awf] (fun R x C => Aa9 N x.1.1.1 x.1.1.2.1 x.1.1.2.2.1 (fun y0 => C.1 ((y0, ()), (()))))
def A91 (N : Nat) : Go.AX.Aaj := Alv @Aa9 N
def Clc (N : Nat) : List (Nat × Acs) := [(14, Aaa Aks (Bd5 N))]
def B5a (N : Nat) : List (Nat × Go.AX.Aaj) := []
def Ae7 : Aac := ⟨[wq4, B87, B88, B9c], Bko⟩
def Apg : Aac := ⟨Ch4, Cdz⟩
def Aph : Aac := ⟨[A0p, (4, .one (.ptr 33))], [(32, .cells 177 [(.slf 34), (.slf 35)]), (33, .cells 177 [(.slf 36), (.slf 37)]), Cdn, Cmi, Cmj, Cmk]⟩
def Ba4 : Ac7 := .cons .ret Apg (.cons (.exit 4) Aph (.nil))
abbrev Azs (R : Type) := Int->(List UInt8)->d3->d2->d1->Int->Int->d0->d0->d0->d0->(Bool->d0->d0->Option R)->(d0->d0->d0->d0->Option R)->Option R
abbrev Ba5 (R : Type) := Int->(List UInt8)->d3->d2->d1->Int->Int->d0->d0->d0->d0->Option R
abbrev Akb := {R : Type} → Nat → Nat → Azs R
end
end Q

/- Part D1 of the proof. -/
import Derived.Test.YthdjdgfmfgligaaGreatX7
import Derived.Test.YthdjdgfmfgligaaGreatProg
import Derived.KernelRfl
open Go Go.AX Go.Proofs
namespace Q
noncomputable section
set_option maxRecDepth 100000
set_option linter.unusedVariables false
abbrev z0 : Ty := .pair (.int .i64) (.int .i64)
abbrev z1 : Ty := .list z0
abbrev z2 : Ty := .pair (.int .i64) z0
abbrev z3 : Ty := .list (.pair .str (.pair .bool (.list (.int .i64))))
abbrev z4 : Ty := .list z2
abbrev z5 : Ty := .pair (.int .i64) z2
abbrev z6 : Ty := .list (.pair (.int .i64) z5)
abbrev d0 : Type := List (Int)
abbrev d1 : Type := List ((Int × Int))
abbrev d2 : Type := List ((Int × (Int × Int)))
abbrev d3 : Type := List ((List UInt8 × (Bool × d0)))
abbrev d4 : Type := List ((Int × (Int × (Int × (Int × Int)))))
def types : List Nat := [3, 4, 27, 9, 22, 34, 32, 23, 65, 24, 53, 25, 43, 0, 66, 70, 68, 101, 30, 5, 121, 102, 59, 85, 41, 77, 78, 76, 1, 79, 36, 80, 81, 156, 82, 83, 143, 62, 90, 139, 2, 89, 75, 107, 50, 44, 124, 125, 128, 168, 159, 161, 175, 180, 163, 45, 55, 61, 73, 56, 37]
def tt : TT := [(3, (.mk (.int .i64) 1 8 (.some [(.a (.val (.int .i64) ((0 : Int) : Int)))]) false)), (4, (.mk .bool 1 1 (.some [(.a (.val .bool (false : Bool)))]) false)), (27, (.mk (.struct [(0, (1, 9)), (1, (1, 22)), (2, (1, 23)), (3, (1, 24)), (4, (1, 25))]) 5 112 (.some [(.a (.val .str (([] : List UInt8) : List UInt8))), (.a .nilsl), (.a .nilsl), (.a .nilsl), (.a .nilsl)]) true)), (9, (.mk .str 1 16 (.some [(.a (.val .str (([] : List UInt8) : List UInt8)))]) false)), (22, (.mk (.slice 34) 1 24 (.some [(.a .nilsl)]) false)), (34, (.mk (.struct [(0, (1, 9)), (1, (1, 4)), (2, (1, 32))]) 3 48 (.some [(.a (.val .str (([] : List UInt8) : List UInt8))), (.a (.val .bool (false : Bool))), (.a .nilsl)]) true)), (32, (.mk (.slice 3) 1 24 (.some [(.a .nilsl)]) false)), (23, (.mk (.slice 65) 1 24 (.some [(.a .nilsl)]) false)), (65, (.mk (.struct [(0, (1, 3)), (1, (1, 3))]) 2 16 (.some [(.a (.val (.int .i64) ((0 : Int) : Int))), (.a (.val (.int .i64) ((0 : Int) : Int)))]) true)), (24, (.mk (.slice 53) 1 24 (.some [(.a .nilsl)]) false)), (53, (.mk (.struct [(0, (1, 3)), (1, (1, 3)), (2, (1, 3))]) 3 24 (.some [(.a (.val (.int .i64) ((0 : Int) : Int))), (.a (.val (.int .i64) ((0 : Int) : Int))), (.a (.val (.int .i64) ((0 : Int) : Int)))]) true)), (25, (.mk (.slice 43) 1 24 (.some [(.a .nilsl)]) false)), (43, (.mk (.struct [(0, (1, 3)), (1, (1, 3)), (2, (1, 3)), (3, (1, 3)), (4, (1, 3))]) 5 40 (.some [(.a (.val (.int .i64) ((0 : Int) : Int))), (.a (.val (.int .i64) ((0 : Int) : Int))), (.a (.val (.int .i64) ((0 : Int) : Int))), (.a (.val (.int .i64) ((0 : Int) : Int))), (.a (.val (.int .i64) ((0 : Int) : Int)))]) true)), (0, (.mk .other 1 0 (.some [(.a .undef)]) false)), (66, (.mk (.slice 70) 1 24 (.some [(.a .nilsl)]) false)), (70, (.mk (.struct [(0, (1, 3)), (1, (1, 3)), (2, (1, 3))]) 3 24 (.some [(.a (.val (.int .i64) ((0 : Int) : Int))), (.a (.val (.int .i64) ((0 : Int) : Int))), (.a (.val (.int .i64) ((0 : Int) : Int)))]) true)), (68, (.mk (.struct [(0, (1, 9)), (1, (1, 22)), (2, (1, 66)), (3, (1, 23)), (4, (1, 3)), (5, (1, 3))]) 6 104 (.some [(.a (.val .str (([] : List UInt8) : List UInt8))), (.a .nilsl), (.a .nilsl), (.a .nilsl), (.a (.val (.int .i64) ((0 : Int) : Int))), (.a (.val (.int .i64) ((0 : Int) : Int)))]) true)), (101, (.mk (.struct [(0, (1, 32)), (1, (1, 32))]) 2 48 (.some [(.a .nilsl), (.a .nilsl)]) true)), (30, (.mk (.int .i64) 1 8 (.some [(.a (.val (.int .i64) ((0 : Int) : Int)))]) false)), (5, (.mk (.int .u8) 1 1 (.some [(.a (.val (.int .u8) ((0 : Int) : Int)))]) false)), (121, (.mk .other 1 0 (.some [(.a .undef)]) false)), (102, (.mk .other 1 0 (.some [(.a .undef)]) false)), (59, (.mk (.ptr 85) 1 8 (.some [(.a .nilptr)]) false)), (85, (.mk (.struct [(0, (2, 41)), (2, (1, 77)), (3, (1, 3)), (4, (1, 3)), (5, (1, 24)), (6, (1, 78)), (7, (1, 76)), (8, (1, 1)), (9, (1, 79)), (10, (1, 4)), (11, (5, 36)), (16, (1, 3)), (17, (1, 32)), (18, (1, 80)), (19, (1, 9)), (20, (1, 3)), (21, (1, 81)), (22, (1, 82)), (23, (1, 83)), (24, (1, 32))]) 25 296 (.some [(.a (.val (.int .i64) ((0 : Int) : Int))), (.a (.val .bool (false : Bool))), (.a .nilptr), (.a (.val (.int .i64) ((0 : Int) : Int))), (.a (.val (.int .i64) ((0 : Int) : Int))), (.a .nilsl), (.a .nilfn), (.a .nilfn), (.a .nilfn), (.a .nilsl), (.a (.val .bool (false : Bool))), (.a (.val .str (([] : List UInt8) : List UInt8))), (.a (.val (.int .i64) ((0 : Int) : Int))), (.a (.val (.int .i64) ((0 : Int) : Int))), (.a (.val (.int .i64) ((0 : Int) : Int))), (.a (.val (.int .i64) ((0 : Int) : Int))), (.a (.val (.int .i64) ((0 : Int) : Int))), (.a .nilsl), (.a .nilmap), (.a (.val .str (([] : List UInt8) : List UInt8))), (.a (.val (.int .i64) ((0 : Int) : Int))), (.a .nilptr), (.a .nilmap), (.a .nilsl), (.a .nilsl)]) true)), (41, (.mk (.struct [(0, (1, 3)), (1, (1, 4))]) 2 16 (.some [(.a (.val (.int .i64) ((0 : Int) : Int))), (.a (.val .bool (false : Bool)))]) true)), (77, (.mk (.ptr 142) 1 8 (.some [(.a .nilptr)]) false)), (78, (.mk .func 1 8 (.some [(.a .nilfn)]) false)), (76, (.mk .func 1 8 (.some [(.a .nilfn)]) false)), (1, (.mk .func 1 8 (.some [(.a .nilfn)]) false)), (79, (.mk (.slice 5) 1 24 (.some [(.a .nilsl)]) false)), (36, (.mk (.struct [(0, (1, 9)), (1, (1, 3)), (2, (1, 3)), (3, (1, 30)), (4, (1, 3))]) 5 48 (.some [(.a (.val .str (([] : List UInt8) : List UInt8))), (.a (.val (.int .i64) ((0 : Int) : Int))), (.a (.val (.int .i64) ((0 : Int) : Int))), (.a (.val (.int .i64) ((0 : Int) : Int))), (.a (.val (.int .i64) ((0 : Int) : Int)))]) true)), (80, (.mk (.map 3 3) 1 8 (.some [(.a .nilmap)]) false)), (81, (.mk (.ptr 156) 1 8 (.some [(.a .nilptr)]) false)), (156, (.mk (.struct [(0, (1, 3)), (1, (1, 3)), (2, (1, 3)), (3, (1, 4)), (4, (1, 4)), (5, (1, 3)), (6, (1, 3)), (7, (1, 3)), (8, (1, 81))]) 9 64 (.some [(.a (.val (.int .i64) ((0 : Int) : Int))), (.a (.val (.int .i64) ((0 : Int) : Int))), (.a (.val (.int .i64) ((0 : Int) : Int))), (.a (.val .bool (false : Bool))), (.a (.val .bool (false : Bool))), (.a (.val (.int .i64) ((0 : Int) : Int))), (.a (.val (.int .i64) ((0 : Int) : Int))), (.a (.val (.int .i64) ((0 : Int) : Int))), (.a .nilptr)]) true)), (82, (.mk (.map 3 81) 1 8 (.some [(.a .nilmap)]) false)), (83, (.mk (.slice 143) 1 24 (.some [(.a .nilsl)]) false)), (143, (.mk .func 1 8 (.some [(.a .nilfn)]) false)), (62, (.mk .func 1 8 (.some [(.a .nilfn)]) false)), (90, (.mk .func 1 8 (.some [(.a .nilfn)]) false)), (139, (.mk .other 1 0 (.some [(.a .undef)]) false)), (2, (.mk (.int .i64) 1 8 (.some [(.a (.val (.int .i64) ((0 : Int) : Int)))]) false)), (89, (.mk .other 1 0 (.some [(.a .undef)]) false)), (75, (.mk .func 1 8 (.some [(.a .nilfn)]) false)), (107, (.mk .other 1 0 (.some [(.a .undef)]) false)), (50, (.mk .func 1 8 (.some [(.a .nilfn)]) false)), (44, (.mk .func 1 8 (.some [(.a .nilfn)]) false)), (124, (.mk (.struct [(0, (1, 9)), (1, (1, 3)), (2, (1, 3)), (3, (1, 3))]) 4 40 (.some [(.a (.val .str (([] : List UInt8) : List UInt8))), (.a (.val (.int .i64) ((0 : Int) : Int))), (.a (.val (.int .i64) ((0 : Int) : Int))), (.a (.val (.int .i64) ((0 : Int) : Int)))]) true)), (125, (.mk (.arr 31 124) 124 1240 (.some [(.a (.val .str (([] : List UInt8) : List UInt8))), (.a (.val (.int .i64) ((0 : Int) : Int))), (.a (.val (.int .i64) ((0 : Int) : Int))), (.a (.val (.int .i64) ((0 : Int) : Int))), (.a (.val .str (([] : List UInt8) : List UInt8))), (.a (.val (.int .i64) ((0 : Int) : Int))), (.a (.val (.int .i64) ((0 : Int) : Int))), (.a (.val (.int .i64) ((0 : Int) : Int))), (.a (.val .str (([] : List UInt8) : List UInt8))), (.a (.val (.int .i64) ((0 : Int) : Int))), (.a (.val (.int .i64) ((0 : Int) : Int))), (.a (.val (.int .i64) ((0 : Int) : Int))), (.a (.val .str (([] : List UInt8) : List UInt8))), (.a (.val (.int .i64) ((0 : Int) : Int))), (.a (.val (.int .i64) ((0 : Int) : Int))), (.a (.val (.int .i64) ((0 : Int) : Int))), (.a (.val .str (([] : List UInt8) : List UInt8))), (.a (.val (.int .i64) ((0 : Int) : Int))), (.a (.val (.int .i64) ((0 : Int) : Int))), (.a (.val (.int .i64) ((0 : Int) : Int))), (.a (.val .str (([] : List UInt8) : List UInt8))), (.a (.val (.int .i64) ((0 : Int) : Int))), (.a (.val (.int .i64) ((0 : Int) : Int))), (.a (.val (.int .i64) ((0 : Int) : Int))), (.a (.val .str (([] : List UInt8) : List UInt8))), (.a (.val (.int .i64) ((0 : Int) : Int))), (.a (.val (.int .i64) ((0 : Int) : Int))), (.a (.val (.int .i64) ((0 : Int) : Int))), (.a (.val .str (([] : List UInt8) : List UInt8))), (.a (.val (.int .i64) ((0 : Int) : Int))), (.a (.val (.int .i64) ((0 : Int) : Int))), (.a (.val (.int .i64) ((0 : Int) : Int))), (.a (.val .str (([] : List UInt8) : List UInt8))), (.a (.val (.int .i64) ((0 : Int) : Int))), (.a (.val (.int .i64) ((0 : Int) : Int))), (.a (.val (.int .i64) ((0 : Int) : Int))), (.a (.val .str (([] : List UInt8) : List UInt8))), (.a (.val (.int .i64) ((0 : Int) : Int))), (.a (.val (.int .i64) ((0 : Int) : Int))), (.a (.val (.int .i64) ((0 : Int) : Int))), (.a (.val .str (([] : List UInt8) : List UInt8))), (.a (.val (.int .i64) ((0 : Int) : Int))), (.a (.val (.int .i64) ((0 : Int) : Int))), (.a (.val (.int .i64) ((0 : Int) : Int))), (.a (.val .str (([] : List UInt8) : List UInt8))), (.a (.val (.int .i64) ((0 : Int) : Int))), (.a (.val (.int .i64) ((0 : Int) : Int))), (.a (.val (.int .i64) ((0 : Int) : Int))), (.a (.val .str (([] : List UInt8) : List UInt8))), (.a (.val (.int .i64) ((0 : Int) : Int))), (.a (.val (.int .i64) ((0 : Int) : Int))), (.a (.val (.int .i64) ((0 : Int) : Int))), (.a (.val .str (([] : List UInt8) : List UInt8))), (.a (.val (.int .i64) ((0 : Int) : Int))), (.a (.val (.int .i64) ((0 : Int) : Int))), (.a (.val (.int .i64) ((0 : Int) : Int))), (.a (.val .str (([] : List UInt8) : List UInt8))), (.a (.val (.int .i64) ((0 : Int) : Int))), (.a (.val (.int .i64) ((0 : Int) : Int))), (.a (.val (.int .i64) ((0 : Int) : Int))), (.a (.val .str (([] : List UInt8) : List UInt8))), (.a (.val (.int .i64) ((0 : Int) : Int))), (.a (.val (.int .i64) ((0 : Int) : Int))), (.a (.val (.int .i64) ((0 : Int) : Int))), (.a (.val .str (([] : List UInt8) : List UInt8))), (.a (.val (.int .i64) ((0 : Int) : Int))), (.a (.val (.int .i64) ((0 : Int) : Int))), (.a (.val (.int .i64) ((0 : Int) : Int))), (.a (.val .str (([] : List UInt8) : List UInt8))), (.a (.val (.int .i64) ((0 : Int) : Int))), (.a (.val (.int .i64) ((0 : Int) : Int))), (.a (.val (.int .i64) ((0 : Int) : Int))), (.a (.val .str (([] : List UInt8) : List UInt8))), (.a (.val (.int .i64) ((0 : Int) : Int))), (.a (.val (.int .i64) ((0 : Int) : Int))), (.a (.val (.int .i64) ((0 : Int) : Int))), (.a (.val .str (([] : List UInt8) : List UInt8))), (.a (.val (.int .i64) ((0 : Int) : Int))), (.a (.val (.int .i64) ((0 : Int) : Int))), (.a (.val (.int .i64) ((0 : Int) : Int))), (.a (.val .str (([] : List UInt8) : List UInt8))), (.a (.val (.int .i64) ((0 : Int) : Int))), (.a (.val (.int .i64) ((0 : Int) : Int))), (.a (.val (.int .i64) ((0 : Int) : Int))), (.a (.val .str (([] : List UInt8) : List UInt8))), (.a (.val (.int .i64) ((0 : Int) : Int))), (.a (.val (.int .i64) ((0 : Int) : Int))), (.a (.val (.int .i64) ((0 : Int) : Int))), (.a (.val .str (([] : List UInt8) : List UInt8))), (.a (.val (.int .i64) ((0 : Int) : Int))), (.a (.val (.int .i64) ((0 : Int) : Int))), (.a (.val (.int .i64) ((0 : Int) : Int))), (.a (.val .str (([] : List UInt8) : List UInt8))), (.a (.val (.int .i64) ((0 : Int) : Int))), (.a (.val (.int .i64) ((0 : Int) : Int))), (.a (.val (.int .i64) ((0 : Int) : Int))), (.a (.val .str (([] : List UInt8) : List UInt8))), (.a (.val (.int .i64) ((0 : Int) : Int))), (.a (.val (.int .i64) ((0 : Int) : Int))), (.a (.val (.int .i64) ((0 : Int) : Int))), (.a (.val .str (([] : List UInt8) : List UInt8))), (.a (.val (.int .i64) ((0 : Int) : Int))), (.a (.val (.int .i64) ((0 : Int) : Int))), (.a (.val (.int .i64) ((0 : Int) : Int))), (.a (.val .str (([] : List UInt8) : List UInt8))), (.a (.val (.int .i64) ((0 : Int) : Int))), (.a (.val (.int .i64) ((0 : Int) : Int))), (.a (.val (.int .i64) ((0 : Int) : Int))), (.a (.val .str (([] : List UInt8) : List UInt8))), (.a (.val (.int .i64) ((0 : Int) : Int))), (.a (.val (.int .i64) ((0 : Int) : Int))), (.a (.val (.int .i64) ((0 : Int) : Int))), (.a (.val .str (([] : List UInt8) : List UInt8))), (.a (.val (.int .i64) ((0 : Int) : Int))), (.a (.val (.int .i64) ((0 : Int) : Int))), (.a (.val (.int .i64) ((0 : Int) : Int))), (.a (.val .str (([] : List UInt8) : List UInt8))), (.a (.val (.int .i64) ((0 : Int) : Int))), (.a (.val (.int .i64) ((0 : Int) : Int))), (.a (.val (.int .i64) ((0 : Int) : Int))), (.a (.val .str (([] : List UInt8) : List UInt8))), (.a (.val (.int .i64) ((0 : Int) : Int))), (.a (.val (.int .i64) ((0 : Int) : Int))), (.a (.val (.int .i64) ((0 : Int) : Int)))]) false)), (128, (.mk .other 1 0 (.some [(.a .undef)]) false)), (168, (.mk (.map 3 4) 1 8 (.some [(.a .nilmap)]) false)), (159, (.mk (.ptr 161) 1 8 (.some [(.a .nilptr)]) false)), (161, (.mk (.struct [(0, (1, 159)), (1, (1, 79))]) 2 32 (.some [(.a .nilptr), (.a .nilsl)]) true)), (175, (.mk (.ptr 5) 1 8 (.some [(.a .nilptr)]) false)), (180, (.mk .other 1 8 (.some [(.a .nilptr)]) false)), (163, (.mk .iface 1 16 (.some [(.a .nilif)]) false)), (45, (.mk .other 1 0 (.some [(.a .undef)]) false)), (55, (.mk (.ptr 61) 1 8 (.some [(.a .nilptr)]) false)), (61, (.mk (.struct [(0, (1, 59)), (1, (1, 25))]) 2 32 (.some [(.a .nilptr), (.a .nilsl)]) true)), (73, (.mk .other 1 0 (.some [(.a .undef)]) false)), (56, (.mk .other 1 0 (.some [(.a .undef)]) false)), (37, (.mk .other 1 0 (.some [(.a .undef)]) false))]
abbrev nK (R : Type) : ASt → (Ex → ASt → Option R) → Option R := fun _ _ => none
abbrev wq0 : Amd := (.val (.int .i64))
abbrev wq1 : Nat × Acd := (3, .one (.fn 16))
abbrev wq2 : Nat × Acd := (1, .one (.ptr 32))
abbrev wq3 : Nat × Acd := (3, .one (.ptr 32))
abbrev wq4 : Nat × Acd := (4, .one (.ptr 32))
abbrev wq5 : Nat × Acd := (0, .one (.val z4))
abbrev wq6 : Nat × Acd := (6, .one (.ptr 33))
abbrev wq7 : Nat × Acd := (5, .one (.ptr 32))
abbrev wq8 : Nat × Acd := (0, .one (.val z6))
abbrev wq9 : Nat × Acd := (2, .one (.ptr 32))
abbrev Bhc : Nat × Acd := (3, .one (.ptr 33))
abbrev B88 : Nat × Acd := (2, .one (.ptr 33))
abbrev B89 : Nat × Acd := (4, .one (.ptr 34))
abbrev Cnz : List Amd := [(.ptr 0), (.slf 1)]
abbrev Ch1 : Nat × Acd := (80, .one (.val z4))
abbrev Bn8 : Nat × Acd := (0, .one (.val .str))
abbrev B9a : List (Nat × Acd) := [wq2]
abbrev Bs9 : List (Nat × Acd) := [wq3]
abbrev Cme : Nat × Acd := (0, .one (.val .bool))
abbrev Cmf : Nat × Afk := (1, .row 5 (.int .u8))
abbrev Bkp : Nat × Acd := (7, .one (.val .bool))
abbrev Ch2 : Nat × Acd := (6, .one (.val .bool))
abbrev Cmg : Nat × Acd := (2, .one (.val .bool))
abbrev Ch3 : Nat × Acd := (4, .one (.val .bool))
abbrev B9b : Nat × Acd := (5, .one (.val .bool))
abbrev Ch4 : Nat × Acd := (3, .one (.val .bool))
abbrev Bz9 : Nat × Acd := (8, .one (.val .bool))
abbrev Ch5 : Nat × Acd := (9, .one (.val .bool))
abbrev Cn0 : List Amd := [(.slf 35), (.slf 36)]
abbrev Cn1 : List Amd := [(.slf 37), (.slf 38)]
abbrev Cn2 : List Amd := [(.slf 33), (.slf 34)]
abbrev Cdo : Nat × Acd := (1, .one (.fnp 12 [0]))
abbrev Cdp : Nat × Acd := (2, .one (.fnp 10 [0]))
abbrev Ah0 : List (Nat × Acd) := [Cme]
abbrev B9c : List (Nat × Acd) := [Ch2]
abbrev Azm : List (Nat × Acd) := [Cmg]
abbrev B0a : Nat × Afk := (33, .row 3 (.int .i64))
abbrev Cdq : Nat × Afk := (34, .row 3 (.int .i64))
abbrev Cmh : Nat × Afk := (32, .row 3 (.int .i64))
abbrev Aw8 : List (Nat × Acd) := [Ch3]
abbrev Bn9 : List (Nat × Acd) := [Bz9]
abbrev Cmi : Nat × Afk := (35, .row 3 (.int .i64))
abbrev Cmj : Nat × Afk := (36, .row 3 (.int .i64))
abbrev Cmk : Nat × Afk := (37, .row 3 (.int .i64))
abbrev Cn3 : Nat × Afk := (38, .row 3 (.int .i64))
abbrev B0b : Amd := (.val (.list (.int .i64)))
abbrev Azn : Nat × Acd := (3, .one wq0)
abbrev Azo : Nat × Acd := (4, .one wq0)
abbrev Alk : Nat × Acd := (1, .one wq0)
abbrev Ch6 : Nat × Acd := (0, .one wq0)
abbrev A0y : Nat × Acd := (2, .one wq0)
abbrev A8q : Nat × Acd := (5, .one wq0)
abbrev A0z : Nat × Acd := (6, .one wq0)
abbrev B9d : Nat × Acd := (9, .one wq0)
abbrev Boa : Nat × Acd := (7, .one wq0)
abbrev Cdr : Nat × Acd := (8, .one wq0)
abbrev B9e : Nat × Acd := (10, .one wq0)
abbrev Cds : Nat × Acd := (11, .one wq0)
abbrev Ch7 : Nat × Acd := (37, .one wq0)
abbrev Cdt : Nat × Acd := (13, .one wq0)
abbrev Ch8 : Nat × Acd := (81, .one wq0)
abbrev Ch9 : Nat × Acd := (82, .one wq0)
abbrev Cdu : Nat × Acd := (40, .one wq0)
abbrev Cia : List (Nat × Acd) := [Azn]
abbrev Aw9 : List (Nat × Acd) := [Ch6]
abbrev Cdv : List (Nat × Acd) := [Azo]
abbrev A8r : List (Nat × Acd) := [A0y]
abbrev Cdw : List (Nat × Acd) := [Alk]
abbrev Cn4 : Nat × Afk := (0, .cells 161 Cnz)
abbrev Cib : Nat × Acd := (0, .one B0b)
abbrev Cn5 : Nat × Afk := (33, .cells 101 Cn0)
abbrev Cn6 : Nat × Afk := (34, .cells 101 Cn1)
abbrev Cn7 : Nat × Afk := (32, .cells 101 Cn2)
abbrev Cdx : List (Nat × Acd) := [wq9, Bhc]
abbrev Cic : List (Nat × Acd) := [wq9, Ch4]
abbrev Cid : List (Nat × Acd) := [Ch6, (1, .one (.ptr 0))]
abbrev Cie : List (Nat × Acd) := [wq5, Azn]
abbrev B0c : List (Nat × Acd) := [wq5, Alk]
abbrev Cif : List (Nat × Acd) := [wq2, Azn]
abbrev Cig : List (Nat × Acd) := [wq2, Cdr]
abbrev B9f : List (Nat × Afk) := [Cmh, B0a]
abbrev Cdy : List Amd := [(.val .str), (.val z3), (.val z1), (.val z4), (.val z6)]
abbrev B9g : List Amd := [wq0, wq0, wq0]
abbrev Cih : List (Nat × Afk) := [Cn4, Cmf]
abbrev Bta : Nat × Acd := (0, .agg Cdy)
abbrev Cdz : List (Nat × Acd) := [Bta]
abbrev Cd0 : List (Nat × Acd) := [wq7, Bkp, Bz9]
abbrev B0d : Nat × Acd := (0, .agg B9g)
abbrev Cd1 : Nat × Afk := (0, .cells 27 Cdy)
abbrev Cd2 : List (Nat × Acd) := [B0d]
abbrev B0e : Nat × Afk := (32, .cells 27 Cdy)
abbrev Cii : List Amd := [(.val .str), wq0, wq0, wq0]
abbrev Bhd : List (Nat × Afk) := [Cd1]
abbrev A3k : List (Nat × Afk) := [B0e]
abbrev Cij : Nat × Afk := (32, .cells 70 B9g)
abbrev Cn8 : Nat × Afk := (33, .cells 70 B9g)
abbrev A8s : List (Nat × Afk) := [Cij]
abbrev Cik : Nat × Acd := (2, .agg Cii)
abbrev Cn9 : List Amd := [(.val .str), (.val z3), (.slf 34), (.val z1), wq0, wq0]
abbrev Cd3 : List Amd := [(.val .str), (.val z3), (.val z4), (.val z1), wq0, wq0]
abbrev B7c : List (Nat × Acd) := [Ch6, Alk, A0y]
abbrev Cnm : Nat × Afk := (33, .cells 124 Cii)
abbrev Cd4 : List (Nat × Afk) := [Cn7, B0a, Cdq]
abbrev Cd5 : Nat × Acd := (0, .agg Cd3)
abbrev A3l : List (Nat × Acd) := [Cd5]
abbrev B7d : List Amd := [wq0, wq0, wq0, wq0, wq0]
abbrev Cd6 : Nat × Afk := (33, .cells 68 Cn9)
abbrev A3m : Nat × Afk := (32, .cells 68 Cd3)
abbrev Arr : List (Nat × Afk) := [A3m]
abbrev Ci4 : Nat × Afk := (32, .cells 43 B7d)
abbrev Cnn : Nat × Afk := (33, .cells 43 B7d)
abbrev Bxa : List (Nat × Afk) := [Ci4]
abbrev Cd7 : List (Nat × Acd) := [wq2, B88, B89, A0z, Boa]
abbrev B7e : List (Nat × Acd) := [Bta, Alk, A0y]
abbrev Cd8 : List (Nat × Acd) := [wq2, Azn, Azo, A8q, A0z]
abbrev Cd9 : List (Nat × Afk) := [Cij, Cnm]
abbrev Bqb : List (Nat × Afk) := [A3m, Cn8]
abbrev Bbh : List (Nat × Afk) := [B0e, Cnn]
abbrev Bkq : List (Nat × Afk) := [A3m, Cn5, Cn6, Cmi, Cmj, Cmk, Cn3]
def A7j : Code := Tryz.f3.body.getD .skip
def Anv : Code := Tryz.f4.body.getD .skip
def Ah3 : Aac := ⟨[wq2, Azn, Azo], A3k⟩
def Ap9 : Aac := ⟨Cia, []⟩
def Bcj : Acy := .cons (.exit 0) Ap9 (.nil)
abbrev A00 (R : Type) := Int->Int->(List UInt8)->d3->d1->d2->d4->(Int->Option R)->Option R
abbrev Bck (R : Type) := Int->Int->(List UInt8)->d3->d1->d2->d4->Option R
abbrev Atd := {R : Type} → Nat → Nat → A00 R
def Ate {R : Type} (N : Nat) (rc : Bck R) : A00 R := fun c a d b e f g h => if ((decide (a < (len b))) = true) then (if (0 ≤ a ∧ a < len b) then (if (0 ≤ a ∧ a < len b) then (rc (wi (c + (wi ((((List.length (b.getD a.toNat (([] : List UInt8), (false, ([] : List Int)))).2.2) : Nat) : Int) + (((List.length (b.getD a.toNat (([] : List UInt8), (false, ([] : List Int)))).1) : Nat) : Int))))) (wi (a + 1)) d b e f g) else none) else none) else h c
def Ad2 {R : Type} (N : Nat) : Nat → A00 R
 | 0 => fun _ _ _ _ _ _ _ _ => none
 | k + 1 => fun a b c d e f g h => Ate N (fun a b c d e f g => Ad2 N k a b c d e f g h) a b c d e f g h
def A01 (Ad2 : Atd) (N k : Nat) : Aap Ah3 := fun R x K => Ad2 N k x.1.2.1 x.1.2.2.1 x.2.1.1 x.2.1.2.1 x.2.1.2.2.1 x.2.1.2.2.2.1 x.2.1.2.2.2.2.1 (fun y0 => K (.exit 0) (Aab Ap9 ((y0, ()), (()))))
def A02 (N k : Nat) : Aap Ah3 := A01 @Ad2 N k
def A8t : Aac := ⟨Cdz, []⟩
def Avt : Aac := ⟨Ah0, []⟩
abbrev B4b (R : Type) := (List UInt8)->d3->d1->d2->d4->(Bool->Option R)->Option R
abbrev Aur := {R : Type} → Nat → B4b R
def A8u (Ad2 : Atd) : Aur := fun {R} N b c d e f a => if ((decide ((len f) > 33000)) = true) then (a true) else if ((decide ((len e) > 300)) = true) then (a true) else if ((decide ((len c) > 2100)) = true) then (a true) else if ((decide ((len d) > 300)) = true) then (a true) else if ((decide ((len b) > 1000)) = true) then (a true) else Ad2 N N 0 0 b c d e f fun g => a (decide (g > 20000))
def Ait : Aur := @A8u @Ad2
def Cko (N : Nat) : Ab4 A8t [Avt] := fun R x C => Ait N x.1.1.1 x.1.1.2.1 x.1.1.2.2.1 x.1.1.2.2.2.1 x.1.1.2.2.2.2.1 (fun y0 => C.1 ((y0, ()), (())))
def Bk5 (Ait : Aur) (N : Nat) : Go.AX.Aaj := Ac8 [true] [] false 1 0 A8t [Avt] (fun R x C => Ait N x.1.1.1 x.1.1.2.1 x.1.1.2.2.1 x.1.1.2.2.2.1 x.1.1.2.2.2.2.1 (fun y0 => C.1 ((y0, ()), (()))))
def Bk6 (N : Nat) : Go.AX.Aaj := Bk5 @Ait N
def Ckp (N : Nat) : List (Nat × Ac1) := [(11, Aaa Ah3 (A02 N N))]
def B4c (N : Nat) : List (Nat × Go.AX.Aaj) := []
def A8v (N : Nat) : Go.AX.Aaj := Bkb
def Aoy : Code := Tryz.f6.body.getD .skip
def Aim : Code := Tryz.f11.body.getD .skip
def Ahu : Aac := ⟨[Cdo, Cdp, wq3, (8, .one (.ptr 33)), (34, .one wq0), (35, .one wq0)], [Cd1, B0e, Cd6, (34, .row 70 z2)]⟩
def Ars : Aac := ⟨[Cdo, Cdp, wq3, (8, .one (.ptr 33))], [Cd1, B0e, Cd6, (34, .row 70 z2)]⟩
def Bfl : Acy := .cons (.exit 0) Ars (.nil)
abbrev A3n (R : Type) := Int->Int->(List UInt8)->d3->d1->d2->d4->(List UInt8)->d3->d1->d2->d4->(List UInt8)->d3->d1->Int->Int->d2->((List UInt8)->d3->d1->d2->d4->(List UInt8)->d3->d1->d2->d4->(List UInt8)->d3->d1->Int->Int->d2->Option R)->Option R
abbrev Bfm (R : Type) := Int->Int->(List UInt8)->d3->d1->d2->d4->(List UInt8)->d3->d1->d2->d4->(List UInt8)->d3->d1->Int->Int->d2->Option R
abbrev Aqa := {R : Type} → Nat → Nat → A3n R
def Avu {R : Type} (N : Nat) (rc : Bfm R) : A3n R := fun c d e f g h i j l m n o p q r s t a u => if ((decide (d < c)) = true) then (let b := (wi (d + 1)); if ((((List.length a) + (List.length ((24, (b, 0)) :: [(26, (0, 0))]))) * (24 : Nat)) ≤ (70368744177664 : Nat)) then (rc c b e f g h i j l m n o p q r s t (a ++ ((24, (b, 0)) :: [(26, (0, 0))]))) else none) else u e f g h i j l m n o p q r s t a
def Adp {R : Type} (N : Nat) : Nat → A3n R
 | 0 => fun _ _ _ _ _ _ _ _ _ _ _ _ _ _ _ _ _ _ _ => none
 | k + 1 => fun a b c d e f g h i j l m n o p q r s t => Avu N (fun a b c d e f g h i j l m n o p q r s => Adp N k a b c d e f g h i j l m n o p q r s t) a b c d e f g h i j l m n o p q r s t
def Avv (Adp : Aqa) (N k : Nat) : Aap Ahu := fun R x K => Adp N k x.1.2.2.2.2.1 x.1.2.2.2.2.2.1 x.2.1.1 x.2.1.2.1 x.2.1.2.2.1 x.2.1.2.2.2.1 x.2.1.2.2.2.2.1 x.2.2.1.1 x.2.2.1.2.1 x.2.2.1.2.2.1 x.2.2.1.2.2.2.1 x.2.2.1.2.2.2.2.1 x.2.2.2.1.1 x.2.2.2.1.2.1 x.2.2.2.1.2.2.2.1 x.2.2.2.1.2.2.2.2.1 x.2.2.2.1.2.2.2.2.2.1 x.2.2.2.2.1 (fun y0 y1 y2 y3 y4 y5 y6 y7 y8 y9 y10 y11 y12 y13 y14 y15 => K (.exit 0) (Aab Ars (((), (), (), (), ()), ((y0, y1, y2, y3, y4, ()), (y5, y6, y7, y8, y9, ()), (y10, y11, (), y12, y13, y14, ()), y15, ()))))
def A3o (N k : Nat) : Aap Ahu := Avv @Adp N k
def Bk7 : Code := Tryz.f25.body.getD .skip
def Anw : Code := Tryz.f46.body.getD .skip
def Ah4 : Aac := ⟨[Azn, (27, .one (.val z3)), (28, .one wq0), (29, .one wq0)], []⟩
def Aqb : Aac := ⟨Cia, []⟩
def Bcl : Acy := .cons (.exit 0) Aqb (.nil)
abbrev A03 (R : Type) := Int->d3->Int->Int->(Int->Option R)->Option R
abbrev Bcm (R : Type) := Int->d3->Int->Int->Option R
abbrev Atf := {R : Type} → Nat → Nat → A03 R
def Atg {R : Type} (N : Nat) (rc : Bcm R) : A03 R := fun d b c a f => if ((decide (a < c)) = true) then (if (0 ≤ a ∧ a < len b) then (let e := (wi (d + (((List.length (b.getD a.toNat (([] : List UInt8), (false, ([] : List Int)))).2.2) : Nat) : Int))); if ((b.getD a.toNat (([] : List UInt8), (false, ([] : List Int)))).2.1 = true) then (rc (wi (e + (wi (Int.tdiv (wi ((((List.length (b.getD a.toNat (([] : List UInt8), (false, ([] : List Int)))).1) : Nat) : Int) + 2)) 2)))) b c (wi (a + 1))) else rc e b c (wi (a + 1))) else none) else f d
def Ad3 {R : Type} (N : Nat) : Nat → A03 R
 | 0 => fun _ _ _ _ _ => none
 | k + 1 => fun a b c d e => Atg N (fun a b c d => Ad3 N k a b c d e) a b c d e
def A04 (Ad3 : Atf) (N k : Nat) : Aap Ah4 := fun R x K => Ad3 N k x.1.1 x.1.2.1 x.1.2.2.1 x.1.2.2.2.1 (fun y0 => K (.exit 0) (Aab Aqb ((y0, ()), (()))))
def A05 (N k : Nat) : Aap Ah4 := A04 @Ad3 N k
def A8w : Aac := ⟨A3l, []⟩
def Avw : Aac := ⟨Ah0, []⟩
abbrev B4d (R : Type) := (List UInt8)->d3->d2->d1->Int->Int->(Bool->Option R)->Option R
abbrev Aus := {R : Type} → Nat → B4d R
def A8x (Ad3 : Atf) : Aus := fun {R} N g b c h d e a => if ((decide ((len c) > 40000)) = true) then (a true) else if ((decide ((len b) > 2000)) = true) then (a true) else if ((decide (d > 200)) = true) then (a true) else if ((decide (e > 20000)) = true) then (a true) else Ad3 N N 0 b (len b) 0 fun f => a (decide (f > 7800))
def Aiu : Aus := @A8x @Ad3
def Ckq (N : Nat) : Ab4 A8w [Avw] := fun R x C => Aiu N x.1.1.1 x.1.1.2.1 x.1.1.2.2.1 x.1.1.2.2.2.1 x.1.1.2.2.2.2.1 x.1.1.2.2.2.2.2.1 (fun y0 => C.1 ((y0, ()), (())))
def Bk8 (Aiu : Aus) (N : Nat) : Go.AX.Aaj := Ac8 [true] [] false 1 0 A8w [Avw] (fun R x C => Aiu N x.1.1.1 x.1.1.2.1 x.1.1.2.2.1 x.1.1.2.2.2.1 x.1.1.2.2.2.2.1 x.1.1.2.2.2.2.2.1 (fun y0 => C.1 ((y0, ()), (()))))
def Bk9 (N : Nat) : Go.AX.Aaj := Bk8 @Aiu N
def Ckr (N : Nat) : List (Nat × Ac1) := [(11, Aaa Ah4 (A05 N N))]
def B4e (N : Nat) : List (Nat × Go.AX.Aaj) := []
def Afq : Code := Tryz.f47.body.getD .skip
def Arm : Code := Tryz.f68.body.getD .skip
def Ako : Code := Tryz.f108.body.getD .skip
def Anc (N : Nat) : Go.AX.Aaj := A8p 161 5
def Ags : Aac := ⟨[(0, .one (.ptr 0)), (1, .one (.val (.int .u8)))], [(0, .cells 161 [(.same .nilptr), (.slf 1)]), Cmf]⟩
def Ajf : Aac := ⟨[(0, .one (.same .nilif))], Cih⟩
abbrev A7k (R : Type) := Int->d0->(d0->Option R)->Option R
abbrev Ah2 := {R : Type} → Nat → A7k R
def Abh : Ah2 := fun {R} N a b c => if ((((List.length b) + (List.length (a :: ([] : List Int)))) * (1 : Nat)) ≤ (70368744177664 : Nat)) then (c (b ++ (a :: ([] : List Int)))) else none
def A7l (N : Nat) : Ab4 Ags [Ajf] := fun R x C => Abh N x.1.2.1 x.2.2.1 (fun y0 => C.1 (((), ()), (((), (), ()), y0, ())))
def Ane (Abh : Ah2) (N : Nat) : Go.AX.Aaj := Ac8 [false, true] (List.replicate 32 true) true 2 2 Ags [Ajf] (fun R x C => Abh N x.1.2.1 x.2.2.1 (fun y0 => C.1 (((), ()), (((), (), ()), y0, ()))))
def As5 (N : Nat) : Go.AX.Aaj := Ane @Abh N
def A7m (N : Nat) : List (Nat × Ac1) := []
def As6 (N : Nat) : List (Nat × Go.AX.Aaj) := [(141, Anc N)]
def Api (N : Nat) : Go.AX.Aaj := A8o
def Alp : Aac := ⟨[(0, .one (.ptr 0)), (1, .one (.val (.int .u8)))], Cih⟩
def Ah5 : Aac := ⟨[(0, .one (.same .nilif))], Cih⟩
abbrev A3p (R : Type) := Int->d0->(d0->Option R)->Option R
abbrev Afl := {R : Type} → Nat → A3p R
def Aat : Afl := fun {R} N a b c => if ((((List.length b) + (List.length (a :: ([] : List Int)))) * (1 : Nat)) ≤ (70368744177664 : Nat)) then (c (b ++ (a :: ([] : List Int)))) else none
def A3q (N : Nat) : Ab4 Alp [Ah5] := fun R x C => Aat N x.1.2.1 x.2.2.1 (fun y0 => C.1 (((), ()), (((), (), ()), y0, ())))
def Alq (Aat : Afl) (N : Nat) : Go.AX.Aaj := Ac8 [false, true] (List.replicate 32 true) true 2 2 Alp [Ah5] (fun R x C => Aat N x.1.2.1 x.2.2.1 (fun y0 => C.1 (((), ()), (((), (), ()), y0, ()))))
def Aqc (N : Nat) : Go.AX.Aaj := Alq @Aat N
def A3r (N : Nat) : List (Nat × Ac1) := []
def Aqd (N : Nat) : List (Nat × Go.AX.Aaj) := [(141, Anc N)]
def Aku : Aac := ⟨[Bn8, wq4, B9e, Cds], [(32, .cells 161 [(.ptr 32), (.slf 33)]), (33, .row 5 (.int .u8))]⟩
def Avx : Aac := ⟨[(2, .one (.val .str)), Azn], []⟩
def Avy : Aac := ⟨[Bn8, wq4], [(32, .cells 161 [(.ptr 32), (.slf 33)]), (33, .row 5 (.int .u8))]⟩
def Bla : Acy := .cons .ret Avx (.cons (.exit 0) Avy (.nil))
abbrev A8y (R : Type) := (List UInt8)->Int->Int->d0->((List UInt8)->Int->Option R)->((List UInt8)->d0->Option R)->Option R
abbrev Blb (R : Type) := (List UInt8)->Int->Int->d0->Option R
abbrev A0f := {R : Type} → Nat → Nat → A8y R
def A0g (Aat : Afl) {R : Type} (N : Nat) (rc : Blb R) : A8y R := fun b e a f g h => if ((decide (a < e)) = true) then (if (0 ≤ a ∧ a < len b) then (let c := (((UInt8.toNat (b.getD a.toNat (0 : UInt8))) : Nat) : Int); let d := (Bh6 [(10 : UInt8), (9 : UInt8), (42 : UInt8), (34 : UInt8)] c); if ((decide (d ≥ 0)) = true) then (Aat N 42 f fun i => if ((0 ≤ d) ∧ (d < 4)) then (Aat N (((UInt8.toNat (List.getD [(110 : UInt8), (116 : UInt8), (42 : UInt8), (34 : UInt8)] (Int.toNat d) (0 : UInt8))) : Nat) : Int) i fun j => rc b e (wi (a + 1)) j) else none) else if ((decide (c < 32)) = true) then (g ([] : List UInt8) 3) else if ((decide (c > 126)) = true) then (g ([] : List UInt8) 3) else Aat N c f fun l => rc b e (wi (a + 1)) l) else none) else h b f
def Afo {R : Type} (N : Nat) : Nat → A8y R
 | 0 => fun _ _ _ _ _ _ => none
 | k + 1 => fun a b c d e f => A0g @Aat N (fun a b c d => Afo N k a b c d e f) a b c d e f
def A8z (Afo : A0f) (N k : Nat) : Aap Aku := fun R x K => Afo N k x.1.1 x.1.2.2.1 x.1.2.2.2.1 x.2.2.1 (fun y0 y1 => K .ret (Aab Avx ((y0, y1, ()), (())))) (fun y0 y1 => K (.exit 0) (Aab Avy ((y0, (), ()), (((), (), ()), y1, ()))))
def A80 (N k : Nat) : Aap Aku := A8z @Afo N k
def Alr (N : Nat) : Go.AX.Aaj := Bbc 161 5
def Bhe : Aac := ⟨[Bn8], []⟩
def A0h : Aac := ⟨[Bn8, Alk], []⟩
abbrev Cau (R : Type) := (List UInt8)->((List UInt8)->Int->Option R)->Option R
abbrev Aj0 := {R : Type} → Nat → Cau R
def Bhf (Abh : Ah2) (Afo : A0f) (Aat : Afl) : Aj0 := fun {R} N c b => Abh N 34 ([] : List Int) fun d => Afo N N c (len c) 0 d (fun e f => b e f) fun g h => if ((decide ((len g) > 100)) = true) then (b ([] : List UInt8) 2) else Aat N 34 h fun a => if (((0 : Nat) < (List.length a)) ∧ (((List.length a) ≤ (70368744177664 : Nat)) ∧ ((Aox a) = true))) then (b (Bbb a) 0) else none
def Acx : Aj0 := @Bhf @Abh @Afo @Aat
def Cm3 (N : Nat) : Ab4 Bhe [A0h] := fun R x C => Acx N x.1.1 (fun y0 y1 => C.1 ((y0, y1, ()), (())))
def Aom (Acx : Aj0) (N : Nat) : Go.AX.Aaj := Ac8 [true] [] false 1 0 Bhe [A0h] (fun R x C => Acx N x.1.1 (fun y0 y1 => C.1 ((y0, y1, ()), (()))))
def Bhg (N : Nat) : Go.AX.Aaj := Aom @Acx N
def Cm4 (N : Nat) : List (Nat × Ac1) := [(9, Aaa Aku (A80 N N))]
def Cav (N : Nat) : List (Nat × Go.AX.Aaj) := [(108, Bbs 2 Ags (As5 N) (Aqc N)), (109, Api N), (110, Alr N)]
def Blc : Code := Tryz.f69.body.getD .skip
def A81 : Aac := ⟨[], []⟩
def Avz : Aac := ⟨[(0, .agg [(.val .str), wq0, wq0, wq0, (.val .str), wq0, wq0, wq0, (.val .str), wq0, wq0, wq0, (.val .str), wq0, wq0, wq0, (.val .str), wq0, wq0, wq0, (.val .str), wq0, wq0, wq0, (.val .str), wq0, wq0, wq0, (.val .str), wq0, wq0, wq0, (.val .str), wq0, wq0, wq0, (.val .str), wq0, wq0, wq0, (.val .str), wq0, wq0, wq0, (.val .str), wq0, wq0, wq0, (.val .str), wq0, wq0, wq0, (.val .str), wq0, wq0, wq0, (.val .str), wq0, wq0, wq0, (.val .str), wq0, wq0, wq0, (.val .str), wq0, wq0, wq0, (.val .str), wq0, wq0, wq0, (.val .str), wq0, wq0, wq0, (.val .str), wq0, wq0, wq0, (.val .str), wq0, wq0, wq0, (.val .str), wq0, wq0, wq0, (.val .str), wq0, wq0, wq0, (.val .str), wq0, wq0, wq0, (.val .str), wq0, wq0, wq0, (.val .str), wq0, wq0, wq0, (.val .str), wq0, wq0, wq0, (.val .str), wq0, wq0, wq0, (.val .str), wq0, wq0, wq0, (.val .str), wq0, wq0, wq0, (.val .str), wq0, wq0, wq0])], []⟩
abbrev B4f (R : Type) := ((List UInt8)->Int->Int->Int->(List UInt8)->Int->Int->Int->(List UInt8)->Int->Int->Int->(List UInt8)->Int->Int->Int->(List UInt8)->Int->Int->Int->(List UInt8)->Int->Int->Int->(List UInt8)->Int->Int->Int->(List UInt8)->Int->Int->Int->(List UInt8)->Int->Int->Int->(List UInt8)->Int->Int->Int->(List UInt8)->Int->Int->Int->(List UInt8)->Int->Int->Int->(List UInt8)->Int->Int->Int->(List UInt8)->Int->Int->Int->(List UInt8)->Int->Int->Int->(List UInt8)->Int->Int->Int->(List UInt8)->Int->Int->Int->(List UInt8)->Int->Int->Int->(List UInt8)->Int->Int->Int->(List UInt8)->Int->Int->Int->(List UInt8)->Int->Int->Int->(List UInt8)->Int->Int->Int->(List UInt8)->Int->Int->Int->(List UInt8)->Int->Int->Int->(List UInt8)->Int->Int->Int->(List UInt8)->Int->Int->Int->(List UInt8)->Int->Int->Int->(List UInt8)->Int->Int->Int->(List UInt8)->Int->Int->Int->(List UInt8)->Int->Int->Int->(List UInt8)->Int->Int->Int->Option R)->Option R
abbrev Aj1 := {R : Type} → Nat → B4f R
def Acb : Aj1 := fun {R} N a => a ([] : List UInt8) 0 0 0 ([(110 : UInt8), (117 : UInt8), (109 : UInt8)]) 1 0 1 ([(108 : UInt8), (111 : UInt8), (99 : UInt8), (97 : UInt8), (108 : UInt8)]) 2 0 1 ([(112 : UInt8), (117 : UInt8), (116 : UInt8), (108 : UInt8)]) 2 1 0 ([(97 : UInt8), (100 : UInt8), (100 : UInt8), (114 : UInt8), (108 : UInt8)]) 2 0 1 ([(103 : UInt8), (108 : UInt8), (111 : UInt8), (98 : UInt8), (97 : UInt8), (108 : UInt8)]) 3 0 1 ([(112 : UInt8), (117 : UInt8), (116 : UInt8), (103 : UInt8)]) 3 1 0 ([(97 : UInt8), (100 : UInt8), (100 : UInt8), (114 : UInt8), (103 : UInt8)]) 3 0 1 ([(115 : UInt8), (116 : UInt8), (97 : UInt8), (116 : UInt8), (105 : UInt8), (99 : UInt8)]) 4 0 1 ([(112 : UInt8), (117 : UInt8), (116 : UInt8), (115 : UInt8)]) 4 1 0 ([(97 : UInt8), (100 : UInt8), (100 : UInt8), (114 : UInt8), (115 : UInt8)]) 4 0 1 ([(112 : UInt8), (114 : UInt8), (111 : UInt8), (99 : UInt8)]) 5 0 1 ([(108 : UInt8), (111 : UInt8), (97 : UInt8), (100 : UInt8)]) 0 1 1 ([(115 : UInt8), (116 : UInt8), (111 : UInt8), (114 : UInt8), (101 : UInt8)]) 0 2 0 ([(103 : UInt8), (101 : UInt8), (116 : UInt8), (98 : UInt8)]) 0 2 1 ([(112 : UInt8), (117 : UInt8), (116 : UInt8), (98 : UInt8)]) 0 3 0 ([(98 : UInt8), (105 : UInt8), (110 : UInt8)]) 7 2 1 ([(117 : UInt8), (110 : UInt8)]) 8 1 1 ([(115 : UInt8), (116 : UInt8), (97 : UInt8), (99 : UInt8), (107 : UInt8)]) 2 0 0 ([(108 : UInt8), (97 : UInt8), (98 : UInt8), (101 : UInt8), (108 : UInt8)]) 6 0 0 ([(106 : UInt8), (117 : UInt8), (109 : UInt8), (112 : UInt8)]) 6 0 0 ([(116 : UInt8), (114 : UInt8), (117 : UInt8), (101 : UInt8)]) 6 1 0 ([(102 : UInt8), (97 : UInt8), (108 : UInt8), (115 : UInt8), (101 : UInt8)]) 6 1 0 ([(99 : UInt8), (97 : UInt8), (108 : UInt8), (108 : UInt8)]) 2 0 0 ([(101 : UInt8), (110 : UInt8), (116 : UInt8), (101 : UInt8), (114 : UInt8)]) 5 0 0 ([(114 : UInt8), (101 : UInt8), (116 : UInt8), (117 : UInt8), (114 : UInt8), (110 : UInt8)]) 0 1 0 ([(98 : UInt8), (97 : UInt8), (99 : UInt8), (107 : UInt8)]) 0 0 0 ([(114 : UInt8), (101 : UInt8), (115 : UInt8), (117 : UInt8), (108 : UInt8), (116 : UInt8)]) 6 1 0 ([(116 : UInt8), (97 : UInt8), (107 : UInt8), (101 : UInt8)]) 2 0 0 ([(115 : UInt8), (119 : UInt8), (105 : UInt8), (116 : UInt8), (99 : UInt8), (104 : UInt8)]) 6 1 0 ([(99 : UInt8), (97 : UInt8), (115 : UInt8), (101 : UInt8)]) 1 0 0
def B4g (N : Nat) : Ab4 A81 [Avz] := fun R x C => Acb N  (fun y0 y1 y2 y3 y4 y5 y6 y7 y8 y9 y10 y11 y12 y13 y14 y15 y16 y17 y18 y19 y20 y21 y22 y23 y24 y25 y26 y27 y28 y29 y30 y31 y32 y33 y34 y35 y36 y37 y38 y39 y40 y41 y42 y43 y44 y45 y46 y47 y48 y49 y50 y51 y52 y53 y54 y55 y56 y57 y58 y59 y60 y61 y62 y63 y64 y65 y66 y67 y68 y69 y70 y71 y72 y73 y74 y75 y76 y77 y78 y79 y80 y81 y82 y83 y84 y85 y86 y87 y88 y89 y90 y91 y92 y93 y94 y95 y96 y97 y98 y99 y100 y101 y102 y103 y104 y105 y106 y107 y108 y109 y110 y111 y112 y113 y114 y115 y116 y117 y118 y119 y120 y121 y122 y123 => C.1 (((y0, y1, y2, y3, y4, y5, y6, y7, y8, y9, y10, y11, y12, y13, y14, y15, y16, y17, y18, y19, y20, y21, y22, y23, y24, y25, y26, y27, y28, y29, y30, y31, y32, y33, y34, y35, y36, y37, y38, y39, y40, y41, y42, y43, y44, y45, y46, y47, y48, y49, y50, y51, y52, y53, y54, y55, y56, y57, y58, y59, y60, y61, y62, y63, y64, y65, y66, y67, y68, y69, y70, y71, y72, y73, y74, y75, y76, y77, y78, y79, y80, y81, y82, y83, y84, y85, y86, y87, y88, y89, y90, y91, y92, y93, y94, y95, y96, y97, y98, y99, y100, y101, y102, y103, y104, y105, y106, y107, y108, y109, y110, y111, y112, y113, y114, y115, y116, y117, y118, y119, y120, y121, y122, y123, ()), ()), (())))
def Anx (Acb : Aj1) (N : Nat) : Go.AX.Aaj := Ac8 [] [] false 0 0 A81 [Avz] (fun R x C => Acb N  (fun y0 y1 y2 y3 y4 y5 y6 y7 y8 y9 y10 y11 y12 y13 y14 y15 y16 y17 y18 y19 y20 y21 y22 y23 y24 y25 y26 y27 y28 y29 y30 y31 y32 y33 y34 y35 y36 y37 y38 y39 y40 y41 y42 y43 y44 y45 y46 y47 y48 y49 y50 y51 y52 y53 y54 y55 y56 y57 y58 y59 y60 y61 y62 y63 y64 y65 y66 y67 y68 y69 y70 y71 y72 y73 y74 y75 y76 y77 y78 y79 y80 y81 y82 y83 y84 y85 y86 y87 y88 y89 y90 y91 y92 y93 y94 y95 y96 y97 y98 y99 y100 y101 y102 y103 y104 y105 y106 y107 y108 y109 y110 y111 y112 y113 y114 y115 y116 y117 y118 y119 y120 y121 y122 y123 => C.1 (((y0, y1, y2, y3, y4, y5, y6, y7, y8, y9, y10, y11, y12, y13, y14, y15, y16, y17, y18, y19, y20, y21, y22, y23, y24, y25, y26, y27, y28, y29, y30, y31, y32, y33, y34, y35, y36, y37, y38, y39, y40, y41, y42, y43, y44, y45, y46, y47, y48, y49, y50, y51, y52, y53, y54, y55, y56, y57, y58, y59, y60, y61, y62, y63, y64, y65, y66, y67, y68, y69, y70, y71, y72, y73, y74, y75, y76, y77, y78, y79, y80, y81, y82, y83, y84, y85, y86, y87, y88, y89, y90, y91, y92, y93, y94, y95, y96, y97, y98, y99, y100, y101, y102, y103, y104, y105, y106, y107, y108, y109, y110, y111, y112, y113, y114, y115, y116, y117, y118, y119, y120, y121, y122, y123, ()), ()), (()))))
def A82 (N : Nat) : Go.AX.Aaj := Anx @Acb N
def B4h (N : Nat) : List (Nat × Ac1) := []
def Bld (N : Nat) : List (Nat × Go.AX.Aaj) := []
def Aqe : Code := Tryz.f70.body.getD .skip
def Bxb : Code := Tryz.f112.body.getD .skip
def Bkr : Aac := ⟨B7c, []⟩
def A3s : Aac := ⟨Ah0, []⟩
abbrev Cea (R : Type) := Int->Int->Int->(Bool->Option R)->Option R
abbrev Ahl := {R : Type} → Nat → Cea R
def Aa0 : Ahl := fun {R} N a c d b => if ((decide (a ≥ c)) = true) then (b (decide (a ≤ d))) else b false
def Ceb (N : Nat) : Ab4 Bkr [A3s] := fun R x C => Aa0 N x.1.1 x.1.2.1 x.1.2.2.1 (fun y0 => C.1 ((y0, ()), (())))
def Am6 (Aa0 : Ahl) (N : Nat) : Go.AX.Aaj := Ac8 [true, true, true] [] false 3 0 Bkr [A3s] (fun R x C => Aa0 N x.1.1 x.1.2.1 x.1.2.2.1 (fun y0 => C.1 ((y0, ()), (()))))
def A3t (N : Nat) : Go.AX.Aaj := Am6 @Aa0 N
def Cec (N : Nat) : List (Nat × Ac1) := []
def Bxc (N : Nat) : List (Nat × Go.AX.Aaj) := []
def Ajj : Aac := ⟨[wq3, (4, .one (.ptr 33)), Bkp], [Cij, (33, .cells 68 Cd3)]⟩
def Ath : Aac := ⟨B9c, []⟩
def A7n : Acy := .cons .ret Ath (.nil)
abbrev Bob (R : Type) := Bool->Int->Int->Int->(List UInt8)->d3->d2->d1->Int->Int->(Bool->Option R)->Option R
abbrev Ak8 := {R : Type} → Nat → Bob R
def Axa (Aa0 : Ahl) : Ak8 := fun {R} N b d i c j l m n o e a => if ((d == 24) = true) then (if (b = true) then (Aa0 N c 0 8 fun f => a f) else a false) else if ((d == 29) = true) then (if (b = true) then (Aa0 N c 0 1000 fun g => a g) else a false) else if ((d == 30) = true) then (if (b = true) then (Aa0 N c 1 e fun h => a h) else a false) else if (b = true) then (a (c == 0)) else a false
def Abm : Ak8 := @Axa @Aa0
def Axb (Abm : Ak8) (N : Nat) : Aap Ajj := fun R x K => Abm N x.1.2.2.1 x.2.1.1 x.2.1.2.1 x.2.1.2.2.1 x.2.2.1.1 x.2.2.1.2.1 x.2.2.1.2.2.1 x.2.2.1.2.2.2.1 x.2.2.1.2.2.2.2.1 x.2.2.1.2.2.2.2.2.1 (fun y0 => K .ret (Aab Ath ((y0, ()), (()))))
def A7o (N : Nat) : Aap Ajj := Axb @Abm N
def Boc : Code := Tryz.f111.body.getD .skip
def Bcn : Aac := ⟨Aw9, []⟩
def Ay7 : Aac := ⟨Ah0, []⟩
abbrev B9h (R : Type) := Int->(Bool->Option R)->Option R
abbrev Anf := {R : Type} → Nat → B9h R
def Bco (Aa0 : Ahl) : Anf := fun {R} N a b => Aa0 N a (-2147483648) 2147483647 fun c => b c
def Aep : Anf := @Bco @Aa0
def Cml (N : Nat) : Ab4 Bcn [Ay7] := fun R x C => Aep N x.1.1 (fun y0 => C.1 ((y0, ()), (())))
def A3u (Aep : Anf) (N : Nat) : Go.AX.Aaj := Ac8 [true] [] false 1 0 Bcn [Ay7] (fun R x C => Aep N x.1.1 (fun y0 => C.1 ((y0, ()), (()))))
def Bcp (N : Nat) : Go.AX.Aaj := A3u @Aep N
def Cmm (N : Nat) : List (Nat × Ac1) := []
def B9i (N : Nat) : List (Nat × Go.AX.Aaj) := [(112, A3t N)]
def A3v : Aac := ⟨[B0d, (1, .agg Cd3), Cik], []⟩
def Art : Aac := ⟨Ah0, []⟩
abbrev Bxd (R : Type) := Int->Int->Int->(List UInt8)->d3->d2->d1->Int->Int->(List UInt8)->Int->Int->Int->(Bool->Option R)->Option R
abbrev Akp := {R : Type} → Nat → Bxd R
def A3w (Abm : Ak8) (Aep : Anf) (Aa0 : Ahl) : Akp := fun {R} N e a f g b h i c d E l F G j => if ((l == 0) = true) then (Abm N (a == 0) e a f g b h i c d fun m => j m) else if ((l == 1) = true) then (Aep N a fun n => Abm N n e a f g b h i c d fun o => j o) else if ((l == 2) = true) then (Aa0 N a 0 4000 fun p => Abm N p e a f g b h i c d fun q => j q) else if ((l == 3) = true) then (Aa0 N a 0 199 fun r => Abm N r e a f g b h i c d fun s => j s) else if ((l == 4) = true) then (Aa0 N a 0 (wi ((len b) - 1)) fun t => Abm N t e a f g b h i c d fun u => j u) else if ((l == 5) = true) then (Aa0 N a 1 c fun v => Abm N v e a f g b h i c d fun w => j w) else if ((l == 6) = true) then (Aa0 N a 1 d fun x => Abm N x e a f g b h i c d fun y => j y) else if ((l == 7) = true) then (Aa0 N a 1 17 fun z => Abm N z e a f g b h i c d fun A => j A) else if ((l == 8) = true) then (if ((a == 18) = true) then (Abm N true e a f g b h i c d fun B => j B) else Abm N (a == 19) e a f g b h i c d fun C => j C) else Abm N false e a f g b h i c d fun D => j D
def Adh : Akp := @A3w @Abm @Aep @Aa0
def Ci5 (N : Nat) : Ab4 A3v [Art] := fun R x C => Adh N x.1.1.1 x.1.1.2.1 x.1.1.2.2.1 x.1.2.1.1 x.1.2.1.2.1 x.1.2.1.2.2.1 x.1.2.1.2.2.2.1 x.1.2.1.2.2.2.2.1 x.1.2.1.2.2.2.2.2.1 x.1.2.2.1.1 x.1.2.2.1.2.1 x.1.2.2.1.2.2.1 x.1.2.2.1.2.2.2.1 (fun y0 => C.1 ((y0, ()), (())))
def Aqf (Adh : Akp) (N : Nat) : Go.AX.Aaj := Ac8 [true, true, true] [] false 3 0 A3v [Art] (fun R x C => Adh N x.1.1.1 x.1.1.2.1 x.1.1.2.2.1 x.1.2.1.1 x.1.2.1.2.1 x.1.2.1.2.2.1 x.1.2.1.2.2.2.1 x.1.2.1.2.2.2.2.1 x.1.2.1.2.2.2.2.2.1 x.1.2.2.1.1 x.1.2.2.1.2.1 x.1.2.2.1.2.2.1 x.1.2.2.1.2.2.2.1 (fun y0 => C.1 ((y0, ()), (()))))
def Bfn (N : Nat) : Go.AX.Aaj := Aqf @Adh N
def Ci6 (N : Nat) : List (Nat × Ac1) := [(42, Aaa Ajj (A7o N))]
def Bxe (N : Nat) : List (Nat × Go.AX.Aaj) := [(112, A3t N), (111, Bcp N)]
def Agk : Aac := ⟨[wq2, (5, .one (.ptr 1000)), (35, .one (.val z4)), (36, .one wq0), Ch7], [A3m, (1000, .row 125 (.pair .str z2))]⟩
def Aqg : Aac := ⟨Azm, []⟩
def Aqh : Aac := ⟨B9a, Arr⟩
def Bcq : Acy := .cons .ret Aqg (.cons (.exit 0) Aqh (.nil))
abbrev A06 (R : Type) := d2->Int->Int->(List UInt8)->d3->d2->d1->Int->Int->(List ((List UInt8 × (Int × (Int × Int)))))->(Bool->Option R)->((List UInt8)->d3->d2->d1->Int->Int->Option R)->Option R
abbrev Bcr (R : Type) := d2->Int->Int->(List UInt8)->d3->d2->d1->Int->Int->(List ((List UInt8 × (Int × (Int × Int)))))->Option R
abbrev Ame := {R : Type} → Nat → Nat → A06 R
def A07 (Adh : Akp) {R : Type} (N : Nat) (rc : Bcr R) : A06 R := fun d m b e f g h i j c l n => if ((decide (b < m)) = true) then (if (0 ≤ b ∧ b < len d) then (let a := (d.getD b.toNat (0, (0, 0))).1; if ((decide (a < 1)) = true) then (l false) else if ((decide (a ≥ 31)) = true) then (l false) else if ((0 ≤ a) ∧ (a < 31)) then (if (a < (len c)) then (Adh N a ((d.getD b.toNat (0, (0, 0))).2.1) ((d.getD b.toNat (0, (0, 0))).2.2) e f g h i j ((c.getD a.toNat (([] : List UInt8), (0, (0, 0)))).1) ((c.getD a.toNat (([] : List UInt8), (0, (0, 0)))).2.1) ((c.getD a.toNat (([] : List UInt8), (0, (0, 0)))).2.2.1) ((c.getD a.toNat (([] : List UInt8), (0, (0, 0)))).2.2.2) fun o => if ((!o) = true) then (l false) else rc d m (wi (b + 1)) e f g h i j c) else none) else none) else none) else n e f g h i j
def Acv {R : Type} (N : Nat) : Nat → A06 R
 | 0 => fun _ _ _ _ _ _ _ _ _ _ _ _ => none
 | k + 1 => fun a b c d e f g h i j l m => A07 @Adh N (fun a b c d e f g h i j => Acv N k a b c d e f g h i j l m) a b c d e f g h i j l m
def Aoz (Acv : Ame) (N k : Nat) : Aap Agk := fun R x K => Acv N k x.1.2.2.1 x.1.2.2.2.1 x.1.2.2.2.2.1 x.2.1.1 x.2.1.2.1 x.2.1.2.2.1 x.2.1.2.2.2.1 x.2.1.2.2.2.2.1 x.2.1.2.2.2.2.2.1 x.2.2.1 (fun y0 => K .ret (Aab Aqg ((y0, ()), (())))) (fun y0 y1 y2 y3 y4 y5 => K (.exit 0) (Aab Aqh (((), ()), ((y0, y1, y2, y3, y4, y5, ()), ()))))
def A08 (N k : Nat) : Aap Agk := Aoz @Acv N k
def Amf : Code := Tryz.f71.body.getD .skip
def Ah6 : Aac := ⟨[wq2, (2, .one (.slf 33)), (3, .one (.slf 34)), A8q, A0z, (18, .one (.val z4)), (19, .one wq0), (20, .one wq0)], [A3m, B0a, Cdq]⟩
def Aqi : Aac := ⟨[(2, .one (.slf 32)), (3, .one (.slf 33)), Ch3], B9f⟩
def Aqj : Aac := ⟨[wq2, (2, .one (.slf 33)), (3, .one (.slf 34)), A8q, A0z], [A3m, B0a, Cdq]⟩
def Bcs : Acy := .cons .ret Aqi (.cons (.exit 0) Aqj (.nil))
abbrev A09 (R : Type) := Int->Int->d2->Int->Int->(List UInt8)->d3->d2->d1->Int->Int->d0->d0->(Bool->d0->d0->Option R)->(Int->Int->(List UInt8)->d3->d2->d1->Int->Int->d0->d0->Option R)->Option R
abbrev Bct (R : Type) := Int->Int->d2->Int->Int->(List UInt8)->d3->d2->d1->Int->Int->d0->d0->Option R
abbrev Ati := {R : Type} → Nat → Nat → A09 R
def A1a {R : Type} (N : Nat) (rc : Bct R) : A09 R := fun d f e h b i j l m n o g c p s => if ((decide (b < h)) = true) then (if (0 ≤ b ∧ b < len e) then (let q := (e.getD b.toNat (0, (0, 0))).1; let a := (e.getD b.toNat (0, (0, 0))).2.1; if ((q == 24) = true) then (let r := (wi (d + 1)); if ((a != r) = true) then (p false ([] : List Int) ([] : List Int)) else rc r f e h (wi (b + 1)) i j l m n o g c) else if ((q == 19) = true) then (if (0 ≤ a ∧ a < len c) then (if (((c.getD a.toNat 0) != 0) = true) then (p false ([] : List Int) ([] : List Int)) else if ((d == 0) = true) then (p false ([] : List Int) ([] : List Int)) else if (0 ≤ a ∧ a < len g) then (if (0 ≤ a ∧ a < len c) then (rc d (if (a > f) then a else f) e h (wi (b + 1)) i j l m n o (g.set a.toNat b) (c.set a.toNat d)) else none) else none) else none) else rc d f e h (wi (b + 1)) i j l m n o g c) else none) else s d f i j l m n o g c
def Aei {R : Type} (N : Nat) : Nat → A09 R
 | 0 => fun _ _ _ _ _ _ _ _ _ _ _ _ _ _ _ => none
 | k + 1 => fun a b c d e f g h i j l m n o p => A1a N (fun a b c d e f g h i j l m n => Aei N k a b c d e f g h i j l m n o p) a b c d e f g h i j l m n o p
def A1b (Aei : Ati) (N k : Nat) : Aap Ah6 := fun R x K => Aei N k x.1.2.2.2.1 x.1.2.2.2.2.1 x.1.2.2.2.2.2.1 x.1.2.2.2.2.2.2.1 x.1.2.2.2.2.2.2.2.1 x.2.1.1 x.2.1.2.1 x.2.1.2.2.1 x.2.1.2.2.2.1 x.2.1.2.2.2.2.1 x.2.1.2.2.2.2.2.1 x.2.2.1 x.2.2.2.1 (fun y0 y1 y2 => K .ret (Aab Aqi (((), (), y0, ()), (y1, y2, ())))) (fun y0 y1 y2 y3 y4 y5 y6 y7 y8 y9 => K (.exit 0) (Aab Aqj (((), (), (), y0, y1, ()), ((y2, y3, y4, y5, y6, y7, ()), y8, y9, ()))))
def A1c (N k : Nat) : Aap Ah6 := A1b @Aei N k
def A55 : Aac := ⟨A3l, []⟩
def Atj : Aac := ⟨[(0, .one (.slf 32)), (1, .one (.slf 33)), Cmg], B9f⟩
abbrev B0f (R : Type) := (List UInt8)->d3->d2->d1->Int->Int->(Bool->d0->d0->Option R)->Option R
abbrev Aht := {R : Type} → Nat → B0f R
def A56 (Aei : Ati) : Aht := fun {R} N h i b j l d c => let a := (wi (d + 1)); if ((0 ≤ a) ∧ ((a ≤ a) ∧ ((a * 8) ≤ 70368744177664))) then (let e := (List.replicate (Int.toNat a) 0); if ((0 ≤ a) ∧ ((a ≤ a) ∧ ((a * 8) ≤ 70368744177664))) then (Aei N N 0 0 b (len b) 0 h i b j l d e e (fun m n o => c m n o) fun p q t u v w r s f g => if ((p == r) = true) then (c (q == s) f g) else c false f g) else none) else none
def Abo : Aht := @A56 @Aei
def Cj9 (N : Nat) : Ab4 A55 [Atj] := fun R x C => Abo N x.1.1.1 x.1.1.2.1 x.1.1.2.2.1 x.1.1.2.2.2.1 x.1.1.2.2.2.2.1 x.1.1.2.2.2.2.2.1 (fun y0 y1 y2 => C.1 (((), (), y0, ()), (y1, y2, ())))
def Amg (Abo : Aht) (N : Nat) : Go.AX.Aaj := Ac8 [true] [] false 1 0 A55 [Atj] (fun R x C => Abo N x.1.1.1 x.1.1.2.1 x.1.1.2.2.1 x.1.1.2.2.2.1 x.1.1.2.2.2.2.1 x.1.1.2.2.2.2.2.1 (fun y0 y1 y2 => C.1 (((), (), y0, ()), (y1, y2, ()))))
def A57 (N : Nat) : Go.AX.Aaj := Amg @Abo N
def Cka (N : Nat) : List (Nat × Ac1) := [(9, Aaa Ah6 (A1c N N))]
def B0g (N : Nat) : List (Nat × Go.AX.Aaj) := []
def Afr : Code := Tryz.f72.body.getD .skip
def Agl : Aac := ⟨[wq5, Azn, (28, .one wq0), (29, .one wq0)], []⟩
def Aqk : Aac := ⟨Azm, []⟩
def Aql : Aac := ⟨Cie, []⟩
def Bcu : Acy := .cons .ret Aqk (.cons (.exit 3) Aql (.nil))
abbrev A1d (R : Type) := d2->Int->Int->Int->(Bool->Option R)->(d2->Int->Option R)->Option R
abbrev Bcv (R : Type) := d2->Int->Int->Int->Option R
abbrev Amh := {R : Type} → Nat → Nat → A1d R
def Atk {R : Type} (N : Nat) (rc : Bcv R) : A1d R := fun a c e d f g => if ((decide (d < e)) = true) then (let b := (wi ((wi (c + 1)) + d)); if ((decide (b ≥ (len a))) = true) then (f false) else if (0 ≤ b ∧ b < len a) then (if (((a.getD b.toNat (0, (0, 0))).1 != 30) = true) then (f false) else rc a c e (wi (d + 1))) else none) else g a c
def Ack {R : Type} (N : Nat) : Nat → A1d R
 | 0 => fun _ _ _ _ _ _ => none
 | k + 1 => fun a b c d e f => Atk N (fun a b c d => Ack N k a b c d e f) a b c d e f
def Ao0 (Ack : Amh) (N k : Nat) : Aap Agl := fun R x K => Ack N k x.1.1 x.1.2.1 x.1.2.2.1 x.1.2.2.2.1 (fun y0 => K .ret (Aab Aqk ((y0, ()), (())))) (fun y0 y1 => K (.exit 3) (Aab Aql ((y0, y1, ()), (()))))
def A1e (N k : Nat) : Aap Agl := Ao0 @Ack N k
def Axc : Code := Tryz.f78.body.getD .skip
def Als : Aac := ⟨[wq5, Alk, B9d, (10, .one (.val .bool))], []⟩
def Azp : Aac := ⟨Aw8, []⟩
def Azq : Aac := ⟨[], []⟩
def Bfo : Acy := .cons .ret Azp (.cons .normal Azq (.nil))
abbrev Bxf (R : Type) := d2->Int->Int->Bool->(Bool->Option R)->(Option R)->Option R
abbrev Aqm := {R : Type} → Nat → Bxf R
def Aek : Aqm := fun {R} N a b e f c g => if (f = true) then (c true) else if ((e == 29) = true) then (if (0 ≤ b ∧ b < len a) then (c ((a.getD b.toNat (0, (0, 0))).2.2 == 0)) else none) else if ((e == 30) = true) then (let d := (wi (b + 1)); if ((d == (len a)) = true) then (c true) else if (0 ≤ d ∧ d < len a) then (c ((a.getD d.toNat (0, (0, 0))).1 != 30)) else none) else g
def A3x (Aek : Aqm) (N : Nat) : Aap Als := fun R x K => Aek N x.1.1 x.1.2.1 x.1.2.2.1 x.1.2.2.2.1 (fun y0 => K .ret (Aab Azp ((y0, ()), (())))) (K .normal (Aab Azq ((()), (()))))
def Bfp (N : Nat) : Aap Als := A3x @Aek N
def Bcw : Aac := ⟨B0c, []⟩
def Ay8 : Aac := ⟨Ah0, []⟩
abbrev B9j (R : Type) := d2->Int->(Bool->Option R)->Option R
abbrev Ajk := {R : Type} → Nat → B9j R
def Bcx (Aek : Aqm) : Ajk := fun {R} N d c b => if (0 ≤ c ∧ c < len d) then (let a := (d.getD c.toNat (0, (0, 0))).1; if ((a == 20) = true) then (Aek N d c a (a == 20) (fun e => b e) (b false)) else if ((a == 25) = true) then (Aek N d c a (a == 25) (fun f => b f) (b false)) else if ((a == 26) = true) then (Aek N d c a (a == 26) (fun g => b g) (b false)) else Aek N d c a (a == 27) (fun h => b h) (b false)) else none
def Abn : Ajk := @Bcx @Aek
def Cmn (N : Nat) : Ab4 Bcw [Ay8] := fun R x C => Abn N x.1.1 x.1.2.1 (fun y0 => C.1 ((y0, ()), (())))
def Ao1 (Abn : Ajk) (N : Nat) : Go.AX.Aaj := Ac8 [true, true] [] false 2 0 Bcw [Ay8] (fun R x C => Abn N x.1.1 x.1.2.1 (fun y0 => C.1 ((y0, ()), (()))))
def Bcy (N : Nat) : Go.AX.Aaj := Ao1 @Abn N
def Cmo (N : Nat) : List (Nat × Ac1) := [(12, Aaa Als (Bfp N))]
def B9k (N : Nat) : List (Nat × Go.AX.Aaj) := []
def Ah7 : Aac := ⟨[wq5, Azn, Ch3], []⟩
def Axd : Aac := ⟨Azm, []⟩
def Axe : Aac := ⟨Cie, []⟩
def Bcz : Acy := .cons .ret Axd (.cons .normal Axe (.nil))
abbrev Btb (R : Type) := d2->Int->Bool->(Bool->Option R)->(d2->Int->Option R)->Option R
abbrev Ajl := {R : Type} → Nat → Btb R
def A1f (Abn : Ajk) : Ajl := fun {R} N a b f e c => if (f = true) then (Abn N a b fun g => if ((!g) = true) then (e false) else c a b) else let d := (wi (b + 1)); if (0 ≤ d ∧ d < len a) then (if (((a.getD d.toNat (0, (0, 0))).1 == 24) = true) then (Abn N a b fun h => if ((!h) = true) then (e false) else c a b) else c a b) else none
def Abf : Ajl := @A1f @Abn
def Ao2 (Abf : Ajl) (N : Nat) : Aap Ah7 := fun R x K => Abf N x.1.1 x.1.2.1 x.1.2.2.1 (fun y0 => K .ret (Aab Axd ((y0, ()), (())))) (fun y0 y1 => K .normal (Aab Axe ((y0, y1, ()), (()))))
def Bc0 (N : Nat) : Aap Ah7 := Ao2 @Abf N
def Ag4 : Aac := ⟨Cie, []⟩
def Aru : Aac := ⟨Azm, []⟩
def Arv : Aac := ⟨[wq5], []⟩
def Bfq : Acy := .cons .ret Aru (.cons (.exit 0) Arv (.nil))
abbrev A3y (R : Type) := d2->Int->(Bool->Option R)->(d2->Option R)->Option R
abbrev Bfr (R : Type) := d2->Int->Option R
abbrev Ank := {R : Type} → Nat → Nat → A3y R
def A3z (Ack : Amh) (Abf : Ajl) {R : Type} (N : Nat) (rc : Bfr R) : A3y R := fun a b d l => if ((decide (b < (len a))) = true) then (let c := (wi (b + 1)); if (0 ≤ b ∧ b < len a) then (let h := (a.getD b.toNat (0, (0, 0))).1; if ((h == 29) = true) then (if (0 ≤ b ∧ b < len a) then (Ack N N a b ((a.getD b.toNat (0, (0, 0))).2.2) 0 (fun m => d m) fun e g => if (0 ≤ g ∧ g < len e) then (let i := (wi (g + (e.getD g.toNat (0, (0, 0))).2.2)); let f := (wi (i + 1)); if ((!(f == (len e))) = true) then (if (0 ≤ f ∧ f < len e) then (if (((e.getD f.toNat (0, (0, 0))).1 == 30) = true) then (d false) else Abf N e i (f == (len e)) (fun n => d n) fun o p => rc o (wi (p + 1))) else none) else Abf N e i (f == (len e)) (fun q => d q) fun r s => rc r (wi (s + 1))) else none) else none) else if ((h == 30) = true) then (d false) else if ((h == 19) = true) then (if ((c == (len a)) = true) then (d false) else if (0 ≤ c ∧ c < len a) then (let j := (a.getD c.toNat (0, (0, 0))).1; if ((j != 18) = true) then (if (0 ≤ c ∧ c < len a) then (if ((j != 28) = true) then (if (0 ≤ c ∧ c < len a) then (if ((j != 19) = true) then (d false) else Abf N a b (c == (len a)) (fun t => d t) fun u v => rc u (wi (v + 1))) else none) else Abf N a b (c == (len a)) (fun w => d w) fun x y => rc x (wi (y + 1))) else none) else Abf N a b (c == (len a)) (fun z => d z) fun A B => rc A (wi (B + 1))) else none) else Abf N a b (c == (len a)) (fun C => d C) fun D E => rc D (wi (E + 1))) else none) else l a
def Ab8 {R : Type} (N : Nat) : Nat → A3y R
 | 0 => fun _ _ _ _ => none
 | k + 1 => fun a b c d => A3z @Ack @Abf N (fun a b => Ab8 N k a b c d) a b c d
def Aqn (Ab8 : Ank) (N k : Nat) : Aap Ag4 := fun R x K => Ab8 N k x.1.1 x.1.2.1 (fun y0 => K .ret (Aab Aru ((y0, ()), (())))) (fun y0 => K (.exit 0) (Aab Arv ((y0, ()), (()))))
def A30 (N k : Nat) : Aap Ag4 := Aqn @Ab8 N k
def A83 : Aac := ⟨[wq5], []⟩
def Av0 : Aac := ⟨Ah0, []⟩
abbrev B4i (R : Type) := d2->(Bool->Option R)->Option R
abbrev Al1 := {R : Type} → Nat → B4i R
def A84 (Ab8 : Ank) : Al1 := fun {R} N c a => Ab8 N N c 0 (fun d => a d) fun b => if (((len b) == 0) = true) then (a true) else if (((0 :Int) ≤ (0 :Int)) ∧ (0 < (len b))) then (a ((List.getD b (0 : Nat) (0, (0, 0))).1 == 24)) else none
def Ad6 : Al1 := @A84 @Ab8
def Cks (N : Nat) : Ab4 A83 [Av0] := fun R x C => Ad6 N x.1.1 (fun y0 => C.1 ((y0, ()), (())))
def Aut (Ad6 : Al1) (N : Nat) : Go.AX.Aaj := Ac8 [true] [] false 1 0 A83 [Av0] (fun R x C => Ad6 N x.1.1 (fun y0 => C.1 ((y0, ()), (()))))
def Ble (N : Nat) : Go.AX.Aaj := Aut @Ad6 N
def Ckt (N : Nat) : List (Nat × Ac1) := [(17, Aaa Agl (A1e N N)), (44, Aaa Ah7 (Bc0 N)), (5, Aaa Ag4 (A30 N N))]
def B4j (N : Nat) : List (Nat × Go.AX.Aaj) := [(78, Bcy N)]
def Ahp : Code := Tryz.f73.body.getD .skip
def Arp : Code := Tryz.f113.body.getD .skip
def Afs : Code := Tryz.f143.body.getD .skip
def Bfs : Code := Tryz.f114.body.getD .skip
def A31 : Aac := ⟨Aw9, []⟩
def Arw : Aac := ⟨Ah0, []⟩
abbrev Bxg (R : Type) := Int->(Bool->Option R)->Option R
abbrev Anl := {R : Type} → Nat → Bxg R
def A32 (Aep : Anf) : Anl := fun {R} N a b => Aep N a fun c => b (!c)
def Ae5 : Anl := @A32 @Aep
def Ci7 (N : Nat) : Ab4 A31 [Arw] := fun R x C => Ae5 N x.1.1 (fun y0 => C.1 ((y0, ()), (())))
def A33 (Ae5 : Anl) (N : Nat) : Go.AX.Aaj := Ac8 [true] [] false 1 0 A31 [Arw] (fun R x C => Ae5 N x.1.1 (fun y0 => C.1 ((y0, ()), (()))))
def Bft (N : Nat) : Go.AX.Aaj := A33 @Ae5 N
def Ci8 (N : Nat) : List (Nat × Ac1) := []
def Bxh (N : Nat) : List (Nat × Go.AX.Aaj) := [(111, Bcp N)]
def Adu : Aac := ⟨[Cib, (1, .one (.fn 114)), Boa, Cdr], []⟩
def Ai7 : Aac := ⟨Cdv, []⟩
def Ai8 : Aac := ⟨[], []⟩
def Asq : Acy := .cons .ret Ai7 (.cons (.exit 0) Ai8 (.nil))
abbrev Ami (R : Type) := d0->Int->Int->(Int->Option R)->(Option R)->Option R
abbrev Asr (R : Type) := d0->Int->Int->Option R
abbrev Aj6 := {R : Type} → Nat → Nat → Ami R
def Aj7 (Ae5 : Anl) {R : Type} (N : Nat) (rc : Asr R) : Ami R := fun b c a d e => if ((decide (a < c)) = true) then (if (0 ≤ a ∧ a < len b) then (Ae5 N (b.getD a.toNat 0) fun f => if (f = true) then (d a) else rc b c (wi (a + 1))) else none) else e
def Aa3 {R : Type} (N : Nat) : Nat → Ami R
 | 0 => fun _ _ _ _ _ => none
 | k + 1 => fun a b c d e => Aj7 @Ae5 N (fun a b c => Aa3 N k a b c d e) a b c d e
def Amj (Aa3 : Aj6) (N k : Nat) : Aap Adu := fun R x K => Aa3 N k x.1.1 x.1.2.2.1 x.1.2.2.2.1 (fun y0 => K .ret (Aab Ai7 ((y0, ()), (())))) (K (.exit 0) (Aab Ai8 ((()), (()))))
def Amk (N k : Nat) : Aap Adu := Amj @Aa3 N k
def Anz : Aac := ⟨[Cib, (1, .one (.fn 114))], []⟩
def Aj8 : Aac := ⟨Aw9, []⟩
abbrev A85 (R : Type) := d0->(Int->Option R)->Option R
abbrev Ain := {R : Type} → Nat → A85 R
def An0 (Aa3 : Aj6) : Ain := fun {R} N a b => Aa3 N N a (len a) 0 (fun c => b c) (b (-1))
def Adb : Ain := @An0 @Aa3
def B4k (N : Nat) : Ab4 Anz [Aj8] := fun R x C => Adb N x.1.1 (fun y0 => C.1 ((y0, ()), (())))
def Auu (Adb : Ain) (N : Nat) : Go.AX.Aaj := Ac8 [true, true] [] false 2 0 Anz [Aj8] (fun R x C => Adb N x.1.1 (fun y0 => C.1 ((y0, ()), (()))))
def Auv (N : Nat) : Go.AX.Aaj := Auu @Adb N
def B4l (N : Nat) : List (Nat × Ac1) := [(5, Aaa Adu (Amk N N))]
def A86 (N : Nat) : List (Nat × Go.AX.Aaj) := [(114, Bft N)]
def Al8 : Aac := ⟨[Cib, (1, .one (.fn 114))], []⟩
def Air : Aac := ⟨Ah0, []⟩
abbrev A5o (R : Type) := d0->(Bool->Option R)->Option R
abbrev Aev := {R : Type} → Nat → A5o R
def Al9 (Adb : Ain) : Aev := fun {R} N a b => Adb N a fun c => b (decide (c ≥ 0))
def Aaw : Aev := @Al9 @Adb
def Bze (N : Nat) : Ab4 Al8 [Air] := fun R x C => Aaw N x.1.1 (fun y0 => C.1 ((y0, ()), (())))
def Ajg (Aaw : Aev) (N : Nat) : Go.AX.Aaj := Ac8 [true, true] [] false 2 0 Al8 [Air] (fun R x C => Aaw N x.1.1 (fun y0 => C.1 ((y0, ()), (()))))
def Arq (N : Nat) : Go.AX.Aaj := Ajg @Aaw N
def Bzf (N : Nat) : List (Nat × Ac1) := []
def A5p (N : Nat) : List (Nat × Go.AX.Aaj) := [(143, Auv N)]
def Ahv : Aac := ⟨[wq2, (11, .one (.val z3)), (12, .one wq0), Cdt], Arr⟩
def Arx : Aac := ⟨Azm, []⟩
def Ary : Aac := ⟨B9a, Arr⟩
def Bfu : Acy := .cons .ret Arx (.cons (.exit 0) Ary (.nil))
abbrev A34 (R : Type) := d3->Int->Int->(List UInt8)->d3->d2->d1->Int->Int->(Bool->Option R)->((List UInt8)->d3->d2->d1->Int->Int->Option R)->Option R
abbrev Bfv (R : Type) := d3->Int->Int->(List UInt8)->d3->d2->d1->Int->Int->Option R
abbrev Aqo := {R : Type} → Nat → Nat → A34 R
def Av1 (Acx : Aj0) (Aaw : Aev) {R : Type} (N : Nat) (rc : Bfv R) : A34 R := fun b d a e f g h i j c n => if ((decide (a < d)) = true) then (if (0 ≤ a ∧ a < len b) then (let m := (b.getD a.toNat (([] : List UInt8), (false, ([] : List Int)))).1; let l := (b.getD a.toNat (([] : List UInt8), (false, ([] : List Int)))).2.2; if ((b.getD a.toNat (([] : List UInt8), (false, ([] : List Int)))).2.1 = true) then (Acx N m fun q o => if ((o != 0) = true) then (c false) else if ((decide ((len l) > 0)) = true) then (c false) else rc b d (wi (a + 1)) e f g h i j) else if ((!(m == ([] : List UInt8))) = true) then (c false) else if (((len l) == 0) = true) then (c false) else Aaw N l fun p => if (p = true) then (c false) else rc b d (wi (a + 1)) e f g h i j) else none) else n e f g h i j
def Adq {R : Type} (N : Nat) : Nat → A34 R
 | 0 => fun _ _ _ _ _ _ _ _ _ _ _ => none
 | k + 1 => fun a b c d e f g h i j l => Av1 @Acx @Aaw N (fun a b c d e f g h i => Adq N k a b c d e f g h i j l) a b c d e f g h i j l
def Av2 (Adq : Aqo) (N k : Nat) : Aap Ahv := fun R x K => Adq N k x.1.2.1 x.1.2.2.1 x.1.2.2.2.1 x.2.1.1 x.2.1.2.1 x.2.1.2.2.1 x.2.1.2.2.2.1 x.2.1.2.2.2.2.1 x.2.1.2.2.2.2.2.1 (fun y0 => K .ret (Aab Arx ((y0, ()), (())))) (fun y0 y1 y2 y3 y4 y5 => K (.exit 0) (Aab Ary (((), ()), ((y0, y1, y2, y3, y4, y5, ()), ()))))
def A35 (N k : Nat) : Aap Ahv := Av2 @Adq N k
def Ahd : Aac := ⟨[wq2, (7, .one (.mp 33)), (50, .one (.val z1)), (51, .one wq0), (52, .one wq0)], [A3m, (33, .amap 168 (.int .i64) .bool)]⟩
def Aqp : Aac := ⟨Azm, []⟩
def Aqq : Aac := ⟨[], []⟩
def Bc1 : Acy := .cons .ret Aqp (.cons (.exit 2) Aqq (.nil))
abbrev A1g (R : Type) := d1->Int->Int->(List UInt8)->d3->d2->d1->Int->Int->(List (Int × Bool))->(Bool->Option R)->(Option R)->Option R
abbrev Bc2 (R : Type) := d1->Int->Int->(List UInt8)->d3->d2->d1->Int->Int->(List (Int × Bool))->Option R
abbrev Ao3 := {R : Type} → Nat → Nat → A1g R
def Atl (Aa0 : Ahl) {R : Type} (N : Nat) (rc : Bc2 R) : A1g R := fun b e a h i j l f m g c n => if ((decide (a < e)) = true) then (if (0 ≤ a ∧ a < len b) then (let d := (b.getD a.toNat (0, 0)).1; Aa0 N d 1 199 fun o => if ((!o) = true) then (c false) else if ((Option.getD (Azl (kt := (.int .i64)) (et := .bool) d g) false) = true) then (c false) else Aa0 N ((b.getD a.toNat (0, 0)).2) 1 f fun p => if ((!p) = true) then (c false) else rc b e (wi (a + 1)) h i j l f m (A0u (kt := (.int .i64)) (et := .bool) d true g)) else none) else n
def Ac3 {R : Type} (N : Nat) : Nat → A1g R
 | 0 => fun _ _ _ _ _ _ _ _ _ _ _ _ => none
 | k + 1 => fun a b c d e f g h i j l m => Atl @Aa0 N (fun a b c d e f g h i j => Ac3 N k a b c d e f g h i j l m) a b c d e f g h i j l m
def Atm (Ac3 : Ao3) (N k : Nat) : Aap Ahd := fun R x K => Ac3 N k x.1.2.2.1 x.1.2.2.2.1 x.1.2.2.2.2.1 x.2.1.1 x.2.1.2.1 x.2.1.2.2.1 x.2.1.2.2.2.1 x.2.1.2.2.2.2.1 x.2.1.2.2.2.2.2.1 x.2.2.1 (fun y0 => K .ret (Aab Aqp ((y0, ()), (())))) (K (.exit 2) (Aab Aqq ((()), (()))))
def A1h (N k : Nat) : Aap Ahd := Atm @Ac3 N k
def A87 : Aac := ⟨A3l, []⟩
def Av3 : Aac := ⟨Ah0, []⟩
abbrev B4m (R : Type) := (List UInt8)->d3->d2->d1->Int->Int->(Bool->Option R)->Option R
abbrev Al2 := {R : Type} → Nat → B4m R
def A88 (Adq : Aqo) (Ac3 : Ao3) : Al2 := fun {R} N d a e f g h b => Adq N N a (len a) 0 d a e f g h (fun i => b i) fun j l m c n o => Ac3 N N c (len c) 0 j l m c n o ([] : List (Int × Bool)) (fun p => b p) (b true)
def Ad7 : Al2 := @A88 @Adq @Ac3
def Cku (N : Nat) : Ab4 A87 [Av3] := fun R x C => Ad7 N x.1.1.1 x.1.1.2.1 x.1.1.2.2.1 x.1.1.2.2.2.1 x.1.1.2.2.2.2.1 x.1.1.2.2.2.2.2.1 (fun y0 => C.1 ((y0, ()), (())))
def Auw (Ad7 : Al2) (N : Nat) : Go.AX.Aaj := Ac8 [true] [] false 1 0 A87 [Av3] (fun R x C => Ad7 N x.1.1.1 x.1.1.2.1 x.1.1.2.2.1 x.1.1.2.2.2.1 x.1.1.2.2.2.2.1 x.1.1.2.2.2.2.2.1 (fun y0 => C.1 ((y0, ()), (()))))
def Blf (N : Nat) : Go.AX.Aaj := Auw @Ad7 N
def Ckv (N : Nat) : List (Nat × Ac1) := [(5, Aaa Ahv (A35 N N)), (27, Aaa Ahd (A1h N N))]
def B4n (N : Nat) : List (Nat × Go.AX.Aaj) := [(68, Bhg N), (113, Arq N), (112, A3t N)]
def Aux : Code := Tryz.f74.body.getD .skip
def Aky : Aac := ⟨[wq2, Azo, B9b], A8s⟩
def Axf : Aac := ⟨A8r, []⟩
def Axg : Aac := ⟨[], []⟩
def Bc3 : Acy := .cons .ret Axf (.cons .normal Axg (.nil))
abbrev Btc (R : Type) := Int->Bool->Int->Int->Int->(Int->Option R)->(Option R)->Option R
abbrev Ao4 := {R : Type} → Nat → Btc R
def Adv : Ao4 := fun {R} N b c g d e a f => if (c = true) then (a d) else if ((b == 30) = true) then (a e) else f
def A1i (Adv : Ao4) (N : Nat) : Aap Aky := fun R x K => Adv N x.1.2.1 x.1.2.2.1 x.2.1.1 x.2.1.2.1 x.2.1.2.2.1 (fun y0 => K .ret (Aab Axf ((y0, ()), (())))) (K .normal (Aab Axg ((()), (()))))
def Bc4 (N : Nat) : Aap Aky := A1i @Adv N
def A89 : Aac := ⟨Cd2, []⟩
def Av4 : Aac := ⟨Aw9, []⟩
abbrev B4o (R : Type) := Int->Int->Int->(Int->Option R)->Option R
abbrev Aio := {R : Type} → Nat → B4o R
def A9a (Adv : Ao4) : Aio := fun {R} N a c d b => if ((a == 20) = true) then (Adv N a (a == 20) a c d (fun e => b e) (b 0)) else if ((a == 21) = true) then (Adv N a (a == 21) a c d (fun f => b f) (b 0)) else if ((a == 22) = true) then (Adv N a (a == 22) a c d (fun g => b g) (b 0)) else if ((a == 27) = true) then (Adv N a (a == 27) a c d (fun h => b h) (b 0)) else Adv N a (a == 29) a c d (fun i => b i) (b 0)
def Abv : Aio := @A9a @Adv
def Ckw (N : Nat) : Ab4 A89 [Av4] := fun R x C => Abv N x.1.1.1 x.1.1.2.1 x.1.1.2.2.1 (fun y0 => C.1 ((y0, ()), (())))
def An1 (Abv : Aio) (N : Nat) : Go.AX.Aaj := Ac8 [true] [] false 1 0 A89 [Av4] (fun R x C => Abv N x.1.1.1 x.1.1.2.1 x.1.1.2.2.1 (fun y0 => C.1 ((y0, ()), (()))))
def A9b (N : Nat) : Go.AX.Aaj := An1 @Abv N
def Ckx (N : Nat) : List (Nat × Ac1) := [(14, Aaa Aky (Bc4 N))]
def B4p (N : Nat) : List (Nat × Go.AX.Aaj) := []
def Ah8 : Aac := ⟨[(8, .one (.slf 32)), (9, .one (.slf 33)), Cds, (13, .one (.ptr 34)), Ch1, Ch8, Ch9], [Cmh, B0a, (34, .cells 70 B9g)]⟩
def Axh : Aac := ⟨Azm, []⟩
def Axi : Aac := ⟨[(8, .one (.slf 32)), (9, .one (.slf 33)), Cds, Ch1, Ch8, Ch9], B9f⟩
def Bc5 : Acy := .cons .ret Axh (.cons .normal Axi (.nil))
abbrev Btd (R : Type) := Int->d2->Int->Int->d0->d0->Int->Int->Int->(Bool->Option R)->(Int->d2->Int->Int->d0->d0->Option R)->Option R
abbrev Ajm := {R : Type} → Nat → Btd R
def A1j (Abv : Aio) : Ajm := fun {R} N d e f g b c j l m h i => Abv N j l m fun a => if ((decide (a > 0)) = true) then (if (0 ≤ a ∧ a < len c) then (if (((c.getD a.toNat 0) != d) = true) then (h false) else if (0 ≤ a ∧ a < len b) then (if (((b.getD a.toNat 0) == 0) = true) then (h false) else i d e f g b c) else none) else none) else i d e f g b c
def Ac4 : Ajm := @A1j @Abv
def Ao5 (Ac4 : Ajm) (N : Nat) : Aap Ah8 := fun R x K => Ac4 N x.1.2.2.1 x.1.2.2.2.2.1 x.1.2.2.2.2.2.1 x.1.2.2.2.2.2.2.1 x.2.1 x.2.2.1 x.2.2.2.1.1 x.2.2.2.1.2.1 x.2.2.2.1.2.2.1 (fun y0 => K .ret (Aab Axh ((y0, ()), (())))) (fun y0 y1 y2 y3 y4 y5 => K .normal (Aab Axi (((), (), y0, y1, y2, y3, ()), (y4, y5, ()))))
def Bc6 (N : Nat) : Aap Ah8 := Ao5 @Ac4 N
def Agm : Aac := ⟨[(8, .one (.slf 32)), (9, .one (.slf 33)), Cds, Ch1, Ch8, Ch9], B9f⟩
def Aqr : Aac := ⟨Azm, []⟩
def Aqs : Aac := ⟨[], []⟩
def Bc7 : Acy := .cons .ret Aqr (.cons (.exit 2) Aqs (.nil))
abbrev A1k (R : Type) := Int->d2->Int->Int->d0->d0->(Bool->Option R)->(Option R)->Option R
abbrev Bc8 (R : Type) := Int->d2->Int->Int->d0->d0->Option R
abbrev Aml := {R : Type} → Nat → Nat → A1k R
def A1l (Ac4 : Ajm) {R : Type} (N : Nat) (rc : Bc8 R) : A1k R := fun j b c a f g h l => if ((decide (a < c)) = true) then (if (0 ≤ a ∧ a < len b) then (let d := (b.getD a.toNat (0, (0, 0))).1; let e := (b.getD a.toNat (0, (0, 0))).2.1; let i := (b.getD a.toNat (0, (0, 0))).2.2; if ((d == 24) = true) then (Ac4 N e b c a f g d e i (fun m => h m) fun n o p q r s => rc n o p (wi (q + 1)) r s) else Ac4 N j b c a f g d e i (fun t => h t) fun u v w x y z => rc u v w (wi (x + 1)) y z) else none) else l
def Acl {R : Type} (N : Nat) : Nat → A1k R
 | 0 => fun _ _ _ _ _ _ _ _ => none
 | k + 1 => fun a b c d e f g h => A1l @Ac4 N (fun a b c d e f => Acl N k a b c d e f g h) a b c d e f g h
def Ao6 (Acl : Aml) (N k : Nat) : Aap Agm := fun R x K => Acl N k x.1.2.2.1 x.1.2.2.2.1 x.1.2.2.2.2.1 x.1.2.2.2.2.2.1 x.2.1 x.2.2.1 (fun y0 => K .ret (Aab Aqr ((y0, ()), (())))) (K (.exit 2) (Aab Aqs ((()), (()))))
def A1m (N k : Nat) : Aap Agm := Ao6 @Acl N k
def A9c : Aac := ⟨A3l, []⟩
def Av5 : Aac := ⟨Ah0, []⟩
abbrev B4q (R : Type) := (List UInt8)->d3->d2->d1->Int->Int->(Bool->Option R)->Option R
abbrev Auy := {R : Type} → Nat → B4q R
def A9d (Acx : Aj0) (Acb : Aj1) (Acv : Ame) (Abo : Aht) (Ad6 : Al1) (Ad7 : Al2) (Acl : Aml) : Auy := fun {R} N d m c n e f a => Acx N d fun y0 o => if ((o != 0) = true) then (a false) else if ((decide (e < 0)) = true) then (a false) else if ((decide (f < 0)) = true) then (a false) else Acb N fun p q r s t u v w x y z A B C D E F G H I J L M O P Q S T U V W X Y Z aa ab ac ad ae af ag ah ai aj ak al am an ao ap aq ar au av aw ax ay az ba bb bc bd be bf bg bh bi bj bk bl bm bn bo bp bq br bs bt bu bv bw bx bz ca cb cc cd ce cf cg ch ci cj ck cl cm cn co cp cq cr cs ct cu cv cw cx cy cz da db dc dd de df dg dh di dj dk dl dm dn dp => Acv N N c (len c) 0 d m c n e f ((p, (q, (r, s))) :: ((t, (u, (v, w))) :: ((x, (y, (z, A))) :: ((B, (C, (D, E))) :: ((F, (G, (H, I))) :: ((J, (L, (M, O))) :: ((P, (Q, (S, T))) :: ((U, (V, (W, X))) :: ((Y, (Z, (aa, ab))) :: ((ac, (ad, (ae, af))) :: ((ag, (ah, (ai, aj))) :: ((ak, (al, (am, an))) :: ((ao, (ap, (aq, ar))) :: ((au, (av, (aw, ax))) :: ((ay, (az, (ba, bb))) :: ((bc, (bd, (be, bf))) :: ((bg, (bh, (bi, bj))) :: ((bk, (bl, (bm, bn))) :: ((bo, (bp, (bq, br))) :: ((bs, (bt, (bu, bv))) :: ((bw, (bx, (bz, ca))) :: ((cb, (cc, (cd, ce))) :: ((cf, (cg, (ch, ci))) :: ((cj, (ck, (cl, cm))) :: ((cn, (co, (cp, cq))) :: ((cr, (cs, (ct, cu))) :: ((cv, (cw, (cx, cy))) :: ((cz, (da, (db, dc))) :: ((dd, (de, (df, dg))) :: ((dh, (di, (dj, dk))) :: ((dl, (dm, (dn, dp))) :: ([] : List (List UInt8 × Int × Int × Int))))))))))))))))))))))))))))))))) (fun dq => a dq) fun g h b i j l => Abo N g h b i j l fun dr ds dt => if ((!dr) = true) then (a false) else Ad6 N b fun du => if ((!du) = true) then (a false) else Ad7 N g h b i j l fun dv => if ((!dv) = true) then (a false) else Acl N N 0 b (len b) 0 ds dt (fun dw => a dw) (a true)
def Aiv : Auy := @A9d @Acx @Acb @Acv @Abo @Ad6 @Ad7 @Acl
def Cky (N : Nat) : Ab4 A9c [Av5] := fun R x C => Aiv N x.1.1.1 x.1.1.2.1 x.1.1.2.2.1 x.1.1.2.2.2.1 x.1.1.2.2.2.2.1 x.1.1.2.2.2.2.2.1 (fun y0 => C.1 ((y0, ()), (())))
def Blg (Aiv : Auy) (N : Nat) : Go.AX.Aaj := Ac8 [true] [] false 1 0 A9c [Av5] (fun R x C => Aiv N x.1.1.1 x.1.1.2.1 x.1.1.2.2.1 x.1.1.2.2.2.1 x.1.1.2.2.2.2.1 x.1.1.2.2.2.2.2.1 (fun y0 => C.1 ((y0, ()), (()))))
def Blh (N : Nat) : Go.AX.Aaj := Blg @Aiv N
def Ckz (N : Nat) : List (Nat × Ac1) := [(13, Aaa Agk (A08 N N)), (40, Aaa Ah8 (Bc6 N)), (33, Aaa Agm (A1m N N))]
def B4r (N : Nat) : List (Nat × Go.AX.Aaj) := [(68, Bhg N), (69, A82 N), (70, Bfn N), (71, A57 N), (72, Ble N), (73, Blf N), (74, A9b N)]
def Alt : Code := Tryz.f48.body.getD .skip
def Ang : Code := Tryz.f75.body.getD .skip
def Ak9 : Aac := ⟨[Alk, Ch4, wq4, wq6, B9e, (11, .one (.val .bool))], Cd9⟩
def A1n : Aac := ⟨Bn9, []⟩
def A1o : Aac := ⟨[Alk, wq4, wq6], Cd9⟩
def Bio : Acy := .cons .ret A1n (.cons .normal A1o (.nil))
abbrev B0h (R : Type) := Int->Bool->Int->Bool->Int->Int->Int->(List UInt8)->Int->Int->Int->(Bool->Option R)->(Int->Int->Int->Int->(List UInt8)->Int->Int->Int->Option R)->Option R
abbrev Amm := {R : Type} → Nat → B0h R
def A58 (Aa0 : Ahl) : Amm := fun {R} N b m l n c a d e f g h j i => if (n = true) then (Aa0 N a 2 (wi (b - 1)) fun o => if ((!o) = true) then (j false) else i b c a d e f g h) else if ((l == 4) = true) then (if ((decide (a < 2)) = true) then (j false) else i b c a d e f g h) else if ((l == 23) = true) then (Aa0 N a 2 (wi (b - 3)) fun p => if ((!p) = true) then (j false) else i b c a d e f g h) else if ((l == 18) = true) then (if ((!m) = true) then (if ((decide (a > (wi ((wi (b + 2000)) + 2)))) = true) then (j false) else i b c a d e f g h) else i b c a d e f g h) else i b c a d e f g h
def Ae0 : Amm := @A58 @Aa0
def Ay9 (Ae0 : Amm) (N : Nat) : Aap Ak9 := fun R x K => Ae0 N x.1.1 x.1.2.1 x.1.2.2.2.2.1 x.1.2.2.2.2.2.1 x.2.1.1 x.2.1.2.1 x.2.1.2.2.1 x.2.2.1.1 x.2.2.1.2.1 x.2.2.1.2.2.1 x.2.2.1.2.2.2.1 (fun y0 => K .ret (Aab A1n ((y0, ()), (())))) (fun y0 y1 y2 y3 y4 y5 y6 y7 => K .normal (Aab A1o ((y0, (), (), ()), ((y1, y2, y3, ()), (y4, y5, y6, y7, ()), ()))))
def Bip (N : Nat) : Aap Ak9 := Ay9 @Ae0 N
def Akq : Aac := ⟨[Alk, wq4, wq6], Cd9⟩
def Azr : Aac := ⟨Bn9, []⟩
def Bfw : Acy := .cons .ret Azr (.nil)
abbrev Bxi (R : Type) := Int->Int->Int->Int->(List UInt8)->Int->Int->Int->(Bool->Option R)->Option R
abbrev Anm := {R : Type} → Nat → Bxi R
def Aec : Anm := fun {R} N b c e f g h d i a => if ((c == 24) = true) then (a true) else a (decide ((wi (b - d)) ≥ 2))
def Av6 (Aec : Anm) (N : Nat) : Aap Akq := fun R x K => Aec N x.1.1 x.2.1.1 x.2.1.2.1 x.2.1.2.2.1 x.2.2.1.1 x.2.2.1.2.1 x.2.2.1.2.2.1 x.2.2.1.2.2.2.1 (fun y0 => K .ret (Aab Azr ((y0, ()), (()))))
def Bfx (N : Nat) : Aap Akq := Av6 @Aec N
def Bc9 : Aac := ⟨[B0d, Alk, Cik, Ch4], []⟩
def Aza : Aac := ⟨Ah0, []⟩
abbrev B9l (R : Type) := Int->Int->Int->Int->(List UInt8)->Int->Int->Int->Bool->(Bool->Option R)->Option R
abbrev Ass := {R : Type} → Nat → B9l R
def Bda (Ae0 : Amm) (Aec : Anm) : Ass := fun {R} N a c d e f g h i j b => if ((a == 2) = true) then (Ae0 N e j a (a == 2) a c d f g h i (fun l => b l) fun m n o p q r s t => Aec N m n o p q r s t fun u => b u) else Ae0 N e j a (a == 3) a c d f g h i (fun v => b v) fun w x y z A B C D => Aec N w x y z A B C D fun E => b E
def Afm : Ass := @Bda @Ae0 @Aec
def Cmp (N : Nat) : Ab4 Bc9 [Aza] := fun R x C => Afm N x.1.1.1 x.1.1.2.1 x.1.1.2.2.1 x.1.2.1 x.1.2.2.1.1 x.1.2.2.1.2.1 x.1.2.2.1.2.2.1 x.1.2.2.1.2.2.2.1 x.1.2.2.2.1 (fun y0 => C.1 ((y0, ()), (())))
def Bdb (Afm : Ass) (N : Nat) : Go.AX.Aaj := Ac8 [true, true, true, true] [] false 4 0 Bc9 [Aza] (fun R x C => Afm N x.1.1.1 x.1.1.2.1 x.1.1.2.2.1 x.1.2.1 x.1.2.2.1.1 x.1.2.2.1.2.1 x.1.2.2.1.2.2.1 x.1.2.2.1.2.2.2.1 x.1.2.2.2.1 (fun y0 => C.1 ((y0, ()), (()))))
def Bod (N : Nat) : Go.AX.Aaj := Bdb @Afm N
def Cmq (N : Nat) : List (Nat × Ac1) := [(8, Aaa Ak9 (Bip N)), (30, Aaa Akq (Bfx N))]
def B9m (N : Nat) : List (Nat × Go.AX.Aaj) := [(112, A3t N)]
def Al3 : Code := Tryz.f76.body.getD .skip
def Ajn : Aac := ⟨Bs9, A8s⟩
def Axj : Aac := ⟨[A0z], []⟩
def Bdc : Acy := .cons .ret Axj (.nil)
abbrev Bte (R : Type) := Int->Int->Int->(Int->Option R)->Option R
abbrev Amn := {R : Type} → Nat → Bte R
def Adw : Amn := fun {R} N c a d b => b (wi (a + 1))
def Atn (Adw : Amn) (N : Nat) : Aap Ajn := fun R x K => Adw N x.2.1.1 x.2.1.2.1 x.2.1.2.2.1 (fun y0 => K .ret (Aab Axj ((y0, ()), (()))))
def Bdd (N : Nat) : Aap Ajn := Atn @Adw N
def Ajo : Aac := ⟨[Alk, wq7], [(32, .cells 124 Cii)]⟩
def Axk : Aac := ⟨[A0z], []⟩
def Bde : Acy := .cons .ret Axk (.nil)
abbrev Btf (R : Type) := Int->(List UInt8)->Int->Int->Int->(Int->Option R)->Option R
abbrev Amo := {R : Type} → Nat → Btf R
def Ad4 : Amo := fun {R} N a e f b c d => d (wi ((wi (a - b)) + c))
def Ato (Ad4 : Amo) (N : Nat) : Aap Ajo := fun R x K => Ad4 N x.1.1 x.2.1.1 x.2.1.2.1 x.2.1.2.2.1 x.2.1.2.2.2.1 (fun y0 => K .ret (Aab Axk ((y0, ()), (()))))
def Bdf (N : Nat) : Aap Ajo := Ato @Ad4 N
def A9e : Aac := ⟨[B0d, Alk, Cik], []⟩
def Av7 : Aac := ⟨Aw9, []⟩
abbrev B4s (R : Type) := Int->Int->Int->Int->(List UInt8)->Int->Int->Int->(Int->Option R)->Option R
abbrev Apr := {R : Type} → Nat → B4s R
def A9f (Adw : Amn) (Ad4 : Amo) : Apr := fun {R} N a c d e f g h i b => if ((a == 18) = true) then (b c) else if ((a == 24) = true) then (b (wi (2 + d))) else if ((a == 23) = true) then (Adw N a c d fun j => b j) else if ((a == 28) = true) then (Adw N a c d fun l => b l) else Ad4 N e f g h i fun m => b m
def Ae9 : Apr := @A9f @Adw @Ad4
def Ck0 (N : Nat) : Ab4 A9e [Av7] := fun R x C => Ae9 N x.1.1.1 x.1.1.2.1 x.1.1.2.2.1 x.1.2.1 x.1.2.2.1.1 x.1.2.2.1.2.1 x.1.2.2.1.2.2.1 x.1.2.2.1.2.2.2.1 (fun y0 => C.1 ((y0, ()), (())))
def A9g (Ae9 : Apr) (N : Nat) : Go.AX.Aaj := Ac8 [true, true, true] [] false 3 0 A9e [Av7] (fun R x C => Ae9 N x.1.1.1 x.1.1.2.1 x.1.1.2.2.1 x.1.2.1 x.1.2.2.1.1 x.1.2.2.1.2.1 x.1.2.2.1.2.2.1 x.1.2.2.1.2.2.2.1 (fun y0 => C.1 ((y0, ()), (()))))
def Bli (N : Nat) : Go.AX.Aaj := A9g @Ae9 N
def Ck1 (N : Nat) : List (Nat × Ac1) := [(16, Aaa Ajn (Bdd N)), (18, Aaa Ajo (Bdf N))]
def B4t (N : Nat) : List (Nat × Go.AX.Aaj) := []
def An2 : Code := Tryz.f77.body.getD .skip
def Ai9 : Aac := ⟨B0c, []⟩
def Arz : Aac := ⟨Cdw, []⟩
def Bfy : Acy := .cons (.exit 0) Arz (.nil)
abbrev A36 (R : Type) := d2->Int->(Int->Option R)->Option R
abbrev Bfz (R : Type) := d2->Int->Option R
abbrev Av8 := {R : Type} → Nat → Nat → A36 R
def A37 {R : Type} (N : Nat) (rc : Bfz R) : A36 R := fun b a c => if (0 ≤ a ∧ a < len b) then (if (((b.getD a.toNat (0, (0, 0))).1 == 19) = true) then (rc b (wi (a + 1))) else c a) else none
def Aer {R : Type} (N : Nat) : Nat → A36 R
 | 0 => fun _ _ _ => none
 | k + 1 => fun a b c => A37 N (fun a b => Aer N k a b c) a b c
def A38 (Aer : Av8) (N k : Nat) : Aap Ai9 := fun R x K => Aer N k x.1.1 x.1.2.1 (fun y0 => K (.exit 0) (Aab Arz ((y0, ()), (()))))
def A39 (N k : Nat) : Aap Ai9 := A38 @Aer N k
def A9h : Aac := ⟨B0c, []⟩
def Av9 : Aac := ⟨Aw9, []⟩
abbrev B4u (R : Type) := d2->Int->(Int->Option R)->Option R
abbrev Aps := {R : Type} → Nat → B4u R
def A9i (Aer : Av8) : Aps := fun {R} N a b c => Aer N N a b fun d => c d
def Adj : Aps := @A9i @Aer
def Ck2 (N : Nat) : Ab4 A9h [Av9] := fun R x C => Adj N x.1.1 x.1.2.1 (fun y0 => C.1 ((y0, ()), (())))
def A9j (Adj : Aps) (N : Nat) : Go.AX.Aaj := Ac8 [true, true] [] false 2 0 A9h [Av9] (fun R x C => Adj N x.1.1 x.1.2.1 (fun y0 => C.1 ((y0, ()), (()))))
def Blj (N : Nat) : Go.AX.Aaj := A9j @Adj N
def Ck3 (N : Nat) : List (Nat × Ac1) := [(3, Aaa Ai9 (A39 N N))]
def B4v (N : Nat) : List (Nat × Go.AX.Aaj) := []
def Ag5 : Aac := ⟨[wq2, (3, .one (.ptr 1000)), (4, .one (.slf 33)), Boa, (19, .one (.val z4)), (20, .one wq0), (21, .one wq0)], [A3m, B0a, (1000, .row 125 (.pair .str z2))]⟩
def Aoe : Aac := ⟨Azm, []⟩
def Aof : Aac := ⟨[], []⟩
def A7p : Acy := .cons .ret Aoe (.cons (.exit 0) Aof (.nil))
abbrev Axl (R : Type) := Int->d2->Int->Int->(List UInt8)->d3->d2->d1->Int->Int->d0->(List ((List UInt8 × (Int × (Int × Int)))))->(Bool->Option R)->(Option R)->Option R
abbrev Anh (R : Type) := Int->d2->Int->Int->(List UInt8)->d3->d2->d1->Int->Int->d0->(List ((List UInt8 × (Int × (Int × Int)))))->Option R
abbrev Aqt := {R : Type} → Nat → Nat → Axl R
def Axm (Afm : Ass) (Ae9 : Apr) (Abv : Aio) (Adj : Aps) (Abn : Ajk) {R : Type} (N : Nat) (rc : Anh R) : Axl R := fun s e g c h i a j l m f d n L => if ((decide (c < g)) = true) then (if (0 ≤ c ∧ c < len e) then (let b := (e.getD c.toNat (0, (0, 0))).1; let q := (e.getD c.toNat (0, (0, 0))).2.1; let r := (e.getD c.toNat (0, (0, 0))).2.2; if ((0 ≤ b) ∧ (b < 31)) then (if (b < (len d)) then (let t := (d.getD b.toNat (([] : List UInt8), (0, (0, 0)))).1; let u := (d.getD b.toNat (([] : List UInt8), (0, (0, 0)))).2.1; let v := (d.getD b.toNat (([] : List UInt8), (0, (0, 0)))).2.2.1; let w := (d.getD b.toNat (([] : List UInt8), (0, (0, 0)))).2.2.2; if ((decide (c > 0)) = true) then (let D := (wi (c - 1)); if (0 ≤ D ∧ D < len a) then (Afm N b q r s t u v w ((a.getD D.toNat (0, (0, 0))).1 == 19) fun M => if ((!M) = true) then (n false) else if ((0 ≤ b) ∧ (b < 31)) then (if (b < (len d)) then (Ae9 N b q r s t u v w fun o => if ((decide (o < 2)) = true) then (n false) else if ((decide (o > 4000)) = true) then (n false) else Abv N b q r fun x => if ((decide (x > 0)) = true) then (if (0 ≤ x ∧ x < len f) then (Adj N a (f.getD x.toNat 0) fun E => if (0 ≤ E ∧ E < len a) then (if ((!(((a.getD E.toNat (0, (0, 0))).1 == 28) == (b == 27))) = true) then (n false) else if ((b != 19) = true) then (Abn N a c fun O => if ((!O) = true) then (let y := (wi (c + 1)); if ((decide (y < (len a))) = true) then (Adj N a y fun F => if (0 ≤ F ∧ F < len a) then (if (((a.getD F.toNat (0, (0, 0))).1 == 28) = true) then (n false) else rc o e g y h i a j l m f d) else none) else rc o e g y h i a j l m f d) else rc o e g (wi (c + 1)) h i a j l m f d) else rc o e g (wi (c + 1)) h i a j l m f d) else none) else none) else if ((b != 19) = true) then (Abn N a c fun P => if ((!P) = true) then (let z := (wi (c + 1)); if ((decide (z < (len a))) = true) then (Adj N a z fun G => if (0 ≤ G ∧ G < len a) then (if (((a.getD G.toNat (0, (0, 0))).1 == 28) = true) then (n false) else rc o e g z h i a j l m f d) else none) else rc o e g z h i a j l m f d) else rc o e g (wi (c + 1)) h i a j l m f d) else rc o e g (wi (c + 1)) h i a j l m f d) else none) else none) else none) else Afm N b q r s t u v w false fun Q => if ((!Q) = true) then (n false) else if ((0 ≤ b) ∧ (b < 31)) then (if (b < (len d)) then (Ae9 N b q r s t u v w fun p => if ((decide (p < 2)) = true) then (n false) else if ((decide (p > 4000)) = true) then (n false) else Abv N b q r fun A => if ((decide (A > 0)) = true) then (if (0 ≤ A ∧ A < len f) then (Adj N a (f.getD A.toNat 0) fun H => if (0 ≤ H ∧ H < len a) then (if ((!(((a.getD H.toNat (0, (0, 0))).1 == 28) == (b == 27))) = true) then (n false) else if ((b != 19) = true) then (Abn N a c fun S => if ((!S) = true) then (let B := (wi (c + 1)); if ((decide (B < (len a))) = true) then (Adj N a B fun I => if (0 ≤ I ∧ I < len a) then (if (((a.getD I.toNat (0, (0, 0))).1 == 28) = true) then (n false) else rc p e g B h i a j l m f d) else none) else rc p e g B h i a j l m f d) else rc p e g (wi (c + 1)) h i a j l m f d) else rc p e g (wi (c + 1)) h i a j l m f d) else none) else none) else if ((b != 19) = true) then (Abn N a c fun T => if ((!T) = true) then (let C := (wi (c + 1)); if ((decide (C < (len a))) = true) then (Adj N a C fun J => if (0 ≤ J ∧ J < len a) then (if (((a.getD J.toNat (0, (0, 0))).1 == 28) = true) then (n false) else rc p e g C h i a j l m f d) else none) else rc p e g C h i a j l m f d) else rc p e g (wi (c + 1)) h i a j l m f d) else rc p e g (wi (c + 1)) h i a j l m f d) else none) else none) else none) else none) else none) else L
def Ada {R : Type} (N : Nat) : Nat → Axl R
 | 0 => fun _ _ _ _ _ _ _ _ _ _ _ _ _ _ => none
 | k + 1 => fun a b c d e f g h i j l m n o => Axm @Afm @Ae9 @Abv @Adj @Abn N (fun a b c d e f g h i j l m => Ada N k a b c d e f g h i j l m n o) a b c d e f g h i j l m n o
def Axn (Ada : Aqt) (N k : Nat) : Aap Ag5 := fun R x K => Ada N k x.1.2.2.2.1 x.1.2.2.2.2.1 x.1.2.2.2.2.2.1 x.1.2.2.2.2.2.2.1 x.2.1.1 x.2.1.2.1 x.2.1.2.2.1 x.2.1.2.2.2.1 x.2.1.2.2.2.2.1 x.2.1.2.2.2.2.2.1 x.2.2.1 x.2.2.2.1 (fun y0 => K .ret (Aab Aoe ((y0, ()), (())))) (K (.exit 0) (Aab Aof ((()), (()))))
def Axo (N k : Nat) : Aap Ag5 := Axn @Ada N k
def A4a : Aac := ⟨A3l, []⟩
def Ar0 : Aac := ⟨Ah0, []⟩
abbrev Bxj (R : Type) := (List UInt8)->d3->d2->d1->Int->Int->(Bool->Option R)->Option R
abbrev Aqu := {R : Type} → Nat → Bxj R
def A4b (Acb : Aj1) (Abo : Aht) (Ada : Aqt) : Aqu := fun {R} N b c a d e f g => Acb N fun h i j l m n o p q r s t u v w x y z A B C D E F G H I J L M O P Q S T U V W X Y Z aa ab ac ad ae af ag ah ai aj ak al am an ao ap aq ar au av aw ax ay az ba bb bc bd be bf bg bh bi bj bk bl bm bn bo bp bq br bs bt bu bv bw bx bz ca cb cc cd ce cf cg ch ci cj ck cl cm cn co cp cq cr cs ct cu cv cw cx cy cz da db dc dd de df dg dh => Abo N b c a d e f fun dk di dl => Ada N N 0 a (len a) 0 b c a d e f di ((h, (i, (j, l))) :: ((m, (n, (o, p))) :: ((q, (r, (s, t))) :: ((u, (v, (w, x))) :: ((y, (z, (A, B))) :: ((C, (D, (E, F))) :: ((G, (H, (I, J))) :: ((L, (M, (O, P))) :: ((Q, (S, (T, U))) :: ((V, (W, (X, Y))) :: ((Z, (aa, (ab, ac))) :: ((ad, (ae, (af, ag))) :: ((ah, (ai, (aj, ak))) :: ((al, (am, (an, ao))) :: ((ap, (aq, (ar, au))) :: ((av, (aw, (ax, ay))) :: ((az, (ba, (bb, bc))) :: ((bd, (be, (bf, bg))) :: ((bh, (bi, (bj, bk))) :: ((bl, (bm, (bn, bo))) :: ((bp, (bq, (br, bs))) :: ((bt, (bu, (bv, bw))) :: ((bx, (bz, (ca, cb))) :: ((cc, (cd, (ce, cf))) :: ((cg, (ch, (ci, cj))) :: ((ck, (cl, (cm, cn))) :: ((co, (cp, (cq, cr))) :: ((cs, (ct, (cu, cv))) :: ((cw, (cx, (cy, cz))) :: ((da, (db, (dc, dd))) :: ((de, (df, (dg, dh))) :: ([] : List (List UInt8 × Int × Int × Int))))))))))))))))))))))))))))))))) (fun dj => g dj) (g true)
def Ag0 : Aqu := @A4b @Acb @Abo @Ada
def Ci9 (N : Nat) : Ab4 A4a [Ar0] := fun R x C => Ag0 N x.1.1.1 x.1.1.2.1 x.1.1.2.2.1 x.1.1.2.2.2.1 x.1.1.2.2.2.2.1 x.1.1.2.2.2.2.2.1 (fun y0 => C.1 ((y0, ()), (())))
def Bf0 (Ag0 : Aqu) (N : Nat) : Go.AX.Aaj := Ac8 [true] [] false 1 0 A4a [Ar0] (fun R x C => Ag0 N x.1.1.1 x.1.1.2.1 x.1.1.2.2.1 x.1.1.2.2.2.1 x.1.1.2.2.2.2.1 x.1.1.2.2.2.2.2.1 (fun y0 => C.1 ((y0, ()), (()))))
def Bf1 (N : Nat) : Go.AX.Aaj := Bf0 @Ag0 N
def Cja (N : Nat) : List (Nat × Ac1) := [(11, Aaa Ag5 (Axo N N))]
def Bxk (N : Nat) : List (Nat × Go.AX.Aaj) := [(69, A82 N), (71, A57 N), (75, Bod N), (76, Bli N), (74, A9b N), (77, Blj N), (78, Bcy N)]
def A9k : Aac := ⟨A3l, []⟩
def Awa : Aac := ⟨Aw9, []⟩
abbrev B4w (R : Type) := (List UInt8)->d3->d2->d1->Int->Int->(Int->Option R)->Option R
abbrev An3 := {R : Type} → Nat → B4w R
def A9l (Aiu : Aus) (Aiv : Auy) (Ag0 : Aqu) : An3 := fun {R} N b c d e f g a => Aiu N b c d e f g fun h => if (h = true) then (a 2) else Aiv N b c d e f g fun i => if ((!i) = true) then (a 60) else Ag0 N b c d e f g fun j => if ((!j) = true) then (a 61) else a 0
def Afa : An3 := @A9l @Aiu @Aiv @Ag0
def Ck4 (N : Nat) : Ab4 A9k [Awa] := fun R x C => Afa N x.1.1.1 x.1.1.2.1 x.1.1.2.2.1 x.1.1.2.2.2.1 x.1.1.2.2.2.2.1 x.1.1.2.2.2.2.2.1 (fun y0 => C.1 ((y0, ()), (())))
def A0i (Afa : An3) (N : Nat) : Go.AX.Aaj := Ac8 [true] [] false 1 0 A9k [Awa] (fun R x C => Afa N x.1.1.1 x.1.1.2.1 x.1.1.2.2.1 x.1.1.2.2.2.1 x.1.1.2.2.2.2.1 x.1.1.2.2.2.2.2.1 (fun y0 => C.1 ((y0, ()), (()))))
def Blk (N : Nat) : Go.AX.Aaj := A0i @Afa N
def Ck5 (N : Nat) : List (Nat × Ac1) := []
def B4x (N : Nat) : List (Nat × Go.AX.Aaj) := [(46, Bk9 N), (47, Blh N), (48, Bf1 N)]
def Biq : Code := Tryz.f12.body.getD .skip
def Az6 : Code := Tryz.f13.body.getD .skip
def An4 : Aac := ⟨[wq8, Alk, B9d, (10, .one (.val .bool))], []⟩
def A4c : Aac := ⟨Aw8, []⟩
def A4d : Aac := ⟨[], []⟩
def Bll : Acy := .cons .ret A4c (.cons .normal A4d (.nil))
abbrev B4y (R : Type) := d4->Int->Int->Bool->(Bool->Option R)->(Option R)->Option R
abbrev Auz := {R : Type} → Nat → B4y R
def Agu : Auz := fun {R} N a b e f c g => if (f = true) then (c true) else if ((e == 12) = true) then (if (0 ≤ b ∧ b < len a) then (c ((a.getD b.toNat (0, (0, (0, (0, 0))))).2.1 == 0)) else none) else if ((e == 13) = true) then (let d := (wi (b + 1)); if ((d == (len a)) = true) then (c true) else if (0 ≤ d ∧ d < len a) then (c ((a.getD d.toNat (0, (0, (0, (0, 0))))).1 != 13)) else none) else g
def A9m (Agu : Auz) (N : Nat) : Aap An4 := fun R x K => Agu N x.1.1 x.1.2.1 x.1.2.2.1 x.1.2.2.2.1 (fun y0 => K .ret (Aab A4c ((y0, ()), (())))) (K .normal (Aab A4d ((()), (()))))
def Blm (N : Nat) : Aap An4 := A9m @Agu N
def Bhh : Aac := ⟨[wq8, Alk], []⟩
def A0j : Aac := ⟨Ah0, []⟩
abbrev Caw (R : Type) := d4->Int->(Bool->Option R)->Option R
abbrev Az7 := {R : Type} → Nat → Caw R
def Bhi (Agu : Auz) : Az7 := fun {R} N c a d => if (0 ≤ a ∧ a < len c) then (let b := (c.getD a.toNat (0, (0, (0, (0, 0))))).1; if ((b == 7) = true) then (Agu N c a b (b == 7) (fun e => d e) (d false)) else Agu N c a b (b == 11) (fun f => d f) (d false)) else none
def Ala : Az7 := @Bhi @Agu
def Cm5 (N : Nat) : Ab4 Bhh [A0j] := fun R x C => Ala N x.1.1 x.1.2.1 (fun y0 => C.1 ((y0, ()), (())))
def Bsc (Ala : Az7) (N : Nat) : Go.AX.Aaj := Ac8 [true, true] [] false 2 0 Bhh [A0j] (fun R x C => Ala N x.1.1 x.1.2.1 (fun y0 => C.1 ((y0, ()), (()))))
def Bsd (N : Nat) : Go.AX.Aaj := Bsc @Ala N
def Cm6 (N : Nat) : List (Nat × Ac1) := [(8, Aaa An4 (Blm N))]
def Cax (N : Nat) : List (Nat × Go.AX.Aaj) := []
def A59 : Aac := ⟨Cid, Bhd⟩
def Atp : Aac := ⟨Ah0, Bhd⟩
abbrev B0i (R : Type) := Int->(List UInt8)->d3->d1->d2->d4->(Bool->(List UInt8)->d3->d1->d2->d4->Option R)->Option R
abbrev Alb := {R : Type} → Nat → B0i R
def Azb (Ala : Az7) : Alb := fun {R} N b c d e f a g => Ala N a b fun h => g h c d e f a
def Adn : Alb := @Azb @Ala
def Ckb (N : Nat) : Ab4 A59 [Atp] := fun R x C => Adn N x.1.1 x.2.1.1 x.2.1.2.1 x.2.1.2.2.1 x.2.1.2.2.2.1 x.2.1.2.2.2.2.1 (fun y0 y1 y2 y3 y4 y5 => C.1 ((y0, ()), ((y1, y2, y3, y4, y5, ()), ())))
def Azc (Adn : Alb) (N : Nat) : Go.AX.Aaj := Ac8 [true] [] false 2 1 A59 [Atp] (fun R x C => Adn N x.1.1 x.2.1.1 x.2.1.2.1 x.2.1.2.2.1 x.2.1.2.2.2.1 x.2.1.2.2.2.2.1 (fun y0 y1 y2 y3 y4 y5 => C.1 ((y0, ()), ((y1, y2, y3, y4, y5, ()), ()))))
def Bir (N : Nat) : Go.AX.Aaj := Azc @Adn N
def Ckc (N : Nat) : List (Nat × Ac1) := []
def B0j (N : Nat) : List (Nat × Go.AX.Aaj) := [(13, Bsd N)]
def Bis : Code := Tryz.f10.body.getD .skip
def A6a : Aac := ⟨Cid, Bhd⟩
def Atq : Aac := ⟨Ah0, Bhd⟩
abbrev B0k (R : Type) := Int->(List UInt8)->d3->d1->d2->d4->(Bool->(List UInt8)->d3->d1->d2->d4->Option R)->Option R
abbrev Aoo := {R : Type} → Nat → B0k R
def Ae1 : Aoo := fun {R} N a c d e f b g => if (0 ≤ a ∧ a < len b) then (g ((b.getD a.toNat (0, (0, (0, (0, 0))))).1 == 13) c d e f b) else none
def B0l (N : Nat) : Ab4 A6a [Atq] := fun R x C => Ae1 N x.1.1 x.2.1.1 x.2.1.2.1 x.2.1.2.2.1 x.2.1.2.2.2.1 x.2.1.2.2.2.2.1 (fun y0 y1 y2 y3 y4 y5 => C.1 ((y0, ()), ((y1, y2, y3, y4, y5, ()), ())))
def Azd (Ae1 : Aoo) (N : Nat) : Go.AX.Aaj := Ac8 [true] [] false 2 1 A6a [Atq] (fun R x C => Ae1 N x.1.1 x.2.1.1 x.2.1.2.1 x.2.1.2.2.1 x.2.1.2.2.2.1 x.2.1.2.2.2.2.1 (fun y0 y1 y2 y3 y4 y5 => C.1 ((y0, ()), ((y1, y2, y3, y4, y5, ()), ()))))
def Bit (N : Nat) : Go.AX.Aaj := Azd @Ae1 N
def B0m (N : Nat) : List (Nat × Ac1) := []
def Biu (N : Nat) : List (Nat × Go.AX.Aaj) := []
def Ahw : Aac := ⟨[Cdo, Cdp, wq3, (68, .one (.val z4)), (69, .one wq0), (70, .one wq0)], [Cd1, B0e]⟩
def Ar1 : Aac := ⟨[Ch2, Bkp], Bhd⟩
def Ar2 : Aac := ⟨[], Bhd⟩
def Bf2 : Acy := .cons .ret Ar1 (.cons (.exit 3) Ar2 (.nil))
abbrev A4e (R : Type) := d2->Int->Int->(List UInt8)->d3->d1->d2->d4->(List UInt8)->d3->d1->d2->d4->(Bool->Bool->(List UInt8)->d3->d1->d2->d4->Option R)->((List UInt8)->d3->d1->d2->d4->Option R)->Option R
abbrev Bf3 (R : Type) := d2->Int->Int->(List UInt8)->d3->d1->d2->d4->(List UInt8)->d3->d1->d2->d4->Option R
abbrev Aqv := {R : Type} → Nat → Nat → A4e R
def A4f (Ae1 : Aoo) (Adn : Alb) {R : Type} (N : Nat) (rc : Bf3 R) : A4e R := fun h p a j l m n o r s t u q b C => if ((decide (a < p)) = true) then (if (0 ≤ a ∧ a < len h) then (let i := (h.getD a.toNat (0, (0, 0))).1; let v := (h.getD a.toNat (0, (0, 0))).2.1; let w := (h.getD a.toNat (0, (0, 0))).2.2; if ((decide (i < 0)) = true) then (b false false j l m n o) else if ((decide (i ≥ (len q))) = true) then (b false false j l m n o) else Ae1 N i j l m n o fun D c d e f g => if (D = true) then (b false false c d e f g) else if ((decide (v < 0)) = true) then (b false false c d e f g) else if ((decide (v > 8)) = true) then (b false false c d e f g) else if ((decide (w < 2)) = true) then (b false false c d e f g) else if ((decide (w > 4001)) = true) then (b false false c d e f g) else if ((decide (i > 0)) = true) then (Adn N (wi (i - 1)) c d e f g fun E x y z A B => if ((!E) = true) then (b false false x y z A B) else rc h p (wi (a + 1)) x y z A B r s t u q) else rc h p (wi (a + 1)) c d e f g r s t u q) else none) else C j l m n o
def Adr {R : Type} (N : Nat) : Nat → A4e R
 | 0 => fun _ _ _ _ _ _ _ _ _ _ _ _ _ _ _ => none
 | k + 1 => fun a b c d e f g h i j l m n o p => A4f @Ae1 @Adn N (fun a b c d e f g h i j l m n => Adr N k a b c d e f g h i j l m n o p) a b c d e f g h i j l m n o p
def Awb (Adr : Aqv) (N k : Nat) : Aap Ahw := fun R x K => Adr N k x.1.2.2.2.1 x.1.2.2.2.2.1 x.1.2.2.2.2.2.1 x.2.1.1 x.2.1.2.1 x.2.1.2.2.1 x.2.1.2.2.2.1 x.2.1.2.2.2.2.1 x.2.2.1.1 x.2.2.1.2.1 x.2.2.1.2.2.1 x.2.2.1.2.2.2.1 x.2.2.1.2.2.2.2.1 (fun y0 y1 y2 y3 y4 y5 y6 => K .ret (Aab Ar1 ((y0, y1, ()), ((y2, y3, y4, y5, y6, ()), ())))) (fun y0 y1 y2 y3 y4 => K (.exit 3) (Aab Ar2 ((()), ((y0, y1, y2, y3, y4, ()), ()))))
def A4g (N k : Nat) : Aap Ahw := Awb @Adr N k
def Bdg : Aac := ⟨[Bta, Cdo, Cdp], Bhd⟩
def Aze : Aac := ⟨[Cme, (1, .one (.val .bool))], Bhd⟩
abbrev B9n (R : Type) := (List UInt8)->d3->d1->d2->d4->(List UInt8)->d3->d1->d2->d4->(Bool->Bool->(List UInt8)->d3->d1->d2->d4->Option R)->Option R
abbrev Ast := {R : Type} → Nat → B9n R
def Bdh (Adp : Aqa) (Afa : An3) (Adn : Alb) (Adr : Aqv) : Ast := fun {R} N p q r c s j l m n o a => if ((decide ((len s) > 32000)) = true) then (a true false j l m n o) else if ((decide ((len c) > 200)) = true) then (a true false j l m n o) else Adp N N (len c) 0 j l m n o p q r c s p q r (len c) 0 ([] : List (Int × Int × Int)) fun d e f g h t u v b i C D E F G H => Afa N C D H E F G fun w => if ((w == 2) = true) then (a true false d e f g h) else if ((w == 60) = true) then (a false false d e f g h) else if ((decide ((len i) > 0)) = true) then (Adn N (wi ((len i) - 1)) d e f g h fun I x y z A B => if ((!I) = true) then (a false false x y z A B) else Adr N N b (len b) 0 x y z A B t u v b i (fun J L M O P Q S => a J L M O P Q S) fun T U V W X => a false true T U V W X) else Adr N N b (len b) 0 d e f g h t u v b i (fun Y Z aa ab ac ad ae => a Y Z aa ab ac ad ae) fun af ag ah ai aj => a false true af ag ah ai aj
def Ahm : Ast := @Bdh @Adp @Afa @Adn @Adr
def Cmr (N : Nat) : Ab4 Bdg [Aze] := fun R x C => Ahm N x.1.1.1 x.1.1.2.1 x.1.1.2.2.1 x.1.1.2.2.2.1 x.1.1.2.2.2.2.1 x.2.1.1 x.2.1.2.1 x.2.1.2.2.1 x.2.1.2.2.2.1 x.2.1.2.2.2.2.1 (fun y0 y1 y2 y3 y4 y5 y6 => C.1 ((y0, y1, ()), ((y2, y3, y4, y5, y6, ()), ())))
def Bdi (Ahm : Ast) (N : Nat) : Go.AX.Aaj := Ac8 [true, true, true] [] false 3 1 Bdg [Aze] (fun R x C => Ahm N x.1.1.1 x.1.1.2.1 x.1.1.2.2.1 x.1.1.2.2.2.1 x.1.1.2.2.2.2.1 x.2.1.1 x.2.1.2.1 x.2.1.2.2.1 x.2.1.2.2.2.1 x.2.1.2.2.2.2.1 (fun y0 y1 y2 y3 y4 y5 y6 => C.1 ((y0, y1, ()), ((y2, y3, y4, y5, y6, ()), ()))))
def Boe (N : Nat) : Go.AX.Aaj := Bdi @Ahm N
def Cms (N : Nat) : List (Nat × Ac1) := [(11, Aaa Ahu (A3o N N)), (35, Aaa Ahw (A4g N N))]
def B9o (N : Nat) : List (Nat × Go.AX.Aaj) := [(25, Blk N), (12, Bir N), (10, Bit N)]
def Ahx : Code := Tryz.f14.body.getD .skip
def Az8 : Code := Tryz.f27.body.getD .skip
def Aks : Code := Tryz.f49.body.getD .skip
def Aj9 : Aac := ⟨[A0y, wq3, Boa, (34, .one (.val .bool))], A3k⟩
def A1p : Aac := ⟨B9c, []⟩
def A1q : Aac := ⟨[], []⟩
def Biv : Acy := .cons .ret A1p (.cons .normal A1q (.nil))
abbrev B0n (R : Type) := Int->Int->Bool->(List UInt8)->d3->d1->d2->d4->(Bool->Option R)->(Option R)->Option R
abbrev Amp := {R : Type} → Nat → B0n R
def Adz : Amp := fun {R} N a c d h e i f j b g => if (d = true) then (if ((decide (a ≥ 0)) = true) then (b (decide (a < (len e)))) else b false) else if ((c == 7) = true) then (if ((decide (a ≥ 1)) = true) then (b (decide (a ≤ (len f)))) else b false) else g
def Asu (Adz : Amp) (N : Nat) : Aap Aj9 := fun R x K => Adz N x.1.1 x.1.2.2.1 x.1.2.2.2.1 x.2.1.1 x.2.1.2.1 x.2.1.2.2.1 x.2.1.2.2.2.1 x.2.1.2.2.2.2.1 (fun y0 => K .ret (Aab A1p ((y0, ()), (())))) (K .normal (Aab A1q ((()), (()))))
def Biw (N : Nat) : Aap Aj9 := Asu @Adz N
def Aka : Aac := ⟨[A0y, wq3, Boa, (25, .one (.val .bool))], A3k⟩
def A1r : Aac := ⟨B9c, []⟩
def A1s : Aac := ⟨[], []⟩
def Bix : Acy := .cons .ret A1r (.cons .normal A1s (.nil))
abbrev B0o (R : Type) := Int->Int->Bool->(List UInt8)->d3->d1->d2->d4->(Bool->Option R)->(Option R)->Option R
abbrev Alc := {R : Type} → Nat → B0o R
def A6b (Adz : Amp) : Alc := fun {R} N b a j d e f g h c i => if (j = true) then (if ((decide (b ≥ 0)) = true) then (c (decide (b < 200))) else c false) else if ((a == 3) = true) then (Adz N b a (a == 3) d e f g h (fun l => c l) i) else Adz N b a (a == 6) d e f g h (fun m => c m) i
def Ad8 : Alc := @A6b @Adz
def Asv (Ad8 : Alc) (N : Nat) : Aap Aka := fun R x K => Ad8 N x.1.1 x.1.2.2.1 x.1.2.2.2.1 x.2.1.1 x.2.1.2.1 x.2.1.2.2.1 x.2.1.2.2.2.1 x.2.1.2.2.2.2.1 (fun y0 => K .ret (Aab A1r ((y0, ()), (())))) (K .normal (Aab A1s ((()), (()))))
def Biy (N : Nat) : Aap Aka := Asv @Ad8 N
def Akb : Aac := ⟨[A0y, wq3, Boa, (16, .one (.val .bool))], A3k⟩
def A1t : Aac := ⟨B9c, []⟩
def A1u : Aac := ⟨[], []⟩
def Biz : Acy := .cons .ret A1t (.cons .normal A1u (.nil))
abbrev B0p (R : Type) := Int->Int->Bool->(List UInt8)->d3->d1->d2->d4->(Bool->Option R)->(Option R)->Option R
abbrev Ald := {R : Type} → Nat → B0p R
def A6c (Ad8 : Alc) : Ald := fun {R} N b a j d e f g h c i => if (j = true) then (if ((decide (b ≥ 0)) = true) then (c (decide (b ≤ 4000))) else c false) else if ((a == 2) = true) then (Ad8 N b a (a == 2) d e f g h (fun l => c l) i) else Ad8 N b a (a == 5) d e f g h (fun m => c m) i
def Ad9 : Ald := @A6c @Ad8
def Asw (Ad9 : Ald) (N : Nat) : Aap Akb := fun R x K => Ad9 N x.1.1 x.1.2.2.1 x.1.2.2.2.1 x.2.1.1 x.2.1.2.1 x.2.1.2.2.1 x.2.1.2.2.2.1 x.2.1.2.2.2.2.1 (fun y0 => K .ret (Aab A1t ((y0, ()), (())))) (K .normal (Aab A1u ((()), (()))))
def Bi0 (N : Nat) : Aap Akb := Asw @Ad9 N
def Bhj : Aac := ⟨B7e, []⟩
def A0k : Aac := ⟨Ah0, []⟩
abbrev Cay (R : Type) := (List UInt8)->d3->d1->d2->d4->Int->Int->(Bool->Option R)->Option R
abbrev Avg := {R : Type} → Nat → Cay R
def Bhk (Ad9 : Ald) : Avg := fun {R} N d e f g h a c b => if ((a == 0) = true) then (if ((decide (c ≥ (-2147483648))) = true) then (b (decide (c ≤ 2147483647))) else b false) else if ((a == 1) = true) then (Ad9 N c a (a == 1) d e f g h (fun i => b i) (b false)) else Ad9 N c a (a == 4) d e f g h (fun j => b j) (b false)
def Ai2 : Avg := @Bhk @Ad9
def Cm7 (N : Nat) : Ab4 Bhj [A0k] := fun R x C => Ai2 N x.1.1.1 x.1.1.2.1 x.1.1.2.2.1 x.1.1.2.2.2.1 x.1.1.2.2.2.2.1 x.1.2.1 x.1.2.2.1 (fun y0 => C.1 ((y0, ()), (())))
def Bhl (Ai2 : Avg) (N : Nat) : Go.AX.Aaj := Ac8 [true, true, true] [] false 3 0 Bhj [A0k] (fun R x C => Ai2 N x.1.1.1 x.1.1.2.1 x.1.1.2.2.1 x.1.1.2.2.2.1 x.1.1.2.2.2.2.1 x.1.2.1 x.1.2.2.1 (fun y0 => C.1 ((y0, ()), (()))))
def Bse (N : Nat) : Go.AX.Aaj := Bhl @Ai2 N
def Cm8 (N : Nat) : List (Nat × Ac1) := [(24, Aaa Aj9 (Biw N)), (18, Aaa Aka (Biy N)), (12, Aaa Akb (Bi0 N))]
def Caz (N : Nat) : List (Nat × Go.AX.Aaj) := []
def An5 : Aac := ⟨[Alk, A0y, wq3], A3k⟩
def A4h : Aac := ⟨B9c, []⟩
def Bln : Acy := .cons .ret A4h (.nil)
abbrev B4z (R : Type) := Int->Int->(List UInt8)->d3->d1->d2->d4->(Bool->Option R)->Option R
abbrev Apt := {R : Type} → Nat → B4z R
def A9n (Ai2 : Avg) : Apt := fun {R} N a b c d e f g h => Ai2 N c d e f g a b fun i => h i
def Agv : Apt := @A9n @Ai2
def A9o (Agv : Apt) (N : Nat) : Aap An5 := fun R x K => Agv N x.1.1 x.1.2.1 x.2.1.1 x.2.1.2.1 x.2.1.2.2.1 x.2.1.2.2.2.1 x.2.1.2.2.2.2.1 (fun y0 => K .ret (Aab A4h ((y0, ()), (()))))
def Blo (N : Nat) : Aap An5 := A9o @Agv N
def Bhm : Aac := ⟨B7e, []⟩
def A0l : Aac := ⟨Ah0, []⟩
abbrev Ca0 (R : Type) := (List UInt8)->d3->d1->d2->d4->Int->Int->(Bool->Option R)->Option R
abbrev Am7 := {R : Type} → Nat → Ca0 R
def Bhn (Agv : Apt) : Am7 := fun {R} N b c d e f a g h => if ((a == 8) = true) then (Agv N (wi (a - 7)) g b c d e f fun i => h i) else if ((a == 9) = true) then (Agv N (wi (a - 7)) g b c d e f fun j => h j) else Agv N a g b c d e f fun l => h l
def Aeo : Am7 := @Bhn @Agv
def Cm9 (N : Nat) : Ab4 Bhm [A0l] := fun R x C => Aeo N x.1.1.1 x.1.1.2.1 x.1.1.2.2.1 x.1.1.2.2.2.1 x.1.1.2.2.2.2.1 x.1.2.1 x.1.2.2.1 (fun y0 => C.1 ((y0, ()), (())))
def Avh (Aeo : Am7) (N : Nat) : Go.AX.Aaj := Ac8 [true, true, true] [] false 3 0 Bhm [A0l] (fun R x C => Aeo N x.1.1.1 x.1.1.2.1 x.1.1.2.2.1 x.1.1.2.2.2.1 x.1.1.2.2.2.2.1 x.1.2.1 x.1.2.2.1 (fun y0 => C.1 ((y0, ()), (()))))
def Bsf (N : Nat) : Go.AX.Aaj := Avh @Aeo N
def Cna (N : Nat) : List (Nat × Ac1) := [(6, Aaa An5 (Blo N))]
def Ca1 (N : Nat) : List (Nat × Go.AX.Aaj) := [(49, Bse N)]
def Bf4 : Code := Tryz.f28.body.getD .skip
def A4i : Aac := ⟨Aw9, []⟩
def Ar3 : Aac := ⟨Ah0, []⟩
abbrev Bxl (R : Type) := Int->(Bool->Option R)->Option R
abbrev Ahy := {R : Type} → Nat → Bxl R
def Abb : Ahy := fun {R} N a b => if ((decide (a ≥ 1)) = true) then (if ((decide (a ≤ 3)) = true) then (b true) else if ((a == 8) = true) then (b true) else b (a == 9)) else if ((a == 8) = true) then (b true) else b (a == 9)
def Bxm (N : Nat) : Ab4 A4i [Ar3] := fun R x C => Abb N x.1.1 (fun y0 => C.1 ((y0, ()), (())))
def Ann (Abb : Ahy) (N : Nat) : Go.AX.Aaj := Ac8 [true] [] false 1 0 A4i [Ar3] (fun R x C => Abb N x.1.1 (fun y0 => C.1 ((y0, ()), (()))))
def Bf5 (N : Nat) : Go.AX.Aaj := Ann @Abb N
def Bxn (N : Nat) : List (Nat × Ac1) := []
def Bf6 (N : Nat) : List (Nat × Go.AX.Aaj) := []
def Blp : Code := Tryz.f26.body.getD .skip
def A9p : Aac := ⟨Cid, Bhd⟩
def Awc : Aac := ⟨Ah0, Bhd⟩
abbrev B40 (R : Type) := Int->(List UInt8)->d3->d1->d2->d4->(Bool->(List UInt8)->d3->d1->d2->d4->Option R)->Option R
abbrev Akv := {R : Type} → Nat → B40 R
def Acg : Akv := fun {R} N b c d e f a g => if ((decide (b ≥ 0)) = true) then (if ((decide (b < (len a))) = true) then (if (0 ≤ b ∧ b < len a) then (let h := (a.getD b.toNat (0, (0, (0, (0, 0))))).1; if ((h != 13) = true) then (if (0 ≤ b ∧ b < len a) then (g (h != 6) c d e f a) else none) else g false c d e f a) else none) else g false c d e f a) else g false c d e f a
def B41 (N : Nat) : Ab4 A9p [Awc] := fun R x C => Acg N x.1.1 x.2.1.1 x.2.1.2.1 x.2.1.2.2.1 x.2.1.2.2.2.1 x.2.1.2.2.2.2.1 (fun y0 y1 y2 y3 y4 y5 => C.1 ((y0, ()), ((y1, y2, y3, y4, y5, ()), ())))
def Apu (Acg : Akv) (N : Nat) : Go.AX.Aaj := Ac8 [true] [] false 2 1 A9p [Awc] (fun R x C => Acg N x.1.1 x.2.1.1 x.2.1.2.1 x.2.1.2.2.1 x.2.1.2.2.2.1 x.2.1.2.2.2.2.1 (fun y0 y1 y2 y3 y4 y5 => C.1 ((y0, ()), ((y1, y2, y3, y4, y5, ()), ()))))
def Blq (N : Nat) : Go.AX.Aaj := Apu @Acg N
def B42 (N : Nat) : List (Nat × Ac1) := []
def Blr (N : Nat) : List (Nat × Go.AX.Aaj) := []
def Aiw : Aac := ⟨[wq7, Bkp, Bz9, Ch5, (185, .one (.val .bool))], Bxa⟩
def A1v : Aac := ⟨Aw8, []⟩
def A1w : Aac := ⟨Cd0, Bxa⟩
def Bi1 : Acy := .cons .ret A1v (.cons .normal A1w (.nil))
abbrev B0q (R : Type) := Bool->Bool->Bool->Bool->Int->Int->Int->Int->Int->(Bool->Option R)->(Bool->Bool->Int->Int->Int->Int->Int->Option R)->Option R
abbrev Akc := {R : Type} → Nat → B0q R
def A6d (Abb : Ahy) : Akc := fun {R} N b d e f g c h i j a l => if (f = true) then (if (b = true) then (if (e = true) then (Abb N c fun m => a m) else a false) else a false) else l b d g c h i j
def Adf : Akc := @A6d @Abb
def Aop (Adf : Akc) (N : Nat) : Aap Aiw := fun R x K => Adf N x.1.2.1 x.1.2.2.1 x.1.2.2.2.1 x.1.2.2.2.2.1 x.2.1.1 x.2.1.2.1 x.2.1.2.2.1 x.2.1.2.2.2.1 x.2.1.2.2.2.2.1 (fun y0 => K .ret (Aab A1v ((y0, ()), (())))) (fun y0 y1 y2 y3 y4 y5 y6 => K .normal (Aab A1w (((), y0, y1, ()), ((y2, y3, y4, y5, y6, ()), ()))))
def Bi2 (N : Nat) : Aap Aiw := Aop @Adf N
def Aix : Aac := ⟨[wq7, (6, .one (.fnp 26 [33])), Bkp, Bz9, Ch5, Ch7, (101, .one (.val .bool))], [Ci4, (33, .cells 27 Cdy)]⟩
def A1x : Aac := ⟨Aw8, []⟩
def A1y : Aac := ⟨Cd0, Bxa⟩
def Bi3 : Acy := .cons .ret A1x (.cons .normal A1y (.nil))
abbrev B0r (R : Type) := Bool->Bool->Bool->Int->Bool->Int->Int->Int->Int->Int->(List UInt8)->d3->d1->d2->d4->(Bool->Option R)->(Bool->Bool->Int->Int->Int->Int->Int->Option R)->Option R
abbrev Akd := {R : Type} → Nat → B0r R
def A6e (Acg : Akv) (Adf : Akc) : Akd := fun {R} N m e f d r n b c o p g h i j l a q => if (r = true) then (if ((b == 0) = true) then (if (e = true) then (Acg N c g h i j l fun s M O P Q S => a s) else a false) else a false) else if ((d == 10) = true) then (if ((b == 0) = true) then (if ((decide (c ≥ 0)) = true) then (if ((decide (c ≤ 4000)) = true) then (a e) else a false) else a false) else a false) else if ((d == 11) = true) then (if ((b == 0) = true) then (if ((c == 0) = true) then (a e) else a false) else a false) else if ((d == 12) = true) then (if (e = true) then (if ((decide (b ≥ 0)) = true) then (if ((decide (b ≤ 1000)) = true) then (Acg N c g h i j l fun t T U V W X => a t) else a false) else a false) else a false) else if ((d == 13) = true) then (if ((decide (b ≥ (-2147483648))) = true) then (if ((decide (b ≤ 2147483647)) = true) then (Acg N c g h i j l fun u Y Z aa ab ac => if (u = true) then (a f) else a false) else a false) else a false) else if ((d == 58) = true) then (Adf N m e f (d == 58) n b c o p (fun v => a v) fun w x y z A B C => q w x y z A B C) else Adf N m e f (d == 59) n b c o p (fun D => a D) fun E F G H I J L => q E F G H I J L
def Adg : Akd := @A6e @Acg @Adf
def Aoq (Adg : Akd) (N : Nat) : Aap Aix := fun R x K => Adg N x.1.2.2.1 x.1.2.2.2.1 x.1.2.2.2.2.1 x.1.2.2.2.2.2.1 x.1.2.2.2.2.2.2.1 x.2.1.1 x.2.1.2.1 x.2.1.2.2.1 x.2.1.2.2.2.1 x.2.1.2.2.2.2.1 x.2.2.1.1 x.2.2.1.2.1 x.2.2.1.2.2.1 x.2.2.1.2.2.2.1 x.2.2.1.2.2.2.2.1 (fun y0 => K .ret (Aab A1x ((y0, ()), (())))) (fun y0 y1 y2 y3 y4 y5 y6 => K .normal (Aab A1y (((), y0, y1, ()), ((y2, y3, y4, y5, y6, ()), ()))))
def Bi4 (N : Nat) : Aap Aix := Aoq @Adg N
def Aiy : Aac := ⟨[Alk, wq9, (5, .one (.ptr 33)), (6, .one (.fnp 26 [32])), Bkp, Bz9, Ch5, Ch7, (38, .one (.val .bool))], Bbh⟩
def A1z : Aac := ⟨Aw8, []⟩
def A10 : Aac := ⟨Cd0, Bxa⟩
def Bi5 : Acy := .cons .ret A1z (.cons .normal A10 (.nil))
abbrev B0s (R : Type) := Int->Bool->Bool->Bool->Int->Bool->(List UInt8)->d3->d1->d2->d4->Int->Int->Int->Int->Int->(Bool->Option R)->(Bool->Bool->Int->Int->Int->Int->Int->Option R)->Option R
abbrev Ake := {R : Type} → Nat → B0s R
def A6f (Abb : Ahy) (Acg : Akv) (Adg : Akd) : Ake := fun {R} N s c e f b t i j l m d o g n p q a r => if (t = true) then (if (c = true) then (if (e = true) then (Abb N g fun u => a u) else a false) else a false) else if ((b == 3) = true) then (if (c = true) then (a e) else a false) else if ((b == 5) = true) then (if (c = true) then (if (e = true) then (let h := (wi (s + 1)); if ((decide (h < (len d))) = true) then (if (0 ≤ h ∧ h < len d) then (a ((d.getD h.toNat (0, (0, (0, (0, 0))))).1 == 6)) else none) else a false) else a false) else a false) else if ((b == 6) = true) then (if (c = true) then (a f) else a false) else if ((b == 7) = true) then (if ((g == 0) = true) then (if (f = true) then (Acg N n i j l m d fun v O P Q S T => a v) else a false) else a false) else if ((b == 8) = true) then (Adg N c e f b (b == 8) o g n p q i j l m d (fun w => a w) fun x y z A B C D => r x y z A B C D) else Adg N c e f b (b == 9) o g n p q i j l m d (fun E => a E) fun F G H I J L M => r F G H I J L M
def Acq : Ake := @A6f @Abb @Acg @Adg
def Aor (Acq : Ake) (N : Nat) : Aap Aiy := fun R x K => Acq N x.1.1 x.1.2.2.2.2.1 x.1.2.2.2.2.2.1 x.1.2.2.2.2.2.2.1 x.1.2.2.2.2.2.2.2.1 x.1.2.2.2.2.2.2.2.2.1 x.2.1.1 x.2.1.2.1 x.2.1.2.2.1 x.2.1.2.2.2.1 x.2.1.2.2.2.2.1 x.2.2.1.1 x.2.2.1.2.1 x.2.2.1.2.2.1 x.2.2.1.2.2.2.1 x.2.2.1.2.2.2.2.1 (fun y0 => K .ret (Aab A1z ((y0, ()), (())))) (fun y0 y1 y2 y3 y4 y5 y6 => K .normal (Aab A10 (((), y0, y1, ()), ((y2, y3, y4, y5, y6, ()), ()))))
def Bi6 (N : Nat) : Aap Aiy := Aor @Acq N
def Aiz : Aac := ⟨Cd0, Bxa⟩
def A11 : Aac := ⟨Aw8, []⟩
def Bi7 : Acy := .cons .ret A11 (.nil)
abbrev B0t (R : Type) := Bool->Bool->Int->Int->Int->Int->Int->(Bool->Option R)->Option R
abbrev Akf := {R : Type} → Nat → B0t R
def A6g (Abb : Ahy) : Akf := fun {R} N c d b e g h i a => if ((decide (b ≥ 41)) = true) then (if ((decide (b ≤ 57)) = true) then (if (c = true) then (if (d = true) then (Abb N e fun f => a f) else a false) else a false) else a false) else a false
def Acr : Akf := @A6g @Abb
def Aos (Acr : Akf) (N : Nat) : Aap Aiz := fun R x K => Acr N x.1.2.1 x.1.2.2.1 x.2.1.1 x.2.1.2.1 x.2.1.2.2.1 x.2.1.2.2.2.1 x.2.1.2.2.2.2.1 (fun y0 => K .ret (Aab A11 ((y0, ()), (()))))
def Bi8 (N : Nat) : Aap Aiz := Aos @Acr N
def Bho : Aac := ⟨[Bta, Alk], []⟩
def A0m : Aac := ⟨Ah0, []⟩
abbrev Ca2 (R : Type) := (List UInt8)->d3->d1->d2->d4->Int->(Bool->Option R)->Option R
abbrev Avi := {R : Type} → Nat → Ca2 R
def Bhp (Aeo : Am7) (Acq : Ake) (Acr : Akf) : Avi := fun {R} N f g h i b c d => if (0 ≤ c ∧ c < len b) then (let a := (b.getD c.toNat (0, (0, (0, (0, 0))))).1; let l := (b.getD c.toNat (0, (0, (0, (0, 0))))).2.1; let m := (b.getD c.toNat (0, (0, (0, (0, 0))))).2.2.1; let j := (b.getD c.toNat (0, (0, (0, (0, 0))))).2.2.2.1; let e := (b.getD c.toNat (0, (0, (0, (0, 0))))).2.2.2.2; Aeo N f g h i b l m fun n => Aeo N f g h i b j e fun o => if ((j == 0) = true) then (if ((a == 1) = true) then (Acq N c n o (e == 0) a (a == 1) f g h i b a l m j e (fun p => d p) fun q r s t u v w => Acr N q r s t u v w fun x => d x) else if ((a == 2) = true) then (Acq N c n o (e == 0) a (a == 2) f g h i b a l m j e (fun y => d y) fun z A B C D E F => Acr N z A B C D E F fun G => d G) else Acq N c n o (e == 0) a (a == 4) f g h i b a l m j e (fun H => d H) fun I J L M O P Q => Acr N I J L M O P Q fun S => d S) else if ((a == 1) = true) then (Acq N c n o false a (a == 1) f g h i b a l m j e (fun T => d T) fun U V W X Y Z aa => Acr N U V W X Y Z aa fun ab => d ab) else if ((a == 2) = true) then (Acq N c n o false a (a == 2) f g h i b a l m j e (fun ac => d ac) fun ad ae af ag ah ai aj => Acr N ad ae af ag ah ai aj fun ak => d ak) else Acq N c n o false a (a == 4) f g h i b a l m j e (fun al => d al) fun am an ao ap aq ar au => Acr N am an ao ap aq ar au fun av => d av) else none
def Ai3 : Avi := @Bhp @Aeo @Acq @Acr
def Cnb (N : Nat) : Ab4 Bho [A0m] := fun R x C => Ai3 N x.1.1.1 x.1.1.2.1 x.1.1.2.2.1 x.1.1.2.2.2.1 x.1.1.2.2.2.2.1 x.1.2.1 (fun y0 => C.1 ((y0, ()), (())))
def Bhq (Ai3 : Avi) (N : Nat) : Go.AX.Aaj := Ac8 [true, true] [] false 2 0 Bho [A0m] (fun R x C => Ai3 N x.1.1.1 x.1.1.2.1 x.1.1.2.2.1 x.1.1.2.2.2.1 x.1.1.2.2.2.2.1 x.1.2.1 (fun y0 => C.1 ((y0, ()), (()))))
def Bsg (N : Nat) : Go.AX.Aaj := Bhq @Ai3 N
def Cnc (N : Nat) : List (Nat × Ac1) := [(62, Aaa Aiw (Bi2 N)), (40, Aaa Aix (Bi4 N)), (18, Aaa Aiy (Bi6 N)), (64, Aaa Aiz (Bi8 N))]
def Ca3 (N : Nat) : List (Nat × Go.AX.Aaj) := [(27, Bsf N), (28, Bf5 N), (26, Blq N)]
def Aja : Aac := ⟨[wq2, B9b, (18, .one wq0), (19, .one wq0)], A3k⟩
def Ar4 : Aac := ⟨A8r, []⟩
def Ar5 : Aac := ⟨[wq2, B9b], A3k⟩
def Bf7 : Acy := .cons .ret Ar4 (.cons (.exit 0) Ar5 (.nil))
abbrev A4j (R : Type) := Bool->Int->Int->(List UInt8)->d3->d1->d2->d4->(Int->Option R)->(Bool->(List UInt8)->d3->d1->d2->d4->Option R)->Option R
abbrev Bf8 (R : Type) := Bool->Int->Int->(List UInt8)->d3->d1->d2->d4->Option R
abbrev Awd := {R : Type} → Nat → Nat → A4j R
def Awe (Ai3 : Avi) {R : Type} (N : Nat) (rc : Bf8 R) : A4j R := fun g h a b c d e f i j => if ((decide (a < h)) = true) then (Ai3 N b c d e f a fun l => if ((!l) = true) then (i 60) else rc g h (wi (a + 1)) b c d e f) else j g b c d e f
def Ael {R : Type} (N : Nat) : Nat → A4j R
 | 0 => fun _ _ _ _ _ _ _ _ _ _ => none
 | k + 1 => fun a b c d e f g h i j => Awe @Ai3 N (fun a b c d e f g h => Ael N k a b c d e f g h i j) a b c d e f g h i j
def A4k (Ael : Awd) (N k : Nat) : Aap Aja := fun R x K => Ael N k x.1.2.1 x.1.2.2.1 x.1.2.2.2.1 x.2.1.1 x.2.1.2.1 x.2.1.2.2.1 x.2.1.2.2.2.1 x.2.1.2.2.2.2.1 (fun y0 => K .ret (Aab Ar4 ((y0, ()), (())))) (fun y0 y1 y2 y3 y4 y5 => K (.exit 0) (Aab Ar5 (((), y0, ()), ((y1, y2, y3, y4, y5, ()), ()))))
def A4l (N k : Nat) : Aap Aja := A4k @Ael N k
def Agh : Code := Tryz.f15.body.getD .skip
def Bi9 : Code := Tryz.f16.body.getD .skip
def A6h : Aac := ⟨[(0, .agg B7d)], []⟩
def Atr : Aac := ⟨Aw9, []⟩
abbrev B0u (R : Type) := Int->Int->Int->Int->Int->(Int->Option R)->Option R
abbrev Aot := {R : Type} → Nat → B0u R
def Ae2 : Aot := fun {R} N c a d e f b => b a
def B0v (N : Nat) : Ab4 A6h [Atr] := fun R x C => Ae2 N x.1.1.1 x.1.1.2.1 x.1.1.2.2.1 x.1.1.2.2.2.1 x.1.1.2.2.2.2.1 (fun y0 => C.1 ((y0, ()), (())))
def Azf (Ae2 : Aot) (N : Nat) : Go.AX.Aaj := Ac8 [true] [] false 1 0 A6h [Atr] (fun R x C => Ae2 N x.1.1.1 x.1.1.2.1 x.1.1.2.2.1 x.1.1.2.2.2.1 x.1.1.2.2.2.2.1 (fun y0 => C.1 ((y0, ()), (()))))
def Bja (N : Nat) : Go.AX.Aaj := Azf @Ae2 N
def B0w (N : Nat) : List (Nat × Ac1) := []
def Bjb (N : Nat) : List (Nat × Go.AX.Aaj) := []
def Af4 : Aac := ⟨[wq8, Alk, A0y, wq1, B9d, B9e, (32, .one wq0), (33, .one wq0)], []⟩
def Aog : Aac := ⟨Bn9, []⟩
def Aoh : Aac := ⟨[wq8, Alk, A0y, wq1, B9d, B9e], []⟩
def A7q : Acy := .cons .ret Aog (.cons (.exit 3) Aoh (.nil))
abbrev Axp (R : Type) := d4->Int->Int->Int->Int->Int->Int->(Bool->Option R)->(d4->Int->Int->Int->Int->Option R)->Option R
abbrev A7r (R : Type) := d4->Int->Int->Int->Int->Int->Int->Option R
abbrev Ani := {R : Type} → Nat → Nat → Axp R
def Aqw {R : Type} (N : Nat) (rc : A7r R) : Axp R := fun a f c d g h e i j => if ((decide (e < h)) = true) then (let b := (wi ((wi (d + 1)) + e)); if ((decide (b ≥ (len a))) = true) then (i false) else if (0 ≤ b ∧ b < len a) then (if (((a.getD b.toNat (0, (0, (0, (0, 0))))).1 != c) = true) then (i false) else rc a f c d g h (wi (e + 1))) else none) else j a f c d g
def Ach {R : Type} (N : Nat) : Nat → Axp R
 | 0 => fun _ _ _ _ _ _ _ _ _ => none
 | k + 1 => fun a b c d e f g h i => Aqw N (fun a b c d e f g => Ach N k a b c d e f g h i) a b c d e f g h i
def Aqx (Ach : Ani) (N k : Nat) : Aap Af4 := fun R x K => Ach N k x.1.1 x.1.2.1 x.1.2.2.1 x.1.2.2.2.2.1 x.1.2.2.2.2.2.1 x.1.2.2.2.2.2.2.1 x.1.2.2.2.2.2.2.2.1 (fun y0 => K .ret (Aab Aog ((y0, ()), (())))) (fun y0 y1 y2 y3 y4 => K (.exit 3) (Aab Aoh ((y0, y1, y2, (), y3, y4, ()), (()))))
def Axq (N k : Nat) : Aap Af4 := Aqx @Ach N k
def Agw : Aac := ⟨[wq8, Alk, A0y, wq1, B9d], []⟩
def Apj : Aac := ⟨Bn9, []⟩
def Apk : Aac := ⟨[], []⟩
def Baw : Acy := .cons .ret Apj (.cons (.exit 0) Apk (.nil))
abbrev Azs (R : Type) := d4->Int->Int->Int->(Bool->Option R)->(Option R)->Option R
abbrev Bax (R : Type) := d4->Int->Int->Int->Option R
abbrev Aob := {R : Type} → Nat → Nat → Azs R
def Azt (Ae2 : Aot) (Ach : Ani) {R : Type} (N : Nat) (rc : Bax R) : Azs R := fun b e f a g m => if ((decide (a < (len b))) = true) then (if (0 ≤ a ∧ a < len b) then (let h := (b.getD a.toNat (0, (0, (0, (0, 0))))).1; if ((h == e) = true) then (if (0 ≤ a ∧ a < len b) then (Ae2 N h ((b.getD a.toNat (0, (0, (0, (0, 0))))).2.1) ((b.getD a.toNat (0, (0, (0, (0, 0))))).2.2.1) ((b.getD a.toNat (0, (0, (0, (0, 0))))).2.2.2.1) ((b.getD a.toNat (0, (0, (0, (0, 0))))).2.2.2.2) fun j => Ach N N b e f a j j 0 (fun n => g n) fun d l i o p => let c := (wi ((wi (o + p)) + 1)); if ((decide (c < (len d))) = true) then (if (0 ≤ c ∧ c < len d) then (if (((d.getD c.toNat (0, (0, (0, (0, 0))))).1 == i) = true) then (g false) else rc d l i c) else none) else rc d l i c) else none) else if ((h == f) = true) then (g false) else rc b e f (wi (a + 1))) else none) else m
def Acs {R : Type} (N : Nat) : Nat → Azs R
 | 0 => fun _ _ _ _ _ _ => none
 | k + 1 => fun a b c d e f => Azt @Ae2 @Ach N (fun a b c d => Acs N k a b c d e f) a b c d e f
def Ar6 (Acs : Aob) (N k : Nat) : Aap Agw := fun R x K => Acs N k x.1.1 x.1.2.1 x.1.2.2.1 x.1.2.2.2.2.1 (fun y0 => K .ret (Aab Apj ((y0, ()), (())))) (K (.exit 0) (Aab Apk ((()), (()))))
def Azu (N k : Nat) : Aap Agw := Ar6 @Acs N k
def A4m : Aac := ⟨[wq8, Alk, A0y, wq1], []⟩
def Ar7 : Aac := ⟨Ah0, []⟩
abbrev Bxo (R : Type) := d4->Int->Int->(Bool->Option R)->Option R
abbrev Ano := {R : Type} → Nat → Bxo R
def A4n (Acs : Aob) : Ano := fun {R} N b c d a => Acs N N b c d 0 (fun e => a e) (a true)
def Aes : Ano := @A4n @Acs
def Cjb (N : Nat) : Ab4 A4m [Ar7] := fun R x C => Aes N x.1.1 x.1.2.1 x.1.2.2.1 (fun y0 => C.1 ((y0, ()), (())))
def A4o (Aes : Ano) (N : Nat) : Go.AX.Aaj := Ac8 [true, true, true, true] [] false 4 0 A4m [Ar7] (fun R x C => Aes N x.1.1 x.1.2.1 x.1.2.2.1 (fun y0 => C.1 ((y0, ()), (()))))
def Bf9 (N : Nat) : Go.AX.Aaj := A4o @Aes N
def Cjc (N : Nat) : List (Nat × Ac1) := [(17, Aaa Af4 (Axq N N)), (5, Aaa Agw (Azu N N))]
def Bxp (N : Nat) : List (Nat × Go.AX.Aaj) := [(16, Bja N)]
def Bdj : Aac := ⟨Cdz, []⟩
def Azg : Aac := ⟨Aw9, []⟩
abbrev B9p (R : Type) := (List UInt8)->d3->d1->d2->d4->(Int->Option R)->Option R
abbrev Axr := {R : Type} → Nat → B9p R
def Bdk (Ahm : Ast) (Ael : Awd) (Aes : Ano) : Axr := fun {R} N b c d e f a => Ahm N b c d e f b c d e f fun h i j l m n g => if (h = true) then (a 2) else Ael N N i (len g) 0 j l m n g (fun o => a o) fun p s t u v q => if ((!p) = true) then (a 60) else Aes N q 12 13 fun r => if ((!r) = true) then (a 60) else a 0
def Akg : Axr := @Bdk @Ahm @Ael @Aes
def Cmt (N : Nat) : Ab4 Bdj [Azg] := fun R x C => Akg N x.1.1.1 x.1.1.2.1 x.1.1.2.2.1 x.1.1.2.2.2.1 x.1.1.2.2.2.2.1 (fun y0 => C.1 ((y0, ()), (())))
def Bof (Akg : Axr) (N : Nat) : Go.AX.Aaj := Ac8 [true] [] false 1 0 Bdj [Azg] (fun R x C => Akg N x.1.1.1 x.1.1.2.1 x.1.1.2.2.1 x.1.1.2.2.2.1 x.1.1.2.2.2.2.1 (fun y0 => C.1 ((y0, ()), (()))))
def Bog (N : Nat) : Go.AX.Aaj := Bof @Akg N
def Cmu (N : Nat) : List (Nat × Ac1) := [(13, Aaa Aja (A4l N N))]
def B9q (N : Nat) : List (Nat × Go.AX.Aaj) := [(11, Boe N), (14, Bsg N), (15, Bf9 N)]
def Aft : Code := Tryz.f7.body.getD .skip
def An6 : Code := Tryz.f17.body.getD .skip
def Ah9 : Aac := ⟨[wq2, Bhc, Azo], [B0e, Cd6, (34, .row 70 z2)]⟩
def Aqy : Aac := ⟨Bs9, [(32, .cells 68 [(.val .str), (.val z3), (.slf 33), (.val z1), wq0, wq0]), (33, .row 70 z2)]⟩
def Bdl : Acy := .cons (.exit 0) Aqy (.nil)
abbrev A12 (R : Type) := Int->(List UInt8)->d3->d1->d2->d4->(List UInt8)->d3->d1->Int->Int->d2->((List UInt8)->d3->d1->Int->Int->d2->Option R)->Option R
abbrev Bdm (R : Type) := Int->(List UInt8)->d3->d1->d2->d4->(List UInt8)->d3->d1->Int->Int->d2->Option R
abbrev Ats := {R : Type} → Nat → Nat → A12 R
def Att {R : Type} (N : Nat) (rc : Bdm R) : A12 R := fun c j l m d n e f g h i a o => if ((decide (c < (len d))) = true) then (let b := (wi (c + 1)); if ((((List.length a) + (List.length ((24, (b, 0)) :: [(26, (0, 0))]))) * (24 : Nat)) ≤ (70368744177664 : Nat)) then (rc b j l m d n e f g h i (a ++ ((24, (b, 0)) :: [(26, (0, 0))]))) else none) else o e f g h i a
def Ad5 {R : Type} (N : Nat) : Nat → A12 R
 | 0 => fun _ _ _ _ _ _ _ _ _ _ _ _ _ => none
 | k + 1 => fun a b c d e f g h i j l m n => Att N (fun a b c d e f g h i j l m => Ad5 N k a b c d e f g h i j l m n) a b c d e f g h i j l m n
def A13 (Ad5 : Ats) (N k : Nat) : Aap Ah9 := fun R x K => Ad5 N k x.1.2.2.1 x.2.1.1 x.2.1.2.1 x.2.1.2.2.1 x.2.1.2.2.2.1 x.2.1.2.2.2.2.1 x.2.2.1.1 x.2.2.1.2.1 x.2.2.1.2.2.2.1 x.2.2.1.2.2.2.2.1 x.2.2.1.2.2.2.2.2.1 x.2.2.2.1 (fun y0 y1 y2 y3 y4 y5 => K (.exit 0) (Aab Aqy (((), ()), ((y0, y1, (), y2, y3, y4, ()), y5, ()))))
def A14 (N k : Nat) : Aap Ah9 := A13 @Ad5 N k
def An7 : Code := Tryz.f29.body.getD .skip
def Alu : Code := Tryz.f50.body.getD .skip
def Ag6 : Aac := ⟨[wq2, Azn, Azo], Arr⟩
def Aoi : Aac := ⟨Cia, []⟩
def A7s : Acy := .cons (.exit 0) Aoi (.nil)
abbrev Axs (R : Type) := Int->Int->(List UInt8)->d3->d2->d1->Int->Int->(Int->Option R)->Option R
abbrev A7t (R : Type) := Int->Int->(List UInt8)->d3->d2->d1->Int->Int->Option R
abbrev Aqz := {R : Type} → Nat → Nat → Axs R
def Aq0 {R : Type} (N : Nat) (rc : A7t R) : Axs R := fun c a d b e f g h j => if ((decide (a < (len b))) = true) then (if (0 ≤ a ∧ a < len b) then (let i := (wi (c + (((List.length (b.getD a.toNat (([] : List UInt8), (false, ([] : List Int)))).2.2) : Nat) : Int))); if (0 ≤ a ∧ a < len b) then (if ((b.getD a.toNat (([] : List UInt8), (false, ([] : List Int)))).2.1 = true) then (if (0 ≤ a ∧ a < len b) then (rc (wi (i + (wi (Int.tdiv (wi ((((List.length (b.getD a.toNat (([] : List UInt8), (false, ([] : List Int)))).1) : Nat) : Int) + 2)) 2)))) (wi (a + 1)) d b e f g h) else none) else rc i (wi (a + 1)) d b e f g h) else none) else none) else j c
def Adc {R : Type} (N : Nat) : Nat → Axs R
 | 0 => fun _ _ _ _ _ _ _ _ _ => none
 | k + 1 => fun a b c d e f g h i => Aq0 N (fun a b c d e f g h => Adc N k a b c d e f g h i) a b c d e f g h i
def Axt (Adc : Aqz) (N k : Nat) : Aap Ag6 := fun R x K => Adc N k x.1.2.1 x.1.2.2.1 x.2.1.1 x.2.1.2.1 x.2.1.2.2.1 x.2.1.2.2.2.1 x.2.1.2.2.2.2.1 x.2.1.2.2.2.2.2.1 (fun y0 => K (.exit 0) (Aab Aoi ((y0, ()), (()))))
def Axu (N k : Nat) : Aap Ag6 := Axt @Adc N k
def A4p : Aac := ⟨A3l, []⟩
def Ar8 : Aac := ⟨Ah0, []⟩
abbrev Bxq (R : Type) := (List UInt8)->d3->d2->d1->Int->Int->(Bool->Option R)->Option R
abbrev Anp := {R : Type} → Nat → Bxq R
def A4q (Adc : Aqz) : Anp := fun {R} N f b c g d e a => if ((decide ((len c) > 40000)) = true) then (a true) else if ((decide ((len b) > 2000)) = true) then (a true) else if ((decide (d > 200)) = true) then (a true) else if ((decide (e > 20000)) = true) then (a true) else Adc N N 0 0 f b c g d e fun h => a (decide (h > 7800))
def Ae6 : Anp := @A4q @Adc
def Cjd (N : Nat) : Ab4 A4p [Ar8] := fun R x C => Ae6 N x.1.1.1 x.1.1.2.1 x.1.1.2.2.1 x.1.1.2.2.2.1 x.1.1.2.2.2.2.1 x.1.1.2.2.2.2.2.1 (fun y0 => C.1 ((y0, ()), (())))
def A4r (Ae6 : Anp) (N : Nat) : Go.AX.Aaj := Ac8 [true] [] false 1 0 A4p [Ar8] (fun R x C => Ae6 N x.1.1.1 x.1.1.2.1 x.1.1.2.2.1 x.1.1.2.2.2.1 x.1.1.2.2.2.2.1 x.1.1.2.2.2.2.2.1 (fun y0 => C.1 ((y0, ()), (()))))
def Bga (N : Nat) : Go.AX.Aaj := A4r @Ae6 N
def Cje (N : Nat) : List (Nat × Ac1) := [(11, Aaa Ag6 (Axu N N))]
def Bxr (N : Nat) : List (Nat × Go.AX.Aaj) := []
def Adi : Code := Tryz.f51.body.getD .skip
def An8 : Code := Tryz.f79.body.getD .skip
def Ajb : Aac := ⟨[Bn8, (4, .one (.val .str)), A8q], []⟩
def Ar9 : Aac := ⟨[(2, .one (.val .str)), Azn], []⟩
def Asa : Aac := ⟨[Bn8, (4, .one (.val .str))], []⟩
def Bgb : Acy := .cons .ret Ar9 (.cons (.exit 0) Asa (.nil))
abbrev A4s (R : Type) := (List UInt8)->(List UInt8)->Int->((List UInt8)->Int->Option R)->((List UInt8)->(List UInt8)->Option R)->Option R
abbrev Bgc (R : Type) := (List UInt8)->(List UInt8)->Int->Option R
abbrev Awf := {R : Type} → Nat → Nat → A4s R
def Awg {R : Type} (N : Nat) (rc : Bgc R) : A4s R := fun b c a j m => if ((decide (a < (len b))) = true) then (if (0 ≤ a ∧ a < len b) then (let d := (((UInt8.toNat (b.getD a.toNat (0 : UInt8))) : Nat) : Int); if ((d == 10) = true) then (if (((List.length c) + (2 : Nat)) ≤ (70368744177664 : Nat)) then (rc b (c ++ [(42 : UInt8), (110 : UInt8)]) (wi (a + 1))) else none) else if ((d == 9) = true) then (if (((List.length c) + (2 : Nat)) ≤ (70368744177664 : Nat)) then (rc b (c ++ [(42 : UInt8), (116 : UInt8)]) (wi (a + 1))) else none) else if ((d == 42) = true) then (let e := (wi (a + 1)); if ((0 ≤ e) ∧ (e ≤ (len b))) then (if ((0 ≤ a) ∧ (a ≤ e)) then (let h := (List.drop (Int.toNat a) (List.take (Int.toNat e) b)); if (((1 : Nat) + (List.length h)) ≤ (70368744177664 : Nat)) then (if (((List.length c) + (List.length ((42 : UInt8) :: h))) ≤ (70368744177664 : Nat)) then (rc b (c ++ ((42 : UInt8) :: h)) e) else none) else none) else none) else none) else if ((d == 34) = true) then (let f := (wi (a + 1)); if ((0 ≤ f) ∧ (f ≤ (len b))) then (if ((0 ≤ a) ∧ (a ≤ f)) then (let i := (List.drop (Int.toNat a) (List.take (Int.toNat f) b)); if (((1 : Nat) + (List.length i)) ≤ (70368744177664 : Nat)) then (if (((List.length c) + (List.length ((42 : UInt8) :: i))) ≤ (70368744177664 : Nat)) then (rc b (c ++ ((42 : UInt8) :: i)) f) else none) else none) else none) else none) else if ((decide (d < 32)) = true) then (j ([] : List UInt8) 3) else if ((decide (d > 126)) = true) then (j ([] : List UInt8) 3) else let g := (wi (a + 1)); if ((0 ≤ g) ∧ (g ≤ (len b))) then (if ((0 ≤ a) ∧ (a ≤ g)) then (let l := (List.drop (Int.toNat a) (List.take (Int.toNat g) b)); if (((List.length c) + (List.length l)) ≤ (70368744177664 : Nat)) then (rc b (c ++ l) g) else none) else none) else none) else none) else m b c
def Aed {R : Type} (N : Nat) : Nat → A4s R
 | 0 => fun _ _ _ _ _ => none
 | k + 1 => fun a b c d e => Awg N (fun a b c => Aed N k a b c d e) a b c d e
def A4t (Aed : Awf) (N k : Nat) : Aap Ajb := fun R x K => Aed N k x.1.1 x.1.2.1 x.1.2.2.1 (fun y0 y1 => K .ret (Aab Ar9 ((y0, y1, ()), (())))) (fun y0 y1 => K (.exit 0) (Aab Asa ((y0, y1, ()), (()))))
def A4u (N k : Nat) : Aap Ajb := A4t @Aed N k
def A9q : Aac := ⟨[Bn8], []⟩
def Awh : Aac := ⟨[Bn8, Alk], []⟩
abbrev B43 (R : Type) := (List UInt8)->((List UInt8)->Int->Option R)->Option R
abbrev Aj2 := {R : Type} → Nat → B43 R
def A9r (Aed : Awf) : Aj2 := fun {R} N c a => Aed N N c ([(34 : UInt8)]) 0 (fun d e => a d e) fun f b => if ((decide ((len f) > 100)) = true) then (a ([] : List UInt8) 2) else if (((List.length b) + (1 : Nat)) ≤ (70368744177664 : Nat)) then (a (b ++ [(34 : UInt8)]) 0) else none
def Aci : Aj2 := @A9r @Aed
def Ck6 (N : Nat) : Ab4 A9q [Awh] := fun R x C => Aci N x.1.1 (fun y0 y1 => C.1 ((y0, y1, ()), (())))
def Apv (Aci : Aj2) (N : Nat) : Go.AX.Aaj := Ac8 [true] [] false 1 0 A9q [Awh] (fun R x C => Aci N x.1.1 (fun y0 y1 => C.1 ((y0, y1, ()), (()))))
def Bls (N : Nat) : Go.AX.Aaj := Apv @Aci N
def Ck7 (N : Nat) : List (Nat × Ac1) := [(7, Aaa Ajb (A4u N N))]
def B44 (N : Nat) : List (Nat × Go.AX.Aaj) := []
def Bxs : Code := Tryz.f80.body.getD .skip
def Bks : Aac := ⟨B7c, []⟩
def A4v : Aac := ⟨Ah0, []⟩
abbrev Ced (R : Type) := Int->Int->Int->(Bool->Option R)->Option R
abbrev Ad0 := {R : Type} → Nat → Ced R
def Aam : Ad0 := fun {R} N a c d b => if ((decide (a ≥ c)) = true) then (b (decide (a ≤ d))) else b false
def Cee (N : Nat) : Ab4 Bks [A4v] := fun R x C => Aam N x.1.1 x.1.2.1 x.1.2.2.1 (fun y0 => C.1 ((y0, ()), (())))
def Ahn (Aam : Ad0) (N : Nat) : Go.AX.Aaj := Ac8 [true, true, true] [] false 3 0 Bks [A4v] (fun R x C => Aam N x.1.1 x.1.2.1 x.1.2.2.1 (fun y0 => C.1 ((y0, ()), (()))))
def A4w (N : Nat) : Go.AX.Aaj := Ahn @Aam N
def Cef (N : Nat) : List (Nat × Ac1) := []
def Bxt (N : Nat) : List (Nat × Go.AX.Aaj) := []
def Afu : Aac := ⟨[wq2, Azn, (4, .one (.ptr 33)), Boa], [A3m, (33, .cells 34 [(.val .str), (.val .bool), B0b])]⟩
def Aq1 : Aac := ⟨Azm, []⟩
def Aq2 : Aac := ⟨Cif, Arr⟩
def Bdn : Acy := .cons .ret Aq1 (.cons (.exit 2) Aq2 (.nil))
abbrev A15 (R : Type) := Int->Int->(List UInt8)->d3->d2->d1->Int->Int->(List UInt8)->Bool->d0->(Bool->Option R)->(Int->(List UInt8)->d3->d2->d1->Int->Int->Option R)->Option R
abbrev Bdo (R : Type) := Int->Int->(List UInt8)->d3->d2->d1->Int->Int->(List UInt8)->Bool->d0->Option R
abbrev Akz := {R : Type} → Nat → Nat → A15 R
def Atu (Aam : Ad0) {R : Type} (N : Nat) (rc : Bdo R) : A15 R := fun c a d e f g h i j l b m n => if ((decide (a < (len b))) = true) then (if (0 ≤ a ∧ a < len b) then (Aam N (b.getD a.toNat 0) (-2147483648) 2147483647 fun o => if ((!o) = true) then (m false) else rc c (wi (a + 1)) d e f g h i j l b) else none) else n c d e f g h i
def Abx {R : Type} (N : Nat) : Nat → A15 R
 | 0 => fun _ _ _ _ _ _ _ _ _ _ _ _ _ => none
 | k + 1 => fun a b c d e f g h i j l m n => Atu @Aam N (fun a b c d e f g h i j l => Abx N k a b c d e f g h i j l m n) a b c d e f g h i j l m n
def Amq (Abx : Akz) (N k : Nat) : Aap Afu := fun R x K => Abx N k x.1.2.1 x.1.2.2.2.1 x.2.1.1 x.2.1.2.1 x.2.1.2.2.1 x.2.1.2.2.2.1 x.2.1.2.2.2.2.1 x.2.1.2.2.2.2.2.1 x.2.2.1.1 x.2.2.1.2.1 x.2.2.1.2.2.1 (fun y0 => K .ret (Aab Aq1 ((y0, ()), (())))) (fun y0 y1 y2 y3 y4 y5 y6 => K (.exit 2) (Aab Aq2 (((), y0, ()), ((y1, y2, y3, y4, y5, y6, ()), ()))))
def A16 (N k : Nat) : Aap Afu := Amq @Abx N k
def Agi : Aac := ⟨Cif, Arr⟩
def Asb : Aac := ⟨Azm, []⟩
def Asc : Aac := ⟨B9a, Arr⟩
def Bgd : Acy := .cons .ret Asb (.cons (.exit 0) Asc (.nil))
abbrev A4x (R : Type) := Int->(List UInt8)->d3->d2->d1->Int->Int->(Bool->Option R)->((List UInt8)->d3->d2->d1->Int->Int->Option R)->Option R
abbrev Bge (R : Type) := Int->(List UInt8)->d3->d2->d1->Int->Int->Option R
abbrev Alv := {R : Type} → Nat → Nat → A4x R
def Awi (Aci : Aj2) (Abx : Akz) {R : Type} (N : Nat) (rc : Bge R) : A4x R := fun a d b e f g h c l => if ((decide (a < (len b))) = true) then (if (0 ≤ a ∧ a < len b) then (let i := (b.getD a.toNat (([] : List UInt8), (false, ([] : List Int)))).1; let j := (b.getD a.toNat (([] : List UInt8), (false, ([] : List Int)))).2.2; if ((b.getD a.toNat (([] : List UInt8), (false, ([] : List Int)))).2.1 = true) then (Aci N i fun v m => if ((m != 0) = true) then (c false) else if ((decide ((len j) > 0)) = true) then (c false) else rc (wi (a + 1)) d b e f g h) else if ((!(i == ([] : List UInt8))) = true) then (c false) else if (((len j) == 0) = true) then (c false) else Abx N N a 0 d b e f g h i ((b.getD a.toNat (([] : List UInt8), (false, ([] : List Int)))).2.1) j (fun n => c n) fun o p q r s t u => rc (wi (o + 1)) p q r s t u) else none) else l d b e f g h
def Ab2 {R : Type} (N : Nat) : Nat → A4x R
 | 0 => fun _ _ _ _ _ _ _ _ _ => none
 | k + 1 => fun a b c d e f g h i => Awi @Aci @Abx N (fun a b c d e f g => Ab2 N k a b c d e f g h i) a b c d e f g h i
def Anq (Ab2 : Alv) (N k : Nat) : Aap Agi := fun R x K => Ab2 N k x.1.2.1 x.2.1.1 x.2.1.2.1 x.2.1.2.2.1 x.2.1.2.2.2.1 x.2.1.2.2.2.2.1 x.2.1.2.2.2.2.2.1 (fun y0 => K .ret (Aab Asb ((y0, ()), (())))) (fun y0 y1 y2 y3 y4 y5 => K (.exit 0) (Aab Asc (((), ()), ((y0, y1, y2, y3, y4, y5, ()), ()))))
def A4y (N k : Nat) : Aap Agi := Anq @Ab2 N k
def Afv : Aac := ⟨[wq2, Cdr, (9, .one (.ptr 33)), B9e], [A3m, (33, .cells 65 [wq0, wq0])]⟩
def Aq3 : Aac := ⟨Azm, []⟩
def Aq4 : Aac := ⟨Cig, Arr⟩
def Bdp : Acy := .cons .ret Aq3 (.cons (.exit 6) Aq4 (.nil))
abbrev A17 (R : Type) := Int->Int->(List UInt8)->d3->d2->d1->Int->Int->Int->Int->(Bool->Option R)->(Int->(List UInt8)->d3->d2->d1->Int->Int->Option R)->Option R
abbrev Bdq (R : Type) := Int->Int->(List UInt8)->d3->d2->d1->Int->Int->Int->Int->Option R
abbrev Ak0 := {R : Type} → Nat → Nat → A17 R
def Atv {R : Type} (N : Nat) (rc : Bdq R) : A17 R := fun c a d e f b g h i j l m => if ((decide (a < c)) = true) then (if (0 ≤ a ∧ a < len b) then (if (((b.getD a.toNat (0, 0)).1 == i) = true) then (l false) else rc c (wi (a + 1)) d e f b g h i j) else none) else m c d e f b g h
def Aby {R : Type} (N : Nat) : Nat → A17 R
 | 0 => fun _ _ _ _ _ _ _ _ _ _ _ _ => none
 | k + 1 => fun a b c d e f g h i j l m => Atv N (fun a b c d e f g h i j => Aby N k a b c d e f g h i j l m) a b c d e f g h i j l m
def Amr (Aby : Ak0) (N k : Nat) : Aap Afv := fun R x K => Aby N k x.1.2.1 x.1.2.2.2.1 x.2.1.1 x.2.1.2.1 x.2.1.2.2.1 x.2.1.2.2.2.1 x.2.1.2.2.2.2.1 x.2.1.2.2.2.2.2.1 x.2.2.1.1 x.2.2.1.2.1 (fun y0 => K .ret (Aab Aq3 ((y0, ()), (())))) (fun y0 y1 y2 y3 y4 y5 y6 => K (.exit 6) (Aab Aq4 (((), y0, ()), ((y1, y2, y3, y4, y5, y6, ()), ()))))
def A18 (N k : Nat) : Aap Afv := Amr @Aby N k
def Afw : Aac := ⟨Cig, Arr⟩
def Aq5 : Aac := ⟨Azm, []⟩
def Aq6 : Aac := ⟨B9a, Arr⟩
def Bdr : Acy := .cons .ret Aq5 (.cons (.exit 4) Aq6 (.nil))
abbrev A19 (R : Type) := Int->(List UInt8)->d3->d2->d1->Int->Int->(Bool->Option R)->((List UInt8)->d3->d2->d1->Int->Int->Option R)->Option R
abbrev Bds (R : Type) := Int->(List UInt8)->d3->d2->d1->Int->Int->Option R
abbrev Ak1 := {R : Type} → Nat → Nat → A19 R
def Atw (Aam : Ad0) (Aby : Ak0) {R : Type} (N : Nat) (rc : Bds R) : A19 R := fun a e f g b c h d l => if ((decide (a < (len b))) = true) then (if (0 ≤ a ∧ a < len b) then (let i := (b.getD a.toNat (0, 0)).1; let j := (b.getD a.toNat (0, 0)).2; Aam N i 1 199 fun m => if ((!m) = true) then (d false) else Aam N j 1 c fun n => if ((!n) = true) then (d false) else Aby N N a 0 e f g b c h i j (fun o => d o) fun p q r s t u v => rc (wi (p + 1)) q r s t u v) else none) else l e f g b c h
def Abj {R : Type} (N : Nat) : Nat → A19 R
 | 0 => fun _ _ _ _ _ _ _ _ _ => none
 | k + 1 => fun a b c d e f g h i => Atw @Aam @Aby N (fun a b c d e f g => Abj N k a b c d e f g h i) a b c d e f g h i
def Ams (Abj : Ak1) (N k : Nat) : Aap Afw := fun R x K => Abj N k x.1.2.1 x.2.1.1 x.2.1.2.1 x.2.1.2.2.1 x.2.1.2.2.2.1 x.2.1.2.2.2.2.1 x.2.1.2.2.2.2.2.1 (fun y0 => K .ret (Aab Aq5 ((y0, ()), (())))) (fun y0 y1 y2 y3 y4 y5 => K (.exit 4) (Aab Aq6 (((), ()), ((y0, y1, y2, y3, y4, y5, ()), ()))))
def A2a (N k : Nat) : Aap Afw := Ams @Abj N k
def A9s : Aac := ⟨A3l, []⟩
def Awj : Aac := ⟨Ah0, []⟩
abbrev B45 (R : Type) := (List UInt8)->d3->d2->d1->Int->Int->(Bool->Option R)->Option R
abbrev Apw := {R : Type} → Nat → B45 R
def A9t (Ab2 : Alv) (Abj : Ak1) (Aci : Aj2) : Apw := fun {R} N b c d e f g a => Ab2 N N 0 b c d e f g (fun h => a h) fun i j l m n o => Abj N N 0 i j l m n o (fun p => a p) fun q s t u v w => Aci N q fun x r => a (r == 0)
def Agx : Apw := @A9t @Ab2 @Abj @Aci
def Ck8 (N : Nat) : Ab4 A9s [Awj] := fun R x C => Agx N x.1.1.1 x.1.1.2.1 x.1.1.2.2.1 x.1.1.2.2.2.1 x.1.1.2.2.2.2.1 x.1.1.2.2.2.2.2.1 (fun y0 => C.1 ((y0, ()), (())))
def A9u (Agx : Apw) (N : Nat) : Go.AX.Aaj := Ac8 [true] [] false 1 0 A9s [Awj] (fun R x C => Agx N x.1.1.1 x.1.1.2.1 x.1.1.2.2.1 x.1.1.2.2.2.1 x.1.1.2.2.2.2.1 x.1.1.2.2.2.2.2.1 (fun y0 => C.1 ((y0, ()), (()))))
def Blt (N : Nat) : Go.AX.Aaj := A9u @Agx N
def Ck9 (N : Nat) : List (Nat × Ac1) := [(25, Aaa Afu (A16 N N)), (5, Aaa Agi (A4y N N)), (47, Aaa Afv (A18 N N)), (35, Aaa Afw (A2a N N))]
def B46 (N : Nat) : List (Nat × Go.AX.Aaj) := [(79, Bls N), (80, A4w N)]
def Ad1 : Code := Tryz.f52.body.getD .skip
def Afd : Aac := ⟨[wq9, Bhc, Cdu, (93, .one (.val .bool))], Bqb⟩
def Atx : Aac := ⟨Aw8, []⟩
def Aty : Aac := ⟨Bs9, A8s⟩
def A7u : Acy := .cons .ret Atx (.cons .normal Aty (.nil))
abbrev Boh (R : Type) := Int->Bool->(List UInt8)->d3->d2->d1->Int->Int->Int->Int->Int->(Bool->Option R)->(Int->Int->Int->Option R)->Option R
abbrev Af5 := {R : Type} → Nat → Boh R
def Axv (Aam : Ad0) : Af5 := fun {R} N d f q r s t g e h b c a i => if (f = true) then (Aam N b 1 e fun j => a j) else if ((d == 24) = true) then (Aam N b 1 g fun l => if (l = true) then (Aam N c 0 8 fun m => a m) else a false) else if ((d == 29) = true) then (Aam N b 1 e fun n => if (n = true) then (Aam N c 0 1000 fun o => a o) else a false) else if ((d == 30) = true) then (Aam N c 1 e fun p => a p) else i h b c
def Aa2 : Af5 := @Axv @Aam
def Ajp (Aa2 : Af5) (N : Nat) : Aap Afd := fun R x K => Aa2 N x.1.2.2.1 x.1.2.2.2.1 x.2.1.1 x.2.1.2.1 x.2.1.2.2.1 x.2.1.2.2.2.1 x.2.1.2.2.2.2.1 x.2.1.2.2.2.2.2.1 x.2.2.1.1 x.2.2.1.2.1 x.2.2.1.2.2.1 (fun y0 => K .ret (Aab Atx ((y0, ()), (())))) (fun y0 y1 y2 => K .normal (Aab Aty (((), ()), ((y0, y1, y2, ()), ()))))
def A7v (N : Nat) : Aap Afd := Ajp @Aa2 N
def Afe : Aac := ⟨[wq9, Bhc, Cdu, (60, .one (.val .bool))], Bqb⟩
def Atz : Aac := ⟨Aw8, []⟩
def At0 : Aac := ⟨Bs9, A8s⟩
def A7w : Acy := .cons .ret Atz (.cons .normal At0 (.nil))
abbrev Boi (R : Type) := Int->Bool->(List UInt8)->d3->d2->d1->Int->Int->Int->Int->Int->(Bool->Option R)->(Int->Int->Int->Option R)->Option R
abbrev Af6 := {R : Type} → Nat → Boi R
def Axw (Aam : Ad0) (Aa2 : Af5) : Af6 := fun {R} N a n f d g h e i j b l c m => if (n = true) then (Aam N b 0 (wi ((len d) - 1)) fun o => c o) else if ((a == 11) = true) then (Aam N b 1 e fun p => c p) else if ((a == 16) = true) then (Aam N b 1 17 fun q => c q) else if ((a == 17) = true) then (if ((b == 18) = true) then (c true) else c (b == 19)) else if ((a == 19) = true) then (Aa2 N a (a == 19) f d g h e i j b l (fun r => c r) fun s t u => m s t u) else if ((a == 20) = true) then (Aa2 N a (a == 20) f d g h e i j b l (fun v => c v) fun w x y => m w x y) else if ((a == 21) = true) then (Aa2 N a (a == 21) f d g h e i j b l (fun z => c z) fun A B C => m A B C) else if ((a == 22) = true) then (Aa2 N a (a == 22) f d g h e i j b l (fun D => c D) fun E F G => m E F G) else Aa2 N a (a == 27) f d g h e i j b l (fun H => c H) fun I J L => m I J L
def Aa7 : Af6 := @Axw @Aam @Aa2
def Ajq (Aa7 : Af6) (N : Nat) : Aap Afe := fun R x K => Aa7 N x.1.2.2.1 x.1.2.2.2.1 x.2.1.1 x.2.1.2.1 x.2.1.2.2.1 x.2.1.2.2.2.1 x.2.1.2.2.2.2.1 x.2.1.2.2.2.2.2.1 x.2.2.1.1 x.2.2.1.2.1 x.2.2.1.2.2.1 (fun y0 => K .ret (Aab Atz ((y0, ()), (())))) (fun y0 y1 y2 => K .normal (Aab At0 (((), ()), ((y0, y1, y2, ()), ()))))
def A7x (N : Nat) : Aap Afe := Ajq @Aa7 N
def Aff : Aac := ⟨[wq9, Bhc, Cdu, (53, .one (.val .bool))], Bqb⟩
def At1 : Aac := ⟨Aw8, []⟩
def At2 : Aac := ⟨Bs9, A8s⟩
def A7y : Acy := .cons .ret At1 (.cons .normal At2 (.nil))
abbrev Boj (R : Type) := Int->Bool->(List UInt8)->d3->d2->d1->Int->Int->Int->Int->Int->(Bool->Option R)->(Int->Int->Int->Option R)->Option R
abbrev Af7 := {R : Type} → Nat → Boj R
def Axx (Aam : Ad0) (Aa7 : Af6) : Af7 := fun {R} N a n d e f g h i j b l c m => if (n = true) then (Aam N b 0 199 fun o => c o) else if ((a == 8) = true) then (Aa7 N a (a == 8) d e f g h i j b l (fun p => c p) fun q r s => m q r s) else if ((a == 9) = true) then (Aa7 N a (a == 9) d e f g h i j b l (fun t => c t) fun u v w => m u v w) else Aa7 N a (a == 10) d e f g h i j b l (fun x => c x) fun y z A => m y z A
def Aa8 : Af7 := @Axx @Aam @Aa7
def Ajr (Aa8 : Af7) (N : Nat) : Aap Aff := fun R x K => Aa8 N x.1.2.2.1 x.1.2.2.2.1 x.2.1.1 x.2.1.2.1 x.2.1.2.2.1 x.2.1.2.2.2.1 x.2.1.2.2.2.2.1 x.2.1.2.2.2.2.2.1 x.2.2.1.1 x.2.2.1.2.1 x.2.2.1.2.2.1 (fun y0 => K .ret (Aab At1 ((y0, ()), (())))) (fun y0 y1 y2 => K .normal (Aab At2 (((), ()), ((y0, y1, y2, ()), ()))))
def A7z (N : Nat) : Aap Aff := Ajr @Aa8 N
def Afg : Aac := ⟨[wq9, Bhc, Cdu, (43, .one (.val .bool))], Bqb⟩
def At3 : Aac := ⟨Aw8, []⟩
def At4 : Aac := ⟨Bs9, A8s⟩
def A70 : Acy := .cons .ret At3 (.cons .normal At4 (.nil))
abbrev Bok (R : Type) := Int->Bool->(List UInt8)->d3->d2->d1->Int->Int->Int->Int->Int->(Bool->Option R)->(Int->Int->Int->Option R)->Option R
abbrev Af8 := {R : Type} → Nat → Bok R
def Axy (Aam : Ad0) (Aa8 : Af7) : Af8 := fun {R} N a n d e f g h i j b l c m => if (n = true) then (Aam N b 0 4000 fun o => c o) else if ((a == 5) = true) then (Aa8 N a (a == 5) d e f g h i j b l (fun p => c p) fun q r s => m q r s) else if ((a == 6) = true) then (Aa8 N a (a == 6) d e f g h i j b l (fun t => c t) fun u v w => m u v w) else Aa8 N a (a == 7) d e f g h i j b l (fun x => c x) fun y z A => m y z A
def Aao : Af8 := @Axy @Aam @Aa8
def Ajs (Aao : Af8) (N : Nat) : Aap Afg := fun R x K => Aao N x.1.2.2.1 x.1.2.2.2.1 x.2.1.1 x.2.1.2.1 x.2.1.2.2.1 x.2.1.2.2.2.1 x.2.1.2.2.2.2.1 x.2.1.2.2.2.2.2.1 x.2.2.1.1 x.2.2.1.2.1 x.2.2.1.2.2.1 (fun y0 => K .ret (Aab At3 ((y0, ()), (())))) (fun y0 y1 y2 => K .normal (Aab At4 (((), ()), ((y0, y1, y2, ()), ()))))
def A71 (N : Nat) : Aap Afg := Ajs @Aao N
def Afh : Aac := ⟨Bs9, A8s⟩
def At5 : Aac := ⟨Aw8, []⟩
def A72 : Acy := .cons .ret At5 (.nil)
abbrev Bol (R : Type) := Int->Int->Int->(Bool->Option R)->Option R
abbrev Ag7 := {R : Type} → Nat → Bol R
def Aan : Ag7 := fun {R} N c a d b => b (a == 0)
def Ajt (Aan : Ag7) (N : Nat) : Aap Afh := fun R x K => Aan N x.2.1.1 x.2.1.2.1 x.2.1.2.2.1 (fun y0 => K .ret (Aab At5 ((y0, ()), (()))))
def A73 (N : Nat) : Aap Afh := Ajt @Aan N
def A4z : Aac := ⟨[Cd5, (1, .agg B9g)], []⟩
def Asd : Aac := ⟨Ah0, []⟩
abbrev Bxu (R : Type) := (List UInt8)->d3->d2->d1->Int->Int->Int->Int->Int->(Bool->Option R)->Option R
abbrev Anr := {R : Type} → Nat → Bxu R
def Aq7 (Aam : Ad0) (Aao : Af8) (Aan : Ag7) : Anr := fun {R} N e f g h i j a d c b => Aam N a 1 30 fun l => if ((!l) = true) then (b false) else Aam N d (-2147483648) 2147483647 fun m => if ((!m) = true) then (b false) else Aam N c (-2147483648) 2147483647 fun n => if ((!n) = true) then (b false) else if ((a != 24) = true) then (if ((a != 29) = true) then (if ((a != 30) = true) then (if ((c != 0) = true) then (b false) else if ((a == 1) = true) then (b true) else if ((a == 2) = true) then (Aao N a (a == 2) e f g h i j a d c (fun o => b o) fun p q r => Aan N p q r fun s => b s) else if ((a == 3) = true) then (Aao N a (a == 3) e f g h i j a d c (fun t => b t) fun u v w => Aan N u v w fun x => b x) else if ((a == 4) = true) then (Aao N a (a == 4) e f g h i j a d c (fun y => b y) fun z A B => Aan N z A B fun C => b C) else if ((a == 23) = true) then (Aao N a (a == 23) e f g h i j a d c (fun D => b D) fun E F G => Aan N E F G fun H => b H) else if ((a == 18) = true) then (Aao N a (a == 18) e f g h i j a d c (fun I => b I) fun J L M => Aan N J L M fun O => b O) else Aao N a (a == 28) e f g h i j a d c (fun P => b P) fun Q S T => Aan N Q S T fun U => b U) else if ((a == 1) = true) then (b true) else if ((a == 2) = true) then (Aao N a (a == 2) e f g h i j a d c (fun V => b V) fun W X Y => Aan N W X Y fun Z => b Z) else if ((a == 3) = true) then (Aao N a (a == 3) e f g h i j a d c (fun aa => b aa) fun ab ac ad => Aan N ab ac ad fun ae => b ae) else if ((a == 4) = true) then (Aao N a (a == 4) e f g h i j a d c (fun af => b af) fun ag ah ai => Aan N ag ah ai fun aj => b aj) else if ((a == 23) = true) then (Aao N a (a == 23) e f g h i j a d c (fun ak => b ak) fun al am an => Aan N al am an fun ao => b ao) else if ((a == 18) = true) then (Aao N a (a == 18) e f g h i j a d c (fun ap => b ap) fun aq ar au => Aan N aq ar au fun av => b av) else Aao N a (a == 28) e f g h i j a d c (fun aw => b aw) fun ax ay az => Aan N ax ay az fun ba => b ba) else if ((a == 1) = true) then (b true) else if ((a == 2) = true) then (Aao N a (a == 2) e f g h i j a d c (fun bb => b bb) fun bc bd be => Aan N bc bd be fun bf => b bf) else if ((a == 3) = true) then (Aao N a (a == 3) e f g h i j a d c (fun bg => b bg) fun bh bi bj => Aan N bh bi bj fun bk => b bk) else if ((a == 4) = true) then (Aao N a (a == 4) e f g h i j a d c (fun bl => b bl) fun bm bn bo => Aan N bm bn bo fun bp => b bp) else if ((a == 23) = true) then (Aao N a (a == 23) e f g h i j a d c (fun bq => b bq) fun br bs bt => Aan N br bs bt fun bu => b bu) else if ((a == 18) = true) then (Aao N a (a == 18) e f g h i j a d c (fun bv => b bv) fun bw bx bz => Aan N bw bx bz fun ca => b ca) else Aao N a (a == 28) e f g h i j a d c (fun cb => b cb) fun cc cd ce => Aan N cc cd ce fun cf => b cf) else if ((a == 1) = true) then (b true) else if ((a == 2) = true) then (Aao N a (a == 2) e f g h i j a d c (fun cg => b cg) fun ch ci cj => Aan N ch ci cj fun ck => b ck) else if ((a == 3) = true) then (Aao N a (a == 3) e f g h i j a d c (fun cl => b cl) fun cm cn co => Aan N cm cn co fun cp => b cp) else if ((a == 4) = true) then (Aao N a (a == 4) e f g h i j a d c (fun cq => b cq) fun cr cs ct => Aan N cr cs ct fun cu => b cu) else if ((a == 23) = true) then (Aao N a (a == 23) e f g h i j a d c (fun cv => b cv) fun cw cx cy => Aan N cw cx cy fun cz => b cz) else if ((a == 18) = true) then (Aao N a (a == 18) e f g h i j a d c (fun da => b da) fun db dc dd => Aan N db dc dd fun de => b de) else Aao N a (a == 28) e f g h i j a d c (fun df => b df) fun dg dh di => Aan N dg dh di fun dj => b dj
def Aee : Anr := @Aq7 @Aam @Aao @Aan
def Cjf (N : Nat) : Ab4 A4z [Asd] := fun R x C => Aee N x.1.1.1 x.1.1.2.1 x.1.1.2.2.1 x.1.1.2.2.2.1 x.1.1.2.2.2.2.1 x.1.1.2.2.2.2.2.1 x.1.2.1.1 x.1.2.1.2.1 x.1.2.1.2.2.1 (fun y0 => C.1 ((y0, ()), (())))
def A40 (Aee : Anr) (N : Nat) : Go.AX.Aaj := Ac8 [true, true] [] false 2 0 A4z [Asd] (fun R x C => Aee N x.1.1.1 x.1.1.2.1 x.1.1.2.2.1 x.1.1.2.2.2.1 x.1.1.2.2.2.2.1 x.1.1.2.2.2.2.2.1 x.1.2.1.1 x.1.2.1.2.1 x.1.2.1.2.2.1 (fun y0 => C.1 ((y0, ()), (()))))
def Bgf (N : Nat) : Go.AX.Aaj := A40 @Aee N
def Cjg (N : Nat) : List (Nat × Ac1) := [(68, Aaa Afd (A7v N)), (44, Aaa Afe (A7x N)), (36, Aaa Aff (A7z N)), (28, Aaa Afg (A71 N)), (82, Aaa Afh (A73 N))]
def Bxv (N : Nat) : List (Nat × Go.AX.Aaj) := [(80, A4w N)]
def Aia : Aac := ⟨Cif, Arr⟩
def Aq8 : Aac := ⟨A8r, []⟩
def Aq9 : Aac := ⟨B9a, Arr⟩
def Bdt : Acy := .cons .ret Aq8 (.cons (.exit 0) Aq9 (.nil))
abbrev A2b (R : Type) := Int->(List UInt8)->d3->d2->d1->Int->Int->(Int->Option R)->((List UInt8)->d3->d2->d1->Int->Int->Option R)->Option R
abbrev Bdu (R : Type) := Int->(List UInt8)->d3->d2->d1->Int->Int->Option R
abbrev At6 := {R : Type} → Nat → Nat → A2b R
def A2c (Aee : Anr) {R : Type} (N : Nat) (rc : Bdu R) : A2b R := fun b c d a e f g h i => if ((decide (b < (len a))) = true) then (if (0 ≤ b ∧ b < len a) then (Aee N c d a e f g ((a.getD b.toNat (0, (0, 0))).1) ((a.getD b.toNat (0, (0, 0))).2.1) ((a.getD b.toNat (0, (0, 0))).2.2) fun j => if ((!j) = true) then (h 60) else rc (wi (b + 1)) c d a e f g) else none) else i c d a e f g
def Aej {R : Type} (N : Nat) : Nat → A2b R
 | 0 => fun _ _ _ _ _ _ _ _ _ => none
 | k + 1 => fun a b c d e f g h i => A2c @Aee N (fun a b c d e f g => Aej N k a b c d e f g h i) a b c d e f g h i
def A2d (Aej : At6) (N k : Nat) : Aap Aia := fun R x K => Aej N k x.1.2.1 x.2.1.1 x.2.1.2.1 x.2.1.2.2.1 x.2.1.2.2.2.1 x.2.1.2.2.2.2.1 x.2.1.2.2.2.2.2.1 (fun y0 => K .ret (Aab Aq8 ((y0, ()), (())))) (fun y0 y1 y2 y3 y4 y5 => K (.exit 0) (Aab Aq9 (((), ()), ((y0, y1, y2, y3, y4, y5, ()), ()))))
def A2e (N k : Nat) : Aap Aia := A2d @Aej N k
def Ag1 : Code := Tryz.f53.body.getD .skip
def Bjc : Code := Tryz.f81.body.getD .skip
def A6i : Aac := ⟨Cd2, []⟩
def At7 : Aac := ⟨Ah0, []⟩
abbrev B0x (R : Type) := Int->Int->Int->(Bool->Option R)->Option R
abbrev Ai0 := {R : Type} → Nat → B0x R
def Aav : Ai0 := fun {R} N a c d b => if ((a != 20) = true) then (if ((a != 25) = true) then (if ((a != 26) = true) then (if ((a != 27) = true) then (if ((a != 29) = true) then (b (a != 30)) else b false) else b false) else b false) else b false) else b false
def B0y (N : Nat) : Ab4 A6i [At7] := fun R x C => Aav N x.1.1.1 x.1.1.2.1 x.1.1.2.2.1 (fun y0 => C.1 ((y0, ()), (())))
def Amt (Aav : Ai0) (N : Nat) : Go.AX.Aaj := Ac8 [true] [] false 1 0 A6i [At7] (fun R x C => Aav N x.1.1.1 x.1.1.2.1 x.1.1.2.2.1 (fun y0 => C.1 ((y0, ()), (()))))
def A6j (N : Nat) : Go.AX.Aaj := Amt @Aav N
def B0z (N : Nat) : List (Nat × Ac1) := []
def Bjd (N : Nat) : List (Nat × Go.AX.Aaj) := []
def Aib : Aac := ⟨[wq2, Azn, Azo, A8q, A0z, (7, .one (.ptr 33)), Bz9], Bqb⟩
def Axz : Aac := ⟨Azm, []⟩
def Ax0 : Aac := ⟨Cd8, Arr⟩
def Bdv : Acy := .cons .ret Axz (.cons .normal Ax0 (.nil))
abbrev Btg (R : Type) := Int->Int->Int->Int->Bool->(List UInt8)->d3->d2->d1->Int->Int->Int->Int->Int->(Bool->Option R)->(Int->Int->Int->Int->(List UInt8)->d3->d2->d1->Int->Int->Option R)->Option R
abbrev Aju := {R : Type} → Nat → Btg R
def A2f (Aav : Ai0) : Aju := fun {R} N c d e a p f g b h i j n q r l m => Aav N n q r fun s => if (s = true) then (if (p = true) then (l false) else let o := (wi (a + 1)); if (0 ≤ o ∧ o < len b) then (if (((b.getD o.toNat (0, (0, 0))).1 == 24) = true) then (l false) else if ((a == 0) = true) then (if ((n != 24) = true) then (l false) else m c d e a f g b h i j) else m c d e a f g b h i j) else none) else if ((a == 0) = true) then (if ((n != 24) = true) then (l false) else m c d e a f g b h i j) else m c d e a f g b h i j
def Abz : Aju := @A2f @Aav
def Ao7 (Abz : Aju) (N : Nat) : Aap Aib := fun R x K => Abz N x.1.2.1 x.1.2.2.1 x.1.2.2.2.1 x.1.2.2.2.2.1 x.1.2.2.2.2.2.2.1 x.2.1.1 x.2.1.2.1 x.2.1.2.2.1 x.2.1.2.2.2.1 x.2.1.2.2.2.2.1 x.2.1.2.2.2.2.2.1 x.2.2.1.1 x.2.2.1.2.1 x.2.2.1.2.2.1 (fun y0 => K .ret (Aab Axz ((y0, ()), (())))) (fun y0 y1 y2 y3 y4 y5 y6 y7 y8 y9 => K .normal (Aab Ax0 (((), y0, y1, y2, y3, ()), ((y4, y5, y6, y7, y8, y9, ()), ()))))
def Bdw (N : Nat) : Aap Aib := Ao7 @Abz N
def Aic : Aac := ⟨[wq2, Azn, Azo, A8q, A0z, (7, .one (.ptr 33))], Bqb⟩
def Ax1 : Aac := ⟨Azm, []⟩
def Ax2 : Aac := ⟨Cd8, Arr⟩
def Bdx : Acy := .cons .ret Ax1 (.cons .normal Ax2 (.nil))
abbrev Bth (R : Type) := Int->Int->Int->Int->(List UInt8)->d3->d2->d1->Int->Int->Int->Int->Int->(Bool->Option R)->(Int->Int->Int->Int->(List UInt8)->d3->d2->d1->Int->Int->Option R)->Option R
abbrev Ajv := {R : Type} → Nat → Bth R
def A2g (Abz : Aju) : Ajv := fun {R} N h p q f i j a l m n c d g e o => let b := (wi (f + 1)); if ((c == 24) = true) then (let t := (wi (h + 1)); if ((d != t) = true) then (e false) else Abz N t p q f (decide (b ≥ (len a))) i j a l m n c d g (fun u => e u) fun v w x y z A B C D E => o v w x y z A B C D E) else if ((c == 29) = true) then (Abz N h p g f (decide (b ≥ (len a))) i j a l m n c d g (fun F => e F) fun G H I J L M O P Q S => o G H I J L M O P Q S) else if ((c == 19) = true) then (let r := (if (d > p) then d else p); if ((decide (b ≥ (len a))) = true) then (e false) else if (0 ≤ b ∧ b < len a) then (let s := (a.getD b.toNat (0, (0, 0))).1; if ((s != 18) = true) then (if (0 ≤ b ∧ b < len a) then (if ((s != 28) = true) then (if (0 ≤ b ∧ b < len a) then (if ((s != 19) = true) then (e false) else Abz N h r q f (decide (b ≥ (len a))) i j a l m n c d g (fun T => e T) fun U V W X Y Z aa ab ac ad => o U V W X Y Z aa ab ac ad) else none) else Abz N h r q f (decide (b ≥ (len a))) i j a l m n c d g (fun ae => e ae) fun af ag ah ai aj ak al am an ao => o af ag ah ai aj ak al am an ao) else none) else Abz N h r q f (decide (b ≥ (len a))) i j a l m n c d g (fun ap => e ap) fun aq ar au av aw ax ay az ba bb => o aq ar au av aw ax ay az ba bb) else none) else Abz N h p q f (decide (b ≥ (len a))) i j a l m n c d g (fun bc => e bc) fun bd be bf bg bh bi bj bk bl bm => o bd be bf bg bh bi bj bk bl bm
def Ac5 : Ajv := @A2g @Abz
def Ao8 (Ac5 : Ajv) (N : Nat) : Aap Aic := fun R x K => Ac5 N x.1.2.1 x.1.2.2.1 x.1.2.2.2.1 x.1.2.2.2.2.1 x.2.1.1 x.2.1.2.1 x.2.1.2.2.1 x.2.1.2.2.2.1 x.2.1.2.2.2.2.1 x.2.1.2.2.2.2.2.1 x.2.2.1.1 x.2.2.1.2.1 x.2.2.1.2.2.1 (fun y0 => K .ret (Aab Ax1 ((y0, ()), (())))) (fun y0 y1 y2 y3 y4 y5 y6 y7 y8 y9 => K .normal (Aab Ax2 (((), y0, y1, y2, y3, ()), ((y4, y5, y6, y7, y8, y9, ()), ()))))
def Bdy (N : Nat) : Aap Aic := Ao8 @Ac5 N
def Ag8 : Aac := ⟨Cd8, Arr⟩
def Ase : Aac := ⟨Azm, []⟩
def Asf : Aac := ⟨[wq2, Azn, Azo, A8q], Arr⟩
def Bgg : Acy := .cons .ret Ase (.cons (.exit 0) Asf (.nil))
abbrev A41 (R : Type) := Int->Int->Int->Int->(List UInt8)->d3->d2->d1->Int->Int->(Bool->Option R)->(Int->Int->Int->(List UInt8)->d3->d2->d1->Int->Int->Option R)->Option R
abbrev Bgh (R : Type) := Int->Int->Int->Int->(List UInt8)->d3->d2->d1->Int->Int->Option R
abbrev Ans := {R : Type} → Nat → Nat → A41 R
def A42 (Ac5 : Ajv) {R : Type} (N : Nat) (rc : Bgh R) : A41 R := fun d e c a f g b h i j l p => if ((decide (a < (len b))) = true) then (if (0 ≤ a ∧ a < len b) then (let m := (b.getD a.toNat (0, (0, 0))).1; let n := (b.getD a.toNat (0, (0, 0))).2.1; let o := (b.getD a.toNat (0, (0, 0))).2.2; if ((!((decide (c > 0)) == (m == 30))) = true) then (l false) else if ((decide (c > 0)) = true) then (Ac5 N d e (wi (c - 1)) a f g b h i j m n o (fun q => l q) fun r s t u v w x y z A => rc r s t (wi (u + 1)) v w x y z A) else Ac5 N d e c a f g b h i j m n o (fun B => l B) fun C D E F G H I J L M => rc C D E (wi (F + 1)) G H I J L M) else none) else p d e c f g b h i j
def Acu {R : Type} (N : Nat) : Nat → A41 R
 | 0 => fun _ _ _ _ _ _ _ _ _ _ _ _ => none
 | k + 1 => fun a b c d e f g h i j l m => A42 @Ac5 N (fun a b c d e f g h i j => Acu N k a b c d e f g h i j l m) a b c d e f g h i j l m
def Ara (Acu : Ans) (N k : Nat) : Aap Ag8 := fun R x K => Acu N k x.1.2.1 x.1.2.2.1 x.1.2.2.2.1 x.1.2.2.2.2.1 x.2.1.1 x.2.1.2.1 x.2.1.2.2.1 x.2.1.2.2.2.1 x.2.1.2.2.2.2.1 x.2.1.2.2.2.2.2.1 (fun y0 => K .ret (Aab Ase ((y0, ()), (())))) (fun y0 y1 y2 y3 y4 y5 y6 y7 y8 => K (.exit 0) (Aab Asf (((), y0, y1, y2, ()), ((y3, y4, y5, y6, y7, y8, ()), ()))))
def A43 (N k : Nat) : Aap Ag8 := Ara @Acu N k
def A9v : Aac := ⟨A3l, []⟩
def Awk : Aac := ⟨Ah0, []⟩
abbrev B47 (R : Type) := (List UInt8)->d3->d2->d1->Int->Int->(Bool->Option R)->Option R
abbrev Apx := {R : Type} → Nat → B47 R
def A9w (Acu : Ans) : Apx := fun {R} N b c d e f g a => Acu N N 0 0 0 0 b c d e f g (fun h => a h) fun i j l o p q r m n => if ((l == 0) = true) then (if ((i == m) = true) then (a (j == n)) else a false) else a false
def Af9 : Apx := @A9w @Acu
def Cla (N : Nat) : Ab4 A9v [Awk] := fun R x C => Af9 N x.1.1.1 x.1.1.2.1 x.1.1.2.2.1 x.1.1.2.2.2.1 x.1.1.2.2.2.2.1 x.1.1.2.2.2.2.2.1 (fun y0 => C.1 ((y0, ()), (())))
def A9x (Af9 : Apx) (N : Nat) : Go.AX.Aaj := Ac8 [true] [] false 1 0 A9v [Awk] (fun R x C => Af9 N x.1.1.1 x.1.1.2.1 x.1.1.2.2.1 x.1.1.2.2.2.1 x.1.1.2.2.2.2.1 x.1.1.2.2.2.2.2.1 (fun y0 => C.1 ((y0, ()), (()))))
def Blu (N : Nat) : Go.AX.Aaj := A9x @Af9 N
def Clb (N : Nat) : List (Nat × Ac1) := [(44, Aaa Aib (Bdw N)), (20, Aaa Aic (Bdy N)), (7, Aaa Ag8 (A43 N N))]
def B48 (N : Nat) : List (Nat × Go.AX.Aaj) := [(81, A6j N)]
def Adk : Code := Tryz.f54.body.getD .skip
def Afx : Aac := ⟨[wq2, B88, B89, A8q], Bkq⟩
def Arb : Aac := ⟨[wq2, B88, B89], Bkq⟩
def Bdz : Acy := .cons (.exit 0) Arb (.nil)
abbrev A2h (R : Type) := Int->(List UInt8)->d3->d2->d1->Int->Int->d0->d0->d0->d0->((List UInt8)->d3->d2->d1->Int->Int->d0->d0->d0->d0->Option R)->Option R
abbrev Bd0 (R : Type) := Int->(List UInt8)->d3->d2->d1->Int->Int->d0->d0->d0->d0->Option R
abbrev Ak2 := {R : Type} → Nat → Nat → A2h R
def At8 {R : Type} (N : Nat) (rc : Bd0 R) : A2h R := fun a d e f g h b i j c l m => if ((decide (a ≤ b)) = true) then (if (0 ≤ a ∧ a < len c) then (rc (wi (a + 1)) d e f g h b i j (c.set a.toNat (-1)) l) else none) else m d e f g h b i j c l
def Ab0 {R : Type} (N : Nat) : Nat → A2h R
 | 0 => fun _ _ _ _ _ _ _ _ _ _ _ _ => none
 | k + 1 => fun a b c d e f g h i j l m => At8 N (fun a b c d e f g h i j l => Ab0 N k a b c d e f g h i j l m) a b c d e f g h i j l m
def Amu (Ab0 : Ak2) (N k : Nat) : Aap Afx := fun R x K => Ab0 N k x.1.2.2.2.1 x.2.1.1 x.2.1.2.1 x.2.1.2.2.1 x.2.1.2.2.2.1 x.2.1.2.2.2.2.1 x.2.1.2.2.2.2.2.1 x.2.2.2.2.1 x.2.2.2.2.2.1 x.2.2.2.2.2.2.1 x.2.2.2.2.2.2.2.1 (fun y0 y1 y2 y3 y4 y5 y6 y7 y8 y9 => K (.exit 0) (Aab Arb (((), (), (), ()), ((y0, y1, y2, y3, y4, y5, ()), ((), (), ()), ((), (), ()), y6, y7, y8, y9, ()))))
def A2i (N k : Nat) : Aap Afx := Amu @Ab0 N k
def Agy : Aac := ⟨Cd7, Bkq⟩
def Avl : Aac := ⟨Cic, Cd4⟩
def Avm : Aac := ⟨Cd7, Bkq⟩
def Bay : Acy := .cons .ret Avl (.cons .normal Avm (.nil))
abbrev Bqf (R : Type) := Int->Int->(List UInt8)->d3->d2->d1->Int->Int->d0->d0->d0->d0->(Bool->d0->d0->Option R)->(Int->Int->(List UInt8)->d3->d2->d1->Int->Int->d0->d0->d0->d0->Option R)->Option R
abbrev Ai4 := {R : Type} → Nat → Bqf R
def Ab3 : Ai4 := fun {R} N e a g h b i j l m n c f p o => if (0 ≤ a ∧ a < len f) then (if (0 ≤ a ∧ a < len b) then (if (((b.getD a.toNat (0, (0, 0))).1 == 19) = true) then (if (0 ≤ a ∧ a < len b) then (let d := (b.getD a.toNat (0, (0, 0))).2.1; if (0 ≤ d ∧ d < len c) then (if ((decide ((c.getD d.toNat 0) ≥ 0)) = true) then (p false c (f.set a.toNat e)) else if (0 ≤ a ∧ a < len b) then (if (0 ≤ d ∧ d < len c) then (o e a g h b i j l m n (c.set d.toNat a) (f.set a.toNat e)) else none) else none) else none) else none) else o e a g h b i j l m n c (f.set a.toNat e)) else none) else none
def Alx (Ab3 : Ai4) (N : Nat) : Aap Agy := fun R x K => Ab3 N x.1.2.2.2.1 x.1.2.2.2.2.1 x.2.1.1 x.2.1.2.1 x.2.1.2.2.1 x.2.1.2.2.2.1 x.2.1.2.2.2.2.1 x.2.1.2.2.2.2.2.1 x.2.2.2.2.1 x.2.2.2.2.2.1 x.2.2.2.2.2.2.1 x.2.2.2.2.2.2.2.1 (fun y0 y1 y2 => K .ret (Aab Avl (((), y0, ()), (((), (), ()), y1, y2, ())))) (fun y0 y1 y2 y3 y4 y5 y6 y7 y8 y9 y10 y11 => K .normal (Aab Avm (((), (), (), y0, y1, ()), ((y2, y3, y4, y5, y6, y7, ()), ((), (), ()), ((), (), ()), y8, y9, y10, y11, ()))))
def Baz (N : Nat) : Aap Agy := Alx @Ab3 N
def Ae7 : Aac := ⟨Cd7, Bkq⟩
def Apl : Aac := ⟨Cic, Cd4⟩
def Apm : Aac := ⟨[wq2, B88, B89], Bkq⟩
def Ba0 : Acy := .cons .ret Apl (.cons (.exit 2) Apm (.nil))
abbrev Azv (R : Type) := Int->Int->(List UInt8)->d3->d2->d1->Int->Int->d0->d0->d0->d0->(Bool->d0->d0->Option R)->((List UInt8)->d3->d2->d1->Int->Int->d0->d0->d0->d0->Option R)->Option R
abbrev Ba1 (R : Type) := Int->Int->(List UInt8)->d3->d2->d1->Int->Int->d0->d0->d0->d0->Option R
abbrev Akl := {R : Type} → Nat → Nat → Azv R
def Azw (Ab3 : Ai4) {R : Type} (N : Nat) (rc : Ba1 R) : Azv R := fun m a c d b e f g h i j l n o => if ((decide (a < (len b))) = true) then (if (0 ≤ a ∧ a < len b) then (if (((b.getD a.toNat (0, (0, 0))).1 == 24) = true) then (Ab3 N (wi (m + 1)) a c d b e f g h i j l (fun p q r => n p q r) fun s t u v w x y z A B C D => rc s (wi (t + 1)) u v w x y z A B C D) else Ab3 N m a c d b e f g h i j l (fun E F G => n E F G) fun H I J L M O P Q S T U V => rc H (wi (I + 1)) J L M O P Q S T U V) else none) else o c d b e f g h i j l
def Abk {R : Type} (N : Nat) : Nat → Azv R
 | 0 => fun _ _ _ _ _ _ _ _ _ _ _ _ _ _ => none
 | k + 1 => fun a b c d e f g h i j l m n o => Azw @Ab3 N (fun a b c d e f g h i j l m => Abk N k a b c d e f g h i j l m n o) a b c d e f g h i j l m n o
def Aly (Abk : Akl) (N k : Nat) : Aap Ae7 := fun R x K => Abk N k x.1.2.2.2.1 x.1.2.2.2.2.1 x.2.1.1 x.2.1.2.1 x.2.1.2.2.1 x.2.1.2.2.2.1 x.2.1.2.2.2.2.1 x.2.1.2.2.2.2.2.1 x.2.2.2.2.1 x.2.2.2.2.2.1 x.2.2.2.2.2.2.1 x.2.2.2.2.2.2.2.1 (fun y0 y1 y2 => K .ret (Aab Apl (((), y0, ()), (((), (), ()), y1, y2, ())))) (fun y0 y1 y2 y3 y4 y5 y6 y7 y8 y9 => K (.exit 2) (Aab Apm (((), (), (), ()), ((y0, y1, y2, y3, y4, y5, ()), ((), (), ()), ((), (), ()), y6, y7, y8, y9, ()))))
def Azx (N k : Nat) : Aap Ae7 := Aly @Abk N k
def Au0 : Code := Tryz.f82.body.getD .skip
def Ak3 : Aac := ⟨[wq2, Azo, B9b], A8s⟩
def Ax3 : Aac := ⟨A8r, []⟩
def Ax4 : Aac := ⟨[], []⟩
def Bd1 : Acy := .cons .ret Ax3 (.cons .normal Ax4 (.nil))
abbrev Bti (R : Type) := Int->Bool->Int->Int->Int->(Int->Option R)->(Option R)->Option R
abbrev Ao9 := {R : Type} → Nat → Bti R
def Adx : Ao9 := fun {R} N b c g d e a f => if (c = true) then (a d) else if ((b == 30) = true) then (a e) else f
def A2j (Adx : Ao9) (N : Nat) : Aap Ak3 := fun R x K => Adx N x.1.2.1 x.1.2.2.1 x.2.1.1 x.2.1.2.1 x.2.1.2.2.1 (fun y0 => K .ret (Aab Ax3 ((y0, ()), (())))) (K .normal (Aab Ax4 ((()), (()))))
def Bd2 (N : Nat) : Aap Ak3 := A2j @Adx N
def A9y : Aac := ⟨Cd2, []⟩
def Awl : Aac := ⟨Aw9, []⟩
abbrev B49 (R : Type) := Int->Int->Int->(Int->Option R)->Option R
abbrev Ahq := {R : Type} → Nat → B49 R
def A9z (Adx : Ao9) : Ahq := fun {R} N a c d b => if ((a == 20) = true) then (Adx N a (a == 20) a c d (fun e => b e) (b 0)) else if ((a == 21) = true) then (Adx N a (a == 21) a c d (fun f => b f) (b 0)) else if ((a == 22) = true) then (Adx N a (a == 22) a c d (fun g => b g) (b 0)) else if ((a == 27) = true) then (Adx N a (a == 27) a c d (fun h => b h) (b 0)) else Adx N a (a == 29) a c d (fun i => b i) (b 0)
def Aa6 : Ahq := @A9z @Adx
def Clc (N : Nat) : Ab4 A9y [Awl] := fun R x C => Aa6 N x.1.1.1 x.1.1.2.1 x.1.1.2.2.1 (fun y0 => C.1 ((y0, ()), (())))
def Al4 (Aa6 : Ahq) (N : Nat) : Go.AX.Aaj := Ac8 [true] [] false 1 0 A9y [Awl] (fun R x C => Aa6 N x.1.1.1 x.1.1.2.1 x.1.1.2.2.1 (fun y0 => C.1 ((y0, ()), (()))))
def A90 (N : Nat) : Go.AX.Aaj := Al4 @Aa6 N
def Cld (N : Nat) : List (Nat × Ac1) := [(14, Aaa Ak3 (Bd2 N))]
def B5a (N : Nat) : List (Nat × Go.AX.Aaj) := []
def Ae8 : Aac := ⟨[wq2, B88, B89, Cdr], Bkq⟩
def Apn : Aac := ⟨Cic, Cd4⟩
def Apo : Aac := ⟨[wq9, (4, .one (.ptr 33))], [(32, .cells 101 [(.slf 34), (.slf 35)]), (33, .cells 101 [(.slf 36), (.slf 37)]), Cdq, Cmi, Cmj, Cmk]⟩
def Ba2 : Acy := .cons .ret Apn (.cons (.exit 4) Apo (.nil))
abbrev Azy (R : Type) := Int->(List UInt8)->d3->d2->d1->Int->Int->d0->d0->d0->d0->(Bool->d0->d0->Option R)->(d0->d0->d0->d0->Option R)->Option R
abbrev Ba3 (R : Type) := Int->(List UInt8)->d3->d2->d1->Int->Int->d0->d0->d0->d0->Option R
abbrev Akm := {R : Type} → Nat → Nat → Azy R
def Azz (Aa6 : Ahq) {R : Type} (N : Nat) (rc : Ba3 R) : Azy R := fun a i j d l m n g h c b o p => if ((decide (a < (len d))) = true) then (if (0 ≤ a ∧ a < len d) then (Aa6 N ((d.getD a.toNat (0, (0, 0))).1) ((d.getD a.toNat (0, (0, 0))).2.1) ((d.getD a.toNat (0, (0, 0))).2.2) fun e => if ((decide (e > 0)) = true) then (if (0 ≤ e ∧ e < len c) then (let f := (c.getD e.toNat 0); if ((decide (f < 0)) = true) then (o false c b) else if (0 ≤ e ∧ e < len c) then (if (0 ≤ f ∧ f < len b) then (if (0 ≤ a ∧ a < len b) then (if (((b.getD f.toNat 0) != (b.getD a.toNat 0)) = true) then (o false c b) else rc (wi (a + 1)) i j d l m n g h c b) else none) else none) else none) else none) else rc (wi (a + 1)) i j d l m n g h c b) else none) else p g h c b
def Abd {R : Type} (N : Nat) : Nat → Azy R
 | 0 => fun _ _ _ _ _ _ _ _ _ _ _ _ _ => none
 | k + 1 => fun a b c d e f g h i j l m n => Azz @Aa6 N (fun a b c d e f g h i j l => Abd N k a b c d e f g h i j l m n) a b c d e f g h i j l m n
def Alz (Abd : Akm) (N k : Nat) : Aap Ae8 := fun R x K => Abd N k x.1.2.2.2.1 x.2.1.1 x.2.1.2.1 x.2.1.2.2.1 x.2.1.2.2.2.1 x.2.1.2.2.2.2.1 x.2.1.2.2.2.2.2.1 x.2.2.2.2.1 x.2.2.2.2.2.1 x.2.2.2.2.2.2.1 x.2.2.2.2.2.2.2.1 (fun y0 y1 y2 => K .ret (Aab Apn (((), y0, ()), (((), (), ()), y1, y2, ())))) (fun y0 y1 y2 y3 => K (.exit 4) (Aab Apo (((), (), ()), (((), (), ()), ((), (), ()), y0, y1, y2, y3, ()))))
def Az0 (N k : Nat) : Aap Ae8 := Alz @Abd N k
def A6k : Aac := ⟨A3l, []⟩
def At9 : Aac := ⟨[(0, .agg [(.slf 32), (.slf 33)]), (1, .one (.val .bool))], B9f⟩
abbrev B00 (R : Type) := (List UInt8)->d3->d2->d1->Int->Int->(Bool->d0->d0->Option R)->Option R
abbrev Aou := {R : Type} → Nat → B00 R
def A6l (Ab0 : Ak2) (Abk : Akl) (Abd : Akm) : Aou := fun {R} N e f a g h d c => let b := (wi (d + 1)); if ((0 ≤ b) ∧ ((b ≤ b) ∧ ((b * 8) ≤ 70368744177664))) then (if ((0 ≤ (len a)) ∧ (((len a) ≤ (len a)) ∧ (((len a) * 8) ≤ 70368744177664))) then (Ab0 N N 0 e f a g h d ([] : List Int) ([] : List Int) (List.replicate (Int.toNat b) 0) (List.replicate (Int.toNat (len a)) 0) fun i j l m n o p q r s => Abk N N 0 0 i j l m n o p q r s (fun t u v => c t u v) fun w x y z A B C D E F => Abd N N 0 w x y z A B C D E F (fun G H I => c G H I) fun M O J L => c true J L) else none) else none
def Afi : Aou := @A6l @Ab0 @Abk @Abd
def Ckd (N : Nat) : Ab4 A6k [At9] := fun R x C => Afi N x.1.1.1 x.1.1.2.1 x.1.1.2.2.1 x.1.1.2.2.2.1 x.1.1.2.2.2.2.1 x.1.1.2.2.2.2.2.1 (fun y0 y1 y2 => C.1 ((((), (), ()), y0, ()), (y1, y2, ())))
def A6m (Afi : Aou) (N : Nat) : Go.AX.Aaj := Ac8 [true] [] false 1 0 A6k [At9] (fun R x C => Afi N x.1.1.1 x.1.1.2.1 x.1.1.2.2.1 x.1.1.2.2.2.1 x.1.1.2.2.2.2.1 x.1.1.2.2.2.2.2.1 (fun y0 y1 y2 => C.1 ((((), (), ()), y0, ()), (y1, y2, ()))))
def Bje (N : Nat) : Go.AX.Aaj := A6m @Afi N
def Cke (N : Nat) : List (Nat × Ac1) := [(7, Aaa Afx (A2i N N)), (24, Aaa Agy (Baz N)), (17, Aaa Ae7 (Azx N N)), (37, Aaa Ae8 (Az0 N N))]
def B01 (N : Nat) : List (Nat × Go.AX.Aaj) := [(82, A90 N)]
def Apa : Code := Tryz.f55.body.getD .skip
def Aip : Code := Tryz.f83.body.getD .skip
def Aid : Aac := ⟨[Alk, wq9, A0z, (43, .one (.val .bool))], A8s⟩
def Ax5 : Aac := ⟨Cdv, []⟩
def Ax6 : Aac := ⟨Cdw, []⟩
def Bd3 : Acy := .cons .ret Ax5 (.cons .normal Ax6 (.nil))
abbrev Btj (R : Type) := Int->Int->Bool->Int->Int->Int->(Int->Option R)->(Int->Option R)->Option R
abbrev Ak4 := {R : Type} → Nat → Btj R
def Ac6 : Ak4 := fun {R} N b c d h e f a g => if (d = true) then (a (wi (e + 1))) else if ((c == 24) = true) then (a (wi (2 + f))) else g b
def Apb (Ac6 : Ak4) (N : Nat) : Aap Aid := fun R x K => Ac6 N x.1.1 x.1.2.2.1 x.1.2.2.2.1 x.2.1.1 x.2.1.2.1 x.2.1.2.2.1 (fun y0 => K .ret (Aab Ax5 ((y0, ()), (())))) (fun y0 => K .normal (Aab Ax6 ((y0, ()), (()))))
def Bd4 (N : Nat) : Aap Aid := Apb @Ac6 N
def Aie : Aac := ⟨[Alk, wq9, A0z, (18, .one (.val .bool))], A8s⟩
def Ax7 : Aac := ⟨Cdv, []⟩
def Ax8 : Aac := ⟨Cdw, []⟩
def Bd5 : Acy := .cons .ret Ax7 (.cons .normal Ax8 (.nil))
abbrev Btk (R : Type) := Int->Int->Bool->Int->Int->Int->(Int->Option R)->(Int->Option R)->Option R
abbrev Ajw := {R : Type} → Nat → Btk R
def A2k (Ac6 : Ak4) : Ajw := fun {R} N c a h e d f b g => if (h = true) then (b (wi (c - 1))) else if ((a == 13) = true) then (b (wi (c - 2))) else if ((a == 15) = true) then (b (wi (c - 3))) else if ((a == 18) = true) then (b d) else if ((a == 23) = true) then (Ac6 N c a (a == 23) e d f (fun i => b i) fun j => g j) else Ac6 N c a (a == 28) e d f (fun l => b l) fun m => g m
def Abl : Ajw := @A2k @Ac6
def Apc (Abl : Ajw) (N : Nat) : Aap Aie := fun R x K => Abl N x.1.1 x.1.2.2.1 x.1.2.2.2.1 x.2.1.1 x.2.1.2.1 x.2.1.2.2.1 (fun y0 => K .ret (Aab Ax7 ((y0, ()), (())))) (fun y0 => K .normal (Aab Ax8 ((y0, ()), (()))))
def Bd6 (N : Nat) : Aap Aie := Apc @Abl N
def Aif : Aac := ⟨[Alk, wq9, A0z, Bkp], A8s⟩
def Ax9 : Aac := ⟨Cdv, []⟩
def Aya : Aac := ⟨Cdw, []⟩
def Bd7 : Acy := .cons .ret Ax9 (.cons .normal Aya (.nil))
abbrev Btl (R : Type) := Int->Int->Bool->Int->Int->Int->(Int->Option R)->(Int->Option R)->Option R
abbrev Ajx := {R : Type} → Nat → Btl R
def A2l (Abl : Ajw) : Ajx := fun {R} N b a h d e f c g => if (h = true) then (c (wi (b + 1))) else if ((a == 3) = true) then (Abl N b a (a == 3) d e f (fun i => c i) fun j => g j) else if ((a == 6) = true) then (Abl N b a (a == 6) d e f (fun l => c l) fun m => g m) else if ((a == 9) = true) then (Abl N b a (a == 9) d e f (fun n => c n) fun o => g o) else if ((a == 16) = true) then (Abl N b a (a == 16) d e f (fun p => c p) fun q => g q) else if ((a == 14) = true) then (Abl N b a (a == 14) d e f (fun r => c r) fun s => g s) else if ((a == 21) = true) then (Abl N b a (a == 21) d e f (fun t => c t) fun u => g u) else if ((a == 22) = true) then (Abl N b a (a == 22) d e f (fun v => c v) fun w => g w) else if ((a == 29) = true) then (Abl N b a (a == 29) d e f (fun x => c x) fun y => g y) else if ((a == 25) = true) then (Abl N b a (a == 25) d e f (fun z => c z) fun A => g A) else Abl N b a (a == 27) d e f (fun B => c B) fun C => g C
def Ab1 : Ajx := @A2l @Abl
def Apd (Ab1 : Ajx) (N : Nat) : Aap Aif := fun R x K => Ab1 N x.1.1 x.1.2.2.1 x.1.2.2.2.1 x.2.1.1 x.2.1.2.1 x.2.1.2.2.1 (fun y0 => K .ret (Aab Ax9 ((y0, ()), (())))) (fun y0 => K .normal (Aab Aya ((y0, ()), (()))))
def Bd8 (N : Nat) : Aap Aif := Apd @Ab1 N
def A91 : Aac := ⟨[B0d, Alk], []⟩
def Awm : Aac := ⟨Aw9, []⟩
abbrev B5b (R : Type) := Int->Int->Int->Int->(Int->Option R)->Option R
abbrev Apy := {R : Type} → Nat → B5b R
def A92 (Ab1 : Ajx) : Apy := fun {R} N a c d e b => if ((a == 1) = true) then (Ab1 N e a (a == 1) a c d (fun f => b f) fun g => b g) else if ((a == 2) = true) then (Ab1 N e a (a == 2) a c d (fun h => b h) fun i => b i) else if ((a == 4) = true) then (Ab1 N e a (a == 4) a c d (fun j => b j) fun l => b l) else if ((a == 5) = true) then (Ab1 N e a (a == 5) a c d (fun m => b m) fun n => b n) else if ((a == 7) = true) then (Ab1 N e a (a == 7) a c d (fun o => b o) fun p => b p) else if ((a == 8) = true) then (Ab1 N e a (a == 8) a c d (fun q => b q) fun r => b r) else if ((a == 10) = true) then (Ab1 N e a (a == 10) a c d (fun s => b s) fun t => b t) else Ab1 N e a (a == 11) a c d (fun u => b u) fun v => b v
def Afp : Apy := @A92 @Ab1
def Cle (N : Nat) : Ab4 A91 [Awm] := fun R x C => Afp N x.1.1.1 x.1.1.2.1 x.1.1.2.2.1 x.1.2.1 (fun y0 => C.1 ((y0, ()), (())))
def A93 (Afp : Apy) (N : Nat) : Go.AX.Aaj := Ac8 [true, true] [] false 2 0 A91 [Awm] (fun R x C => Afp N x.1.1.1 x.1.1.2.1 x.1.1.2.2.1 x.1.2.1 (fun y0 => C.1 ((y0, ()), (()))))
def Blv (N : Nat) : Go.AX.Aaj := A93 @Afp N
def Clf (N : Nat) : List (Nat × Ac1) := [(60, Aaa Aid (Bd4 N)), (42, Aaa Aie (Bd6 N)), (20, Aaa Aif (Bd8 N))]
def B5c (N : Nat) : List (Nat × Go.AX.Aaj) := []
def Al5 : Code := Tryz.f84.body.getD .skip
def Ajy : Aac := ⟨[Azo, (16, .one (.val .bool))], []⟩
def Ayb : Aac := ⟨A8r, []⟩
def Ayc : Aac := ⟨[], []⟩
def Bd9 : Acy := .cons .ret Ayb (.cons .normal Ayc (.nil))
abbrev Btm (R : Type) := Int->Bool->(Int->Option R)->(Option R)->Option R
abbrev Amv := {R : Type} → Nat → Btm R
def Adl : Amv := fun {R} N b c a d => if (c = true) then (a 2) else if ((b == 15) = true) then (a 3) else d
def Aua (Adl : Amv) (N : Nat) : Aap Ajy := fun R x K => Adl N x.1.1 x.1.2.1 (fun y0 => K .ret (Aab Ayb ((y0, ()), (())))) (K .normal (Aab Ayc ((()), (()))))
def Bea (N : Nat) : Aap Ajy := Aua @Adl N
def Ajz : Aac := ⟨[Azo, B9b], []⟩
def Ayd : Aac := ⟨A8r, []⟩
def Aye : Aac := ⟨[], []⟩
def Beb : Acy := .cons .ret Ayd (.cons .normal Aye (.nil))
abbrev Btn (R : Type) := Int->Bool->(Int->Option R)->(Option R)->Option R
abbrev Ak5 := {R : Type} → Nat → Btn R
def A2m (Adl : Amv) : Ak5 := fun {R} N a d b c => if (d = true) then (b 1) else if ((a == 16) = true) then (Adl N a (a == 16) (fun e => b e) c) else if ((a == 14) = true) then (Adl N a (a == 14) (fun f => b f) c) else Adl N a (a == 13) (fun g => b g) c
def Ab6 : Ak5 := @A2m @Adl
def Aub (Ab6 : Ak5) (N : Nat) : Aap Ajz := fun R x K => Ab6 N x.1.1 x.1.2.1 (fun y0 => K .ret (Aab Ayd ((y0, ()), (())))) (K .normal (Aab Aye ((()), (()))))
def Bec (N : Nat) : Aap Ajz := Aub @Ab6 N
def A94 : Aac := ⟨Cd2, []⟩
def Awn : Aac := ⟨Aw9, []⟩
abbrev B5d (R : Type) := Int->Int->Int->(Int->Option R)->Option R
abbrev Apz := {R : Type} → Nat → B5d R
def A95 (Ab6 : Ak5) : Apz := fun {R} N a n o b => if ((a == 3) = true) then (Ab6 N a (a == 3) (fun c => b c) (b 0)) else if ((a == 6) = true) then (Ab6 N a (a == 6) (fun d => b d) (b 0)) else if ((a == 9) = true) then (Ab6 N a (a == 9) (fun e => b e) (b 0)) else if ((a == 12) = true) then (Ab6 N a (a == 12) (fun f => b f) (b 0)) else if ((a == 17) = true) then (Ab6 N a (a == 17) (fun g => b g) (b 0)) else if ((a == 21) = true) then (Ab6 N a (a == 21) (fun h => b h) (b 0)) else if ((a == 22) = true) then (Ab6 N a (a == 22) (fun i => b i) (b 0)) else if ((a == 29) = true) then (Ab6 N a (a == 29) (fun j => b j) (b 0)) else if ((a == 25) = true) then (Ab6 N a (a == 25) (fun l => b l) (b 0)) else Ab6 N a (a == 27) (fun m => b m) (b 0)
def Aew : Apz := @A95 @Ab6
def Clg (N : Nat) : Ab4 A94 [Awn] := fun R x C => Aew N x.1.1.1 x.1.1.2.1 x.1.1.2.2.1 (fun y0 => C.1 ((y0, ()), (())))
def A96 (Aew : Apz) (N : Nat) : Go.AX.Aaj := Ac8 [true] [] false 1 0 A94 [Awn] (fun R x C => Aew N x.1.1.1 x.1.1.2.1 x.1.1.2.2.1 (fun y0 => C.1 ((y0, ()), (()))))
def Blw (N : Nat) : Go.AX.Aaj := A96 @Aew N
def Clh (N : Nat) : List (Nat × Ac1) := [(32, Aaa Ajy (Bea N)), (24, Aaa Ajz (Bec N))]
def B5e (N : Nat) : List (Nat × Go.AX.Aaj) := []
def Au1 : Code := Tryz.f85.body.getD .skip
def Alw : Aac := ⟨[Alk, wq9, A0z, Bkp], A8s⟩
def Az1 : Aac := ⟨Aw8, []⟩
def Az2 : Aac := ⟨[], []⟩
def Bgi : Acy := .cons .ret Az1 (.cons .normal Az2 (.nil))
abbrev Bxw (R : Type) := Int->Int->Bool->Int->Int->Int->(Bool->Option R)->(Option R)->Option R
abbrev Ant := {R : Type} → Nat → Bxw R
def A44 (Aam : Ad0) : Ant := fun {R} N c d e i a j b f => if (e = true) then (Aam N a 2 (wi (c - 1)) fun g => b g) else if ((d == 4) = true) then (b (decide (a ≥ 2))) else if ((d == 23) = true) then (Aam N a 2 (wi (c - 3)) fun h => b h) else if ((d == 18) = true) then (b (decide (a ≤ (wi ((wi (c + 2000)) + 2))))) else f
def Afy : Ant := @A44 @Aam
def A45 (Afy : Ant) (N : Nat) : Aap Alw := fun R x K => Afy N x.1.1 x.1.2.2.1 x.1.2.2.2.1 x.2.1.1 x.2.1.2.1 x.2.1.2.2.1 (fun y0 => K .ret (Aab Az1 ((y0, ()), (())))) (K .normal (Aab Az2 ((()), (()))))
def Bgj (N : Nat) : Aap Alw := A45 @Afy N
def A97 : Aac := ⟨[B0d, Alk], []⟩
def Awo : Aac := ⟨Ah0, []⟩
abbrev B5f (R : Type) := Int->Int->Int->Int->(Bool->Option R)->Option R
abbrev Ap0 := {R : Type} → Nat → B5f R
def A98 (Afy : Ant) : Ap0 := fun {R} N a c d e b => if ((a == 2) = true) then (Afy N e a (a == 2) a c d (fun f => b f) (b true)) else Afy N e a (a == 3) a c d (fun g => b g) (b true)
def Aex : Ap0 := @A98 @Afy
def Cli (N : Nat) : Ab4 A97 [Awo] := fun R x C => Aex N x.1.1.1 x.1.1.2.1 x.1.1.2.2.1 x.1.2.1 (fun y0 => C.1 ((y0, ()), (())))
def A99 (Aex : Ap0) (N : Nat) : Go.AX.Aaj := Ac8 [true, true] [] false 2 0 A97 [Awo] (fun R x C => Aex N x.1.1.1 x.1.1.2.1 x.1.1.2.2.1 x.1.2.1 (fun y0 => C.1 ((y0, ()), (()))))
def Blx (N : Nat) : Go.AX.Aaj := A99 @Aex N
def Clj (N : Nat) : List (Nat × Ac1) := [(8, Aaa Alw (Bgj N))]
def B5g (N : Nat) : List (Nat × Go.AX.Aaj) := [(80, A4w N)]
def An9 : Code := Tryz.f86.body.getD .skip
def Ajc : Aac := ⟨B0c, []⟩
def Asg : Aac := ⟨B0c, []⟩
def Bgk : Acy := .cons (.exit 0) Asg (.nil)
abbrev A46 (R : Type) := d2->Int->(d2->Int->Option R)->Option R
abbrev Bgl (R : Type) := d2->Int->Option R
abbrev Awp := {R : Type} → Nat → Nat → A46 R
def A47 {R : Type} (N : Nat) (rc : Bgl R) : A46 R := fun b a c => if ((decide (a < (len b))) = true) then (if (0 ≤ a ∧ a < len b) then (if (((b.getD a.toNat (0, (0, 0))).1 == 19) = true) then (rc b (wi (a + 1))) else c b a) else none) else c b a
def Aet {R : Type} (N : Nat) : Nat → A46 R
 | 0 => fun _ _ _ => none
 | k + 1 => fun a b c => A47 N (fun a b => Aet N k a b c) a b c
def A48 (Aet : Awp) (N k : Nat) : Aap Ajc := fun R x K => Aet N k x.1.1 x.1.2.1 (fun y0 y1 => K (.exit 0) (Aab Asg ((y0, y1, ()), (()))))
def A49 (N k : Nat) : Aap Ajc := A48 @Aet N k
def Baa : Aac := ⟨B0c, []⟩
def Awq : Aac := ⟨Ah0, []⟩
abbrev B5h (R : Type) := d2->Int->(Bool->Option R)->Option R
abbrev Ap1 := {R : Type} → Nat → B5h R
def Bab (Aet : Awp) : Ap1 := fun {R} N d e c => Aet N N d e fun b a => if ((decide (a < (len b))) = true) then (if (0 ≤ a ∧ a < len b) then (c ((b.getD a.toNat (0, (0, 0))).1 == 28)) else none) else c false
def Aea : Ap1 := @Bab @Aet
def Clk (N : Nat) : Ab4 Baa [Awq] := fun R x C => Aea N x.1.1 x.1.2.1 (fun y0 => C.1 ((y0, ()), (())))
def Bac (Aea : Ap1) (N : Nat) : Go.AX.Aaj := Ac8 [true, true] [] false 2 0 Baa [Awq] (fun R x C => Aea N x.1.1 x.1.2.1 (fun y0 => C.1 ((y0, ()), (()))))
def Bly (N : Nat) : Go.AX.Aaj := Bac @Aea N
def Cll (N : Nat) : List (Nat × Ac1) := [(3, Aaa Ajc (A49 N N))]
def B5i (N : Nat) : List (Nat × Go.AX.Aaj) := []
def Akh : Aac := ⟨[wq9, Bhc, A8q, Ch2, Boa], [A3m, (33, .cells 101 [B0b, B0b])]⟩
def Auc : Aac := ⟨Aw8, []⟩
def Aud : Aac := ⟨[], []⟩
def Bjf : Acy := .cons .ret Auc (.cons (.exit 0) Aud (.nil))
abbrev A6n (R : Type) := Int->Bool->Int->(List UInt8)->d3->d2->d1->Int->Int->d0->d0->(Bool->Option R)->(Option R)->Option R
abbrev Amw (R : Type) := Int->Bool->Int->(List UInt8)->d3->d2->d1->Int->Int->d0->d0->Option R
abbrev Azh := {R : Type} → Nat → Nat → A6n R
end
end Q

/- Part D1 of the proof. -/
import Derived.Test.YtgmoccpcginieaaX7
import Derived.Test.YtgmoccpcginieaaProg
import Derived.KernelRfl
open Go Go.AX Go.Proofs
namespace Q
noncomputable section
set_option maxRecDepth 100000
set_option linter.unusedVariables false
abbrev z0 : Ty := .pair (.int .i64) (.int .i64)
abbrev z1 : Ty := .list z0
abbrev z2 : Ty := .pair (.int .i64) z0
abbrev z3 : Ty := .list (.pair .str (.pair .bool (.list (.int .i64))))
abbrev z4 : Ty := .list z2
abbrev z5 : Ty := .pair z2 z2
abbrev z6 : Ty := .list z5
abbrev d0 : Type := List (Int)
abbrev d1 : Type := List ((Int × Int))
abbrev d2 : Type := List ((Int) × (Int))
abbrev d3 : Type := List ((Int) × (Bool))
abbrev d4 : Type := List ((Int × (Int × Int)))
abbrev d5 : Type := List ((List UInt8 × (Bool × d0)))
abbrev d6 : Type := List (((Int × (Int × Int)) × (Int × (Int × Int))))
def Dcr : List Nat := [31, 24, 3, 4, 0, 41, 34, 9, 30, 73, 32, 75, 22, 5, 25, 39, 87, 76, 85, 77, 111, 124, 112, 26, 104, 106, 89, 36, 66, 68, 63, 82, 132, 133, 136, 83, 144, 145, 147, 153, 155, 149, 93, 64, 119, 143, 57, 59, 120, 122, 102, 51]
def tt : TT := [(31, (.mk (.slice 24) 1 24 (.some [(.a .nilsl)]) false)), (24, (.mk (.struct [(0, (1, 3)), (1, (1, 3)), (2, (1, 3))]) 3 24 (.some [(.a (.val (.int .i64) ((0 : Int) : Int))), (.a (.val (.int .i64) ((0 : Int) : Int))), (.a (.val (.int .i64) ((0 : Int) : Int)))]) true)), (3, (.mk (.int .i64) 1 8 (.some [(.a (.val (.int .i64) ((0 : Int) : Int)))]) false)), (4, (.mk .bool 1 1 (.some [(.a (.val .bool (false : Bool)))]) false)), (0, (.mk .other 1 0 (.some [(.a .undef)]) false)), (41, (.mk (.slice 3) 1 24 (.some [(.a .nilsl)]) false)), (34, (.mk (.struct [(0, (1, 9)), (1, (1, 30)), (2, (1, 31)), (3, (1, 32)), (4, (1, 3)), (5, (1, 3))]) 6 104 (.some [(.a (.val .str (([] : List UInt8) : List UInt8))), (.a .nilsl), (.a .nilsl), (.a .nilsl), (.a (.val (.int .i64) ((0 : Int) : Int))), (.a (.val (.int .i64) ((0 : Int) : Int)))]) true)), (9, (.mk .str 1 16 (.some [(.a (.val .str (([] : List UInt8) : List UInt8)))]) false)), (30, (.mk (.slice 73) 1 24 (.some [(.a .nilsl)]) false)), (73, (.mk (.struct [(0, (1, 9)), (1, (1, 4)), (2, (1, 41))]) 3 48 (.some [(.a (.val .str (([] : List UInt8) : List UInt8))), (.a (.val .bool (false : Bool))), (.a .nilsl)]) true)), (32, (.mk (.slice 75) 1 24 (.some [(.a .nilsl)]) false)), (75, (.mk (.struct [(0, (1, 3)), (1, (1, 3))]) 2 16 (.some [(.a (.val (.int .i64) ((0 : Int) : Int))), (.a (.val (.int .i64) ((0 : Int) : Int)))]) true)), (22, (.mk (.slice 5) 1 24 (.some [(.a .nilsl)]) false)), (5, (.mk (.int .u8) 1 1 (.some [(.a (.val (.int .u8) ((0 : Int) : Int)))]) false)), (25, (.mk (.int .i64) 1 8 (.some [(.a (.val (.int .i64) ((0 : Int) : Int)))]) false)), (39, (.mk .other 1 0 (.some [(.a .undef)]) false)), (87, (.mk .other 1 0 (.some [(.a .undef)]) false)), (76, (.mk (.ptr 85) 1 8 (.some [(.a .nilptr)]) false)), (85, (.mk (.struct [(0, (1, 41)), (1, (1, 41)), (2, (1, 41))]) 3 72 (.some [(.a .nilsl), (.a .nilsl), (.a .nilsl)]) true)), (77, (.mk .other 1 0 (.some [(.a .undef)]) false)), (111, (.mk (.struct [(0, (1, 41)), (1, (1, 41))]) 2 48 (.some [(.a .nilsl), (.a .nilsl)]) true)), (124, (.mk .other 1 0 (.some [(.a .undef)]) false)), (112, (.mk .other 1 0 (.some [(.a .undef)]) false)), (26, (.mk .other 1 0 (.some [(.a .undef)]) false)), (104, (.mk (.ptr 106) 1 8 (.some [(.a .nilptr)]) false)), (106, (.mk (.struct [(0, (1, 22)), (1, (1, 3)), (2, (1, 4))]) 3 40 (.some [(.a .nilsl), (.a (.val (.int .i64) ((0 : Int) : Int))), (.a (.val .bool (false : Bool)))]) true)), (89, (.mk .other 1 0 (.some [(.a .undef)]) false)), (36, (.mk .other 1 0 (.some [(.a .undef)]) false)), (66, (.mk (.ptr 68) 1 8 (.some [(.a .nilptr)]) false)), (68, (.mk (.struct [(0, (1, 22))]) 1 24 (.some [(.a .nilsl)]) true)), (63, (.mk (.struct [(0, (1, 41)), (1, (1, 41)), (2, (1, 3))]) 3 56 (.some [(.a .nilsl), (.a .nilsl), (.a (.val (.int .i64) ((0 : Int) : Int)))]) true)), (82, (.mk (.map 3 3) 1 8 (.some [(.a .nilmap)]) false)), (132, (.mk (.struct [(0, (1, 9)), (1, (1, 3)), (2, (1, 3)), (3, (1, 3))]) 4 40 (.some [(.a (.val .str (([] : List UInt8) : List UInt8))), (.a (.val (.int .i64) ((0 : Int) : Int))), (.a (.val (.int .i64) ((0 : Int) : Int))), (.a (.val (.int .i64) ((0 : Int) : Int)))]) true)), (133, (.mk (.arr 31 132) 124 1240 (.some [(.a (.val .str (([] : List UInt8) : List UInt8))), (.a (.val (.int .i64) ((0 : Int) : Int))), (.a (.val (.int .i64) ((0 : Int) : Int))), (.a (.val (.int .i64) ((0 : Int) : Int))), (.a (.val .str (([] : List UInt8) : List UInt8))), (.a (.val (.int .i64) ((0 : Int) : Int))), (.a (.val (.int .i64) ((0 : Int) : Int))), (.a (.val (.int .i64) ((0 : Int) : Int))), (.a (.val .str (([] : List UInt8) : List UInt8))), (.a (.val (.int .i64) ((0 : Int) : Int))), (.a (.val (.int .i64) ((0 : Int) : Int))), (.a (.val (.int .i64) ((0 : Int) : Int))), (.a (.val .str (([] : List UInt8) : List UInt8))), (.a (.val (.int .i64) ((0 : Int) : Int))), (.a (.val (.int .i64) ((0 : Int) : Int))), (.a (.val (.int .i64) ((0 : Int) : Int))), (.a (.val .str (([] : List UInt8) : List UInt8))), (.a (.val (.int .i64) ((0 : Int) : Int))), (.a (.val (.int .i64) ((0 : Int) : Int))), (.a (.val (.int .i64) ((0 : Int) : Int))), (.a (.val .str (([] : List UInt8) : List UInt8))), (.a (.val (.int .i64) ((0 : Int) : Int))), (.a (.val (.int .i64) ((0 : Int) : Int))), (.a (.val (.int .i64) ((0 : Int) : Int))), (.a (.val .str (([] : List UInt8) : List UInt8))), (.a (.val (.int .i64) ((0 : Int) : Int))), (.a (.val (.int .i64) ((0 : Int) : Int))), (.a (.val (.int .i64) ((0 : Int) : Int))), (.a (.val .str (([] : List UInt8) : List UInt8))), (.a (.val (.int .i64) ((0 : Int) : Int))), (.a (.val (.int .i64) ((0 : Int) : Int))), (.a (.val (.int .i64) ((0 : Int) : Int))), (.a (.val .str (([] : List UInt8) : List UInt8))), (.a (.val (.int .i64) ((0 : Int) : Int))), (.a (.val (.int .i64) ((0 : Int) : Int))), (.a (.val (.int .i64) ((0 : Int) : Int))), (.a (.val .str (([] : List UInt8) : List UInt8))), (.a (.val (.int .i64) ((0 : Int) : Int))), (.a (.val (.int .i64) ((0 : Int) : Int))), (.a (.val (.int .i64) ((0 : Int) : Int))), (.a (.val .str (([] : List UInt8) : List UInt8))), (.a (.val (.int .i64) ((0 : Int) : Int))), (.a (.val (.int .i64) ((0 : Int) : Int))), (.a (.val (.int .i64) ((0 : Int) : Int))), (.a (.val .str (([] : List UInt8) : List UInt8))), (.a (.val (.int .i64) ((0 : Int) : Int))), (.a (.val (.int .i64) ((0 : Int) : Int))), (.a (.val (.int .i64) ((0 : Int) : Int))), (.a (.val .str (([] : List UInt8) : List UInt8))), (.a (.val (.int .i64) ((0 : Int) : Int))), (.a (.val (.int .i64) ((0 : Int) : Int))), (.a (.val (.int .i64) ((0 : Int) : Int))), (.a (.val .str (([] : List UInt8) : List UInt8))), (.a (.val (.int .i64) ((0 : Int) : Int))), (.a (.val (.int .i64) ((0 : Int) : Int))), (.a (.val (.int .i64) ((0 : Int) : Int))), (.a (.val .str (([] : List UInt8) : List UInt8))), (.a (.val (.int .i64) ((0 : Int) : Int))), (.a (.val (.int .i64) ((0 : Int) : Int))), (.a (.val (.int .i64) ((0 : Int) : Int))), (.a (.val .str (([] : List UInt8) : List UInt8))), (.a (.val (.int .i64) ((0 : Int) : Int))), (.a (.val (.int .i64) ((0 : Int) : Int))), (.a (.val (.int .i64) ((0 : Int) : Int))), (.a (.val .str (([] : List UInt8) : List UInt8))), (.a (.val (.int .i64) ((0 : Int) : Int))), (.a (.val (.int .i64) ((0 : Int) : Int))), (.a (.val (.int .i64) ((0 : Int) : Int))), (.a (.val .str (([] : List UInt8) : List UInt8))), (.a (.val (.int .i64) ((0 : Int) : Int))), (.a (.val (.int .i64) ((0 : Int) : Int))), (.a (.val (.int .i64) ((0 : Int) : Int))), (.a (.val .str (([] : List UInt8) : List UInt8))), (.a (.val (.int .i64) ((0 : Int) : Int))), (.a (.val (.int .i64) ((0 : Int) : Int))), (.a (.val (.int .i64) ((0 : Int) : Int))), (.a (.val .str (([] : List UInt8) : List UInt8))), (.a (.val (.int .i64) ((0 : Int) : Int))), (.a (.val (.int .i64) ((0 : Int) : Int))), (.a (.val (.int .i64) ((0 : Int) : Int))), (.a (.val .str (([] : List UInt8) : List UInt8))), (.a (.val (.int .i64) ((0 : Int) : Int))), (.a (.val (.int .i64) ((0 : Int) : Int))), (.a (.val (.int .i64) ((0 : Int) : Int))), (.a (.val .str (([] : List UInt8) : List UInt8))), (.a (.val (.int .i64) ((0 : Int) : Int))), (.a (.val (.int .i64) ((0 : Int) : Int))), (.a (.val (.int .i64) ((0 : Int) : Int))), (.a (.val .str (([] : List UInt8) : List UInt8))), (.a (.val (.int .i64) ((0 : Int) : Int))), (.a (.val (.int .i64) ((0 : Int) : Int))), (.a (.val (.int .i64) ((0 : Int) : Int))), (.a (.val .str (([] : List UInt8) : List UInt8))), (.a (.val (.int .i64) ((0 : Int) : Int))), (.a (.val (.int .i64) ((0 : Int) : Int))), (.a (.val (.int .i64) ((0 : Int) : Int))), (.a (.val .str (([] : List UInt8) : List UInt8))), (.a (.val (.int .i64) ((0 : Int) : Int))), (.a (.val (.int .i64) ((0 : Int) : Int))), (.a (.val (.int .i64) ((0 : Int) : Int))), (.a (.val .str (([] : List UInt8) : List UInt8))), (.a (.val (.int .i64) ((0 : Int) : Int))), (.a (.val (.int .i64) ((0 : Int) : Int))), (.a (.val (.int .i64) ((0 : Int) : Int))), (.a (.val .str (([] : List UInt8) : List UInt8))), (.a (.val (.int .i64) ((0 : Int) : Int))), (.a (.val (.int .i64) ((0 : Int) : Int))), (.a (.val (.int .i64) ((0 : Int) : Int))), (.a (.val .str (([] : List UInt8) : List UInt8))), (.a (.val (.int .i64) ((0 : Int) : Int))), (.a (.val (.int .i64) ((0 : Int) : Int))), (.a (.val (.int .i64) ((0 : Int) : Int))), (.a (.val .str (([] : List UInt8) : List UInt8))), (.a (.val (.int .i64) ((0 : Int) : Int))), (.a (.val (.int .i64) ((0 : Int) : Int))), (.a (.val (.int .i64) ((0 : Int) : Int))), (.a (.val .str (([] : List UInt8) : List UInt8))), (.a (.val (.int .i64) ((0 : Int) : Int))), (.a (.val (.int .i64) ((0 : Int) : Int))), (.a (.val (.int .i64) ((0 : Int) : Int))), (.a (.val .str (([] : List UInt8) : List UInt8))), (.a (.val (.int .i64) ((0 : Int) : Int))), (.a (.val (.int .i64) ((0 : Int) : Int))), (.a (.val (.int .i64) ((0 : Int) : Int)))]) false)), (136, (.mk .other 1 0 (.some [(.a .undef)]) false)), (83, (.mk .func 1 8 (.some [(.a .nilfn)]) false)), (144, (.mk (.map 3 4) 1 8 (.some [(.a .nilmap)]) false)), (145, (.mk (.ptr 147) 1 8 (.some [(.a .nilptr)]) false)), (147, (.mk (.struct [(0, (1, 145)), (1, (1, 22))]) 2 32 (.some [(.a .nilptr), (.a .nilsl)]) true)), (153, (.mk (.ptr 5) 1 8 (.some [(.a .nilptr)]) false)), (155, (.mk .other 1 8 (.some [(.a .nilptr)]) false)), (149, (.mk .iface 1 16 (.some [(.a .nilif)]) false)), (93, (.mk .other 1 0 (.some [(.a .undef)]) false)), (64, (.mk .other 1 0 (.some [(.a .undef)]) false)), (119, (.mk (.slice 143) 1 24 (.some [(.a .nilsl)]) false)), (143, (.mk (.struct [(0, (3, 24)), (3, (1, 3)), (4, (1, 3)), (5, (1, 3))]) 6 48 (.some [(.a (.val (.int .i64) ((0 : Int) : Int))), (.a (.val (.int .i64) ((0 : Int) : Int))), (.a (.val (.int .i64) ((0 : Int) : Int))), (.a (.val (.int .i64) ((0 : Int) : Int))), (.a (.val (.int .i64) ((0 : Int) : Int))), (.a (.val (.int .i64) ((0 : Int) : Int)))]) true)), (57, (.mk (.ptr 59) 1 8 (.some [(.a .nilptr)]) false)), (59, (.mk (.struct [(0, (1, 22)), (1, (1, 3)), (2, (1, 4))]) 3 40 (.some [(.a .nilsl), (.a (.val (.int .i64) ((0 : Int) : Int))), (.a (.val .bool (false : Bool)))]) true)), (120, (.mk .other 1 0 (.some [(.a .undef)]) false)), (122, (.mk .other 1 0 (.some [(.a .undef)]) false)), (102, (.mk .other 1 0 (.some [(.a .undef)]) false)), (51, (.mk .other 1 0 (.some [(.a .undef)]) false))]
abbrev nK (R : Type) : ASt → (Ex → ASt → Option R) → Option R := fun _ _ => none
abbrev wq0 : Nat × Abf := (1, .row 24 z2)
abbrev wq1 : Nat × Abf := (2, .row 75 z0)
abbrev wq2 : Nat × Abf := (37, .row 24 z2)
abbrev wq3 : Nat × Abf := (38, .row 75 z0)
abbrev wq4 : Nat × Abf := (34, .row 24 z2)
abbrev wq5 : Nat × Abf := (35, .row 75 z0)
abbrev wq6 : Nat × Abf := (36, .row 24 z2)
abbrev wq7 : Nat × Abf := (37, .row 75 z0)
abbrev wq8 : Nat × Abf := (39, .row 24 z2)
abbrev wq9 : Nat × Abf := (40, .row 75 z0)
abbrev Da9 : Nat × Abf := (32, .row 24 z2)
abbrev C6g : Nat × Abf := (35, .row 24 z2)
abbrev Dd7 : Nat × Abf := (33, .row 24 z2)
abbrev Dd8 : Nat × Abf := (34, .row 75 z0)
abbrev Dba : Nat × Abf := (36, .row 75 z0)
abbrev Dbb : Nat × Abf := (38, .row 24 z2)
abbrev Dbc : Nat × Abf := (39, .row 75 z0)
abbrev Dd9 : Nat × Abf := (41, .row 24 z2)
abbrev Dea : Nat × Abf := (42, .row 75 z0)
abbrev C0j : Nat × Abf := (32, .row 143 z5)
abbrev Clm : Nat × Abs := (1, .one (.mp 0))
abbrev Bge : Nat × Abs := (0, .one (.ptr 0))
abbrev Aa0 : Aj5 := (.val (.int .i64))
abbrev Cdy : Nat × Abs := (5, .one (.mp 32))
abbrev Cdz : Nat × Abs := (6, .one (.mp 33))
abbrev C0k : List (Nat × Abf) := [Da9]
abbrev Cu5 : Nat × Abs := (3, .one (.slf 3))
abbrev C0l : Nat × Abs := (1, .one (.ptr 0))
abbrev Ax9 : Nat × Abs := (4, .one (.ptr 32))
abbrev Cu6 : Nat × Abs := (7, .one (.ptr 33))
abbrev Ajk : Nat × Abs := (2, .one (.ptr 32))
abbrev A2z : Nat × Abs := (6, .one (.ptr 33))
abbrev Bbb : Nat × Abs := (7, .one (.ptr 34))
abbrev C0m : Nat × Abs := (8, .one (.ptr 35))
abbrev B6x : Nat × Abs := (4, .one (.slf 32))
abbrev Cu7 : List (Nat × Abf) := [C0j]
abbrev Cu8 : Nat × Abs := (2, .one (.slf 32))
abbrev Byg : Nat × Abs := (0, .one (.slf 32))
abbrev Cu9 : Nat × Abs := (0, .one (.val z6))
abbrev Cln : Nat × Abs := (3, .one (.ptr 32))
abbrev A76 : Nat × Abs := (4, .one (.ptr 33))
abbrev Alh : Nat × Abs := (1, .one (.ptr 32))
abbrev A5x : Nat × Abs := (0, .one (.val z4))
abbrev Cva : Nat × Abs := (4, .one (.slf 33))
abbrev Clo : Nat × Abs := (5, .one (.slf 33))
abbrev Byh : Nat × Abs := (1, .one (.val z4))
abbrev Cd0 : Nat × Abs := (8, .one (.ptr 33))
abbrev Clp : Nat × Abs := (5, .one (.ptr 34))
abbrev A5y : Nat × Abs := (3, .one (.ptr 33))
abbrev C0n : Nat × Abs := (8, .one (.ptr 34))
abbrev Cvb : Nat × Abs := (5, .one (.slf 32))
abbrev Byi : Nat × Abs := (8, .one (.slf 34))
abbrev B6y : Nat × Abs := (9, .one (.slf 35))
abbrev Cvc : Nat × Abs := (2, .one (.ptr 33))
abbrev Cvd : Nat × Abs := (4, .one (.ptr 34))
abbrev Clq : Nat × Abs := (6, .one (.slf 34))
abbrev Clr : List (Nat × Abs) := [Bge]
abbrev C6h : Nat × Abs := (12, .one (.slf 34))
abbrev C6i : Nat × Abs := (51, .one (.val z6))
abbrev Deb : List Aj5 := [(.ptr 0), (.slf 1)]
abbrev C0o : Nat × Abs := (18, .one (.val z4))
abbrev C6j : Nat × Abs := (80, .one (.val z4))
abbrev C6k : Nat × Abs := (37, .one (.val z3))
abbrev B6z : Nat × Abs := (11, .one (.slf 36))
abbrev Dec : Nat × Abs := (11, .one (.ptr 34))
abbrev Cd1 : Nat × Abs := (0, .one (.val .str))
abbrev Cve : List (Nat × Abs) := [Alh]
abbrev C0p : List (Nat × Abs) := [A5x]
abbrev Cls : List (Nat × Abs) := [Cln]
abbrev C6l : List (Nat × Abs) := [Byg]
abbrev Ded : Nat × Abs := (0, .one (.val .bool))
abbrev Cvf : Nat × Abs := (5, .one (.val .bool))
abbrev Cvg : Nat × Abs := (3, .one (.val .bool))
abbrev Clt : Nat × Abs := (4, .one (.val .bool))
abbrev C0q : Nat × Abs := (2, .one (.val .bool))
abbrev C6m : Nat × Abf := (1, .row 5 (.int .u8))
abbrev C6n : Nat × Abs := (7, .one (.val .bool))
abbrev C6o : Nat × Abs := (8, .one (.val .bool))
abbrev Cvh : Nat × Abs := (9, .one (.val .bool))
abbrev Dee : List Aj5 := [(.slf 35), (.slf 36)]
abbrev Def : List Aj5 := [(.slf 37), (.slf 38)]
abbrev Deg : List Aj5 := [(.slf 33), (.slf 34)]
abbrev C6p : List (Nat × Abs) := [Cd1]
abbrev Clu : Nat × Abf := (33, .row 5 (.int .u8))
abbrev B14 : Nat × Abf := (32, .row 5 (.int .u8))
abbrev Deh : Nat × Abf := (35, .row 5 (.int .u8))
abbrev C0r : Nat × Abf := (34, .row 5 (.int .u8))
abbrev Bsf : Nat × Abf := (3, .row 3 (.int .i64))
abbrev Cd2 : Nat × Abf := (1, .row 3 (.int .i64))
abbrev Cd3 : Nat × Abf := (2, .row 3 (.int .i64))
abbrev Ard : List (Nat × Abs) := [Ded]
abbrev Dei : Nat × Abf := (42, .row 3 (.int .i64))
abbrev Bbc : List (Nat × Abs) := [C0q]
abbrev Bdt : Nat × Abf := (33, .row 3 (.int .i64))
abbrev Bbd : Nat × Abf := (34, .row 3 (.int .i64))
abbrev Clv : Nat × Abf := (32, .row 3 (.int .i64))
abbrev Bgf : List (Nat × Abs) := [Clt]
abbrev A77 : Nat × Abf := (35, .row 3 (.int .i64))
abbrev Bbe : Nat × Abf := (36, .row 3 (.int .i64))
abbrev Bjz : Nat × Abf := (37, .row 3 (.int .i64))
abbrev Chw : Nat × Abf := (38, .row 3 (.int .i64))
abbrev Ctp : Aj5 := (.val (.list (.int .u8)))
abbrev Dcs : Nat × Abf := (0, .cells 68 [(.slf 1)])
abbrev Chx : List (Nat × Abf) := [B14]
abbrev Asp : Aj5 := (.val (.list (.int .i64)))
abbrev Dct : Nat × Abf := (34, .cells 68 [(.slf 35)])
abbrev Asq : Nat × Abs := (5, .one Aa0)
abbrev Ajl : Nat × Abs := (1, .one Aa0)
abbrev Ctq : Nat × Abs := (0, .one Aa0)
abbrev Bgg : Nat × Abs := (8, .one Aa0)
abbrev An6 : Nat × Abs := (6, .one Aa0)
abbrev Bcy : Nat × Abs := (2, .one Aa0)
abbrev Ap3 : Nat × Abs := (3, .one Aa0)
abbrev Avp : Nat × Abs := (7, .one Aa0)
abbrev Are : Nat × Abs := (4, .one Aa0)
abbrev A20 : Nat × Abs := (9, .one Aa0)
abbrev C0s : Nat × Abs := (28, .one Aa0)
abbrev B94 : Nat × Abs := (30, .one Aa0)
abbrev Chy : Nat × Abs := (31, .one Aa0)
abbrev B95 : Nat × Abs := (19, .one Aa0)
abbrev Ctr : Nat × Abs := (52, .one Aa0)
abbrev C0t : Nat × Abs := (53, .one Aa0)
abbrev Bcz : Nat × Abs := (10, .one Aa0)
abbrev B96 : Nat × Abs := (11, .one Aa0)
abbrev Chz : Nat × Abs := (20, .one Aa0)
abbrev Cts : Nat × Abs := (12, .one Aa0)
abbrev C0u : Nat × Abs := (13, .one Aa0)
abbrev C0v : Nat × Abs := (81, .one Aa0)
abbrev C0w : Nat × Abs := (82, .one Aa0)
abbrev C0x : Nat × Abs := (38, .one Aa0)
abbrev C0y : Nat × Abs := (39, .one Aa0)
abbrev C0z : Nat × Abs := (14, .one Aa0)
abbrev Ctt : Nat × Abs := (40, .one Aa0)
abbrev Alu : List (Nat × Abs) := [Ctq]
abbrev Ch0 : List (Nat × Abs) := [Ap3]
abbrev Ctu : List (Nat × Abs) := [Are]
abbrev Ch1 : List (Nat × Abs) := [Bcy]
abbrev Ctv : List (Nat × Abs) := [Ajl]
abbrev Dcu : List Aj5 := [(.slf 1), (.slf 2), (.slf 3)]
abbrev Dcv : List Aj5 := [(.slf 1), (.slf 32), (.slf 3)]
abbrev Ctw : Nat × Abf := (32, .amap 144 (.int .i64) .bool)
abbrev Dcw : List Aj5 := [(.slf 35), (.slf 36), (.slf 37)]
abbrev Dcx : List Aj5 := [(.slf 34), (.slf 35), (.slf 36)]
abbrev Dcy : List Aj5 := [(.slf 33), (.slf 34), (.slf 35)]
abbrev Arf : Nat × Abs := (0, .one Ctp)
abbrev Ctx : Nat × Abs := (1, .one Ctp)
abbrev Dcz : Nat × Abf := (0, .cells 147 Deb)
abbrev Ch2 : Nat × Abs := (0, .one Asp)
abbrev Cty : Nat × Abs := (1, .one Asp)
abbrev Ch3 : Nat × Abs := (2, .one Asp)
abbrev A21 : List (Nat × Abs) := [Arf]
abbrev B97 : Nat × Abf := (0, .amap 82 (.int .i64) (.int .i64))
abbrev Dc0 : List Aj5 := [(.val .str), (.val .bool), (.slf 42)]
abbrev B15 : Nat × Abf := (33, .amap 82 (.int .i64) (.int .i64))
abbrev Dc1 : Nat × Abf := (32, .amap 82 (.int .i64) (.int .i64))
abbrev Dc2 : Nat × Abf := (33, .cells 111 Dee)
abbrev Dc3 : Nat × Abf := (34, .cells 111 Def)
abbrev Dc4 : Nat × Abf := (32, .cells 111 Deg)
abbrev C00 : List (Nat × Abf) := [Dc1]
abbrev Dc5 : List Aj5 := [(.slf 34), (.slf 35), Aa0]
abbrev Dc6 : List Aj5 := [(.slf 35), (.slf 36), Aa0]
abbrev C01 : List (Nat × Abs) := [Ajk, A5y]
abbrev Ctz : List (Nat × Abf) := [Da9, Bdt]
abbrev C02 : List (Nat × Abs) := [Ajk, Cvg]
abbrev B98 : Nat × Abf := (0, .cells 85 Dcu)
abbrev Dc7 : Nat × Abf := (0, .cells 85 Dcv)
abbrev Ct0 : Nat × Abf := (33, .cells 85 Dcw)
abbrev Dc8 : Nat × Abf := (33, .cells 85 Dcx)
abbrev Dc9 : Nat × Abf := (32, .cells 85 Dcy)
abbrev Ch4 : List (Nat × Abs) := [Bge, Ajl]
abbrev C03 : List (Nat × Abs) := [A5x, Ap3]
abbrev B99 : List (Nat × Abs) := [A5x, Ajl]
abbrev Bwf : List (Nat × Abf) := [Dcs, C6m]
abbrev C04 : List (Nat × Abs) := [Alh, Ap3]
abbrev Ch5 : List (Nat × Abf) := [Clv, Bdt]
abbrev Dda : Nat × Abf := (35, .cells 73 Dc0)
abbrev C05 : Nat × Abf := (32, .cells 63 Dc5)
abbrev C06 : Nat × Abf := (32, .cells 63 Dc6)
abbrev Ddb : List Aj5 := [(.slf 37), Asp, Aa0]
abbrev C07 : List Aj5 := [(.slf 33), Asp, Aa0]
abbrev Ct1 : Nat × Abf := (0, .row 73 (.pair .str (.pair .bool (.list (.int .i64)))))
abbrev Caa : List Aj5 := [Aa0, Aa0, Aa0]
abbrev C7l : Nat × Abf := (36, .row 73 (.pair .str (.pair .bool (.list (.int .i64)))))
abbrev C7m : Nat × Abf := (39, .row 73 (.pair .str (.pair .bool (.list (.int .i64)))))
abbrev Ddc : Nat × Abf := (33, .row 73 (.pair .str (.pair .bool (.list (.int .i64)))))
abbrev C08 : Nat × Abf := (35, .row 73 (.pair .str (.pair .bool (.list (.int .i64)))))
abbrev C7n : Nat × Abf := (38, .row 73 (.pair .str (.pair .bool (.list (.int .i64)))))
abbrev Ddd : Nat × Abf := (32, .row 73 (.pair .str (.pair .bool (.list (.int .i64)))))
abbrev C7o : Nat × Abf := (34, .row 73 (.pair .str (.pair .bool (.list (.int .i64)))))
abbrev C7p : Nat × Abf := (37, .row 73 (.pair .str (.pair .bool (.list (.int .i64)))))
abbrev Dde : Nat × Abf := (40, .row 73 (.pair .str (.pair .bool (.list (.int .i64)))))
abbrev Ch6 : List Aj5 := [Ctp, Aa0, (.val .bool)]
abbrev C09 : List (Nat × Abf) := [Dcz, C6m]
abbrev Bwg : Nat × Abs := (0, .agg Caa)
abbrev Ct2 : List (Nat × Abs) := [Bwg]
abbrev C1a : List (Nat × Abs) := [Alh, A5y, Are]
abbrev C1b : List Aj5 := [(.val .str), Aa0, Aa0, Aa0]
abbrev Ct3 : List (Nat × Abf) := [Ctw, B15]
abbrev C1c : Nat × Abf := (33, .cells 63 Ddb)
abbrev Ddf : Nat × Abf := (0, .cells 59 Ch6)
abbrev Ct4 : Nat × Abf := (32, .cells 24 Caa)
abbrev C1d : Nat × Abf := (33, .cells 24 Caa)
abbrev Ch7 : Nat × Abf := (34, .cells 24 Caa)
abbrev C1e : Nat × Abf := (33, .cells 59 Ch6)
abbrev B16 : Nat × Abf := (0, .cells 106 Ch6)
abbrev Bwh : List (Nat × Abf) := [Ddf]
abbrev A22 : List (Nat × Abf) := [Ct4]
abbrev Ddg : Nat × Abf := (34, .cells 106 Ch6)
abbrev Ch8 : List (Nat × Abf) := [B16]
abbrev C1f : Nat × Abs := (2, .agg C1b)
abbrev C1g : List Aj5 := [(.val .str), (.slf 0), (.slf 1), (.slf 2), Aa0, Aa0]
abbrev Ddh : List Aj5 := [(.val .str), (.slf 36), (.slf 37), (.slf 38), Aa0, Aa0]
abbrev Ddi : List Aj5 := [(.val .str), (.slf 39), (.slf 40), (.slf 41), Aa0, Aa0]
abbrev Ddj : List Aj5 := [(.val .str), (.slf 33), (.slf 34), (.slf 35), Aa0, Aa0]
abbrev C7q : List Aj5 := [(.val .str), (.slf 35), (.slf 36), (.slf 37), Aa0, Aa0]
abbrev C7r : List Aj5 := [(.val .str), (.slf 38), (.slf 39), (.slf 40), Aa0, Aa0]
abbrev Ddk : List Aj5 := [(.val .str), (.slf 32), (.slf 33), (.slf 34), Aa0, Aa0]
abbrev Ch9 : List Aj5 := [(.val .str), (.val z3), (.val z4), (.val z1), Aa0, Aa0]
abbrev C7s : List Aj5 := [(.val .str), (.slf 34), (.slf 35), (.slf 36), Aa0, Aa0]
abbrev C7t : List Aj5 := [(.val .str), (.slf 37), (.slf 38), (.slf 39), Aa0, Aa0]
abbrev Ddl : List Aj5 := [(.val .str), (.slf 40), (.slf 41), (.slf 42), Aa0, Aa0]
abbrev Ct5 : List (Nat × Abs) := [Ctq, Ajl, Bcy]
abbrev Ddm : Nat × Abf := (33, .cells 132 C1b)
abbrev C1h : List (Nat × Abs) := [C0l, Ajk, Clo, An6]
abbrev C1i : List (Nat × Abf) := [Ctw, B15, wq4]
abbrev C1j : List (Nat × Abf) := [Dc4, Bdt, Bbd]
abbrev Cia : Nat × Abs := (0, .agg Ddk)
abbrev Cib : Nat × Abs := (0, .agg Ch9)
abbrev Cic : List (Nat × Abf) := [Ddd, Dd7, Dd8]
abbrev A0u : List (Nat × Abs) := [Cib]
abbrev C7u : Nat × Abf := (32, .cells 34 C1g)
abbrev C7v : Nat × Abf := (32, .cells 34 Ddh)
abbrev Ddn : Nat × Abf := (34, .cells 34 Ddi)
abbrev Ddo : Nat × Abf := (32, .cells 34 Ddj)
abbrev C7w : Nat × Abf := (32, .cells 34 C7q)
abbrev Ddp : Nat × Abf := (34, .cells 34 C7r)
abbrev C7x : Nat × Abf := (33, .cells 34 Ch9)
abbrev Asr : Nat × Abf := (32, .cells 34 Ch9)
abbrev Ddq : Nat × Abf := (33, .cells 34 C7r)
abbrev Ddr : Nat × Abf := (32, .cells 34 C7t)
abbrev Dds : Nat × Abf := (33, .cells 34 Ddl)
abbrev Ddt : Nat × Abf := (33, .cells 34 C7s)
abbrev Ddu : Nat × Abf := (33, .cells 34 C7q)
abbrev A0v : List (Nat × Abf) := [Asr]
abbrev Cid : List Aj5 := [Aa0, Aa0, Aa0, Aa0, Aa0, Aa0]
abbrev Ct6 : List (Nat × Abf) := [B98, Cd2, Cd3, Bsf]
abbrev C1k : List (Nat × Abs) := [Alh, Cvc, Cvd, An6, Avp]
abbrev C1l : List (Nat × Abf) := [Dc9, Bdt, Bbd, A77]
abbrev C1m : List (Nat × Abs) := [Alh, Ap3, Are, Asq, An6]
abbrev C1n : List (Nat × Abf) := [Dc7, Cd2, Cd3, Bsf, Clv]
abbrev Cab : List (Nat × Abs) := [Byh, Ch3, Cu5, Ax9, Cd0, Bcz]
abbrev C1o : List (Nat × Abf) := [Ct4, Ddm]
abbrev C1p : List (Nat × Abs) := [Byh, Ch3, Cu5, Ax9, Cd0, Bcz, Dec]
abbrev C1q : List (Nat × Abs) := [Cdy, Cdz, A20, C6h, C6i, Ctr, C0t]
abbrev C1r : List (Nat × Abf) := [B97, C05, Bdt, Bbd, A77]
abbrev Cac : List (Nat × Abf) := [Asr, C1d]
abbrev Ct7 : List (Nat × Abf) := [Asr, Clu, Dct, Deh]
abbrev Cie : List (Nat × Abf) := [Ddo, Ddc, wq4, wq5]
abbrev Ct8 : List (Nat × Abf) := [Asr, C7x]
abbrev Cad : List (Nat × Abf) := [Asr, Dc8, Bbd, A77, Bbe]
abbrev C1s : List (Nat × Abf) := [B98, Cd2, Cd3, Bsf, Asr, Clu]
abbrev Cif : List (Nat × Abf) := [Asr, Ct0, C0r, A77, Bbe, Bjz]
abbrev B17 : List (Nat × Abf) := [Asr, Dc2, Dc3, A77, Bbe, Bjz, Chw]
abbrev C1t : List (Nat × Abf) := [Asr, Ct0, Ch7, A77, Bbe, Bjz]
abbrev Brm : List (Nat × Abf) := [Ct1, wq0, wq1, Bsf, C7u, Ddt, C7o, C6g, Dba]
abbrev Bwi : List (Nat × Abf) := [Ddr, Dds, wq4, A77, Bbe, C7p, Dbb, Dbc, Dde, Dd9, Dea]
abbrev Cae : List (Nat × Abf) := [C7w, C1e, Ddp, C08, wq6, wq7, C7n, wq8, wq9]
abbrev Ct9 : List (Nat × Abf) := [C7w, Ddq, Ddg, C08, wq6, wq7, C7n, wq8, wq9]
abbrev C1u : List (Nat × Abf) := [Ct1, wq0, wq1, Bsf, C7u, Ddu, Ch7, C08, wq6, wq7]
abbrev C1v : List (Nat × Abf) := [C7v, C1e, Ddn, Dda, C7l, wq2, wq3, C7m, (40, .row 24 z2), (41, .row 75 z0), Dei]
def Bqp : Code := Try.f8.body.getD .skip
def B3b : Code := Try.f14.body.getD .skip
def Bmh : Code := Try.f12.body.getD .skip
def Bgh : Code := Try.f35.body.getD .skip
def Apu : Code := Try.f36.body.getD .skip
def Ajm : Aac := ⟨[Bge, Asq, (27, .one Aa0), C0s], Bwh⟩
def Atp : Aac := ⟨[Asq], Bwh⟩
def Bgi : Ab3 := .cons (.exit 0) Atp (.nil)
abbrev A23 (R : Type) := Int->Int->Int->d0->Int->Bool->(Int->d0->Int->Bool->Option R)->Option R
abbrev Bgj (R : Type) := Int->Int->Int->d0->Int->Bool->Option R
abbrev Avq := {R : Type} → Nat → Nat → A23 R
def Avr {R : Type} (N : Nat) (rc : Bgj R) : A23 R := fun c d e b a f g => if ((decide (e < d)) = true) then (if (0 ≤ a ∧ a < len b) then (rc (orI .i64 (Avo .i64 c 8) (wi (b.getD a.toNat 0))) d (wi (e + 1)) b (wi (a + 1)) f) else none) else g c b a f
def Aeh {R : Type} (N : Nat) : Nat → A23 R
 | 0 => fun _ _ _ _ _ _ _ => none
 | k + 1 => fun a b c d e f g => Avr N (fun a b c d e f => Aeh N k a b c d e f g) a b c d e f g
def A24 (Aeh : Avq) (N k : Nat) : Aaj Ajm := fun R x K => Aeh N k x.1.2.1 x.1.2.2.1 x.1.2.2.2.1 x.2.1.1 x.2.1.2.1 x.2.1.2.2.1 (fun y0 y1 y2 y3 => K (.exit 0) (Aab Atp ((y0, ()), ((y1, y2, y3, ()), ()))))
def A25 (N k : Nat) : Aaj Ajm := A24 @Aeh N k
def Bbf : Aac := ⟨Ch4, Bwh⟩
def Axk : Aac := ⟨Alu, Bwh⟩
abbrev Cak (R : Type) := Int->d0->Int->Bool->(Int->d0->Int->Bool->Option R)->Option R
abbrev Adm := {R : Type} → Nat → Cak R
def A0w (Aeh : Avq) : Adm := fun {R} N d a b e c => if (e = true) then (c 0 a b true) else if ((decide ((wi (b + d)) > (len a))) = true) then (c 0 a b true) else Aeh N N 0 d 0 a b e fun f g h i => c f g h i
def Aag : Adm := @A0w @Aeh
def C5o (N : Nat) : Abg Bbf [Axk] := fun R x C => Aag N x.1.2.1 x.2.1.1 x.2.1.2.1 x.2.1.2.2.1 (fun y0 y1 y2 y3 => C.1 ((y0, ()), ((y1, y2, y3, ()), ())))
def Ahf (Aag : Adm) (N : Nat) : Go.AX.Aai := Acb [false, true] (List.replicate 32 true) true 2 1 Bbf [Axk] (fun R x C => Aag N x.1.2.1 x.2.1.1 x.2.1.2.1 x.2.1.2.2.1 (fun y0 y1 y2 y3 => C.1 ((y0, ()), ((y1, y2, y3, ()), ()))))
def Ar2 (N : Nat) : Go.AX.Aai := Ahf @Aag N
def C5p (N : Nat) : List (Nat × Aci) := [(13, Aaa Ajm (A25 N N))]
def Cal (N : Nat) : List (Nat × Go.AX.Aai) := []
def A26 : Aac := ⟨Ch4, Bwh⟩
def Atq : Aac := ⟨Alu, Bwh⟩
abbrev B18 (R : Type) := Int->d0->Int->Bool->(Int->d0->Int->Bool->Option R)->Option R
abbrev Afy := {R : Type} → Nat → B18 R
def Avs (Aag : Adm) : Afy := fun {R} N b i j l c => Aag N b i j l fun a d e f => if ((decide (b > 0)) = true) then (let g := (wi (8 * b)); let h := (wi (g - 1)); if (h < 0) then none else if ((decide (a ≥ (Avo .i64 1 h))) = true) then (if (g < 0) then none else c (wi (a - (Avo .i64 1 g))) d e f) else c a d e f) else c a d e f
def Aa2 : Afy := @Avs @Aag
def C1w (N : Nat) : Abg A26 [Atq] := fun R x C => Aa2 N x.1.2.1 x.2.1.1 x.2.1.2.1 x.2.1.2.2.1 (fun y0 y1 y2 y3 => C.1 ((y0, ()), ((y1, y2, y3, ()), ())))
def Ajn (Aa2 : Afy) (N : Nat) : Go.AX.Aai := Acb [false, true] (List.replicate 32 true) true 2 1 A26 [Atq] (fun R x C => Aa2 N x.1.2.1 x.2.1.1 x.2.1.2.1 x.2.1.2.2.1 (fun y0 y1 y2 y3 => C.1 ((y0, ()), ((y1, y2, y3, ()), ()))))
def A27 (N : Nat) : Go.AX.Aai := Ajn @Aa2 N
def C1x (N : Nat) : List (Nat × Aci) := []
def B19 (N : Nat) : List (Nat × Go.AX.Aai) := [(36, Ar2 N)]
def B60 : Code := Try.f38.body.getD .skip
def Bsg : Aac := ⟨Alu, []⟩
def Baa : Aac := ⟨Alu, []⟩
abbrev Cvi (R : Type) := Int->(Int->Option R)->Option R
abbrev Aod := {R : Type} → Nat → Cvi R
def Ac1 : Aod := fun {R} N b a => if ((b == 0) = true) then (a 0) else if ((decide (b ≥ (-128))) = true) then (if ((decide (b ≤ 127)) = true) then (a 1) else if ((decide (b ≥ (-32768))) = true) then (if ((decide (b ≤ 32767)) = true) then (a 2) else a 3) else a 3) else if ((decide (b ≥ (-32768))) = true) then (if ((decide (b ≤ 32767)) = true) then (a 2) else a 3) else a 3
def Cvj (N : Nat) : Abg Bsg [Baa] := fun R x C => Ac1 N x.1.1 (fun y0 => C.1 ((y0, ()), (())))
def Awi (Ac1 : Aod) (N : Nat) : Go.AX.Aai := Acb [true] [] false 1 0 Bsg [Baa] (fun R x C => Ac1 N x.1.1 (fun y0 => C.1 ((y0, ()), (()))))
def Bsh (N : Nat) : Go.AX.Aai := Awi @Ac1 N
def Cvk (N : Nat) : List (Nat × Aci) := []
def B61 (N : Nat) : List (Nat × Go.AX.Aai) := []
def Awj : Aac := ⟨[Ajl, Ax9, Cu6, Bgg, (9, .one (.ptr 34))], [Ct4, C1d, (34, .cells 59 Ch6)]⟩
def Bj0 : Aac := ⟨[Ax9, Asq, An6], A22⟩
def B62 : Ab3 := .cons .ret Bj0 (.nil)
abbrev Cvl (R : Type) := Int->Int->Int->Int->Int->Int->Int->Int->d0->Int->Bool->(Int->Int->Int->Int->Int->Option R)->Option R
abbrev A1y := {R : Type} → Nat → Cvl R
def Bgk (Ac1 : Aod) : A1y := fun {R} N c d j l m e b f n g h a => if (h = true) then (a 0 7 0 0 0) else Ac1 N b fun i => if ((i != d) = true) then (a 0 3 0 0 0) else a (wi (g - c)) 0 e b f
def Akf : A1y := @Bgk @Ac1
def Bsi (Akf : A1y) (N : Nat) : Aaj Awj := fun R x K => Akf N x.1.1 x.1.2.2.2.1 x.2.1.1 x.2.1.2.1 x.2.1.2.2.1 x.2.2.1.1 x.2.2.1.2.1 x.2.2.1.2.2.1 x.2.2.2.1.1 x.2.2.2.1.2.1 x.2.2.2.1.2.2.1 (fun y0 y1 y2 y3 y4 => K .ret (Aab Bj0 (((), y0, y1, ()), ((y2, y3, y4, ()), ()))))
def B63 (N : Nat) : Aaj Awj := Bsi @Akf N
def B64 : Code := Try.f37.body.getD .skip
def Bsj : Aac := ⟨Alu, []⟩
def Bab : Aac := ⟨Alu, []⟩
abbrev Cvm (R : Type) := Int->(Int->Option R)->Option R
abbrev Aky := {R : Type} → Nat → Cvm R
def Ab2 : Aky := fun {R} N b a => if ((b == 24) = true) then (a 1) else if ((b == 29) = true) then (a 2) else if ((b == 30) = true) then (a 4) else a 0
def Cvn (N : Nat) : Abg Bsj [Bab] := fun R x C => Ab2 N x.1.1 (fun y0 => C.1 ((y0, ()), (())))
def Arg (Ab2 : Aky) (N : Nat) : Go.AX.Aai := Acb [true] [] false 1 0 Bsj [Bab] (fun R x C => Ab2 N x.1.1 (fun y0 => C.1 ((y0, ()), (()))))
def A78 (N : Nat) : Go.AX.Aai := Arg @Ab2 N
def Cvo (N : Nat) : List (Nat × Aci) := []
def B65 (N : Nat) : List (Nat × Go.AX.Aai) := []
def B66 : Aac := ⟨[Arf, Ajl], []⟩
def Bl4 : Aac := ⟨[Bwg, Ajl, Bcy], []⟩
abbrev C3z (R : Type) := d0->Int->(Int->Int->Int->Int->Int->Option R)->Option R
abbrev Av6 := {R : Type} → Nat → C3z R
def B67 (Aa2 : Afy) (Akf : A1y) (Ab2 : Aky) (Aag : Adm) : Av6 := fun {R} N b a c => if ((decide (a < 0)) = true) then (c 0 0 0 0 1) else if ((decide (a ≥ (len b))) = true) then (c 0 0 0 0 1) else if (0 ≤ a ∧ a < len b) then (let d := (B6a .u8 (b.getD a.toNat 0) 31); if (0 ≤ a ∧ a < len b) then (if ((decide ((wi d) < 1)) = true) then (c 0 0 0 0 3) else if ((decide ((wi d) > 30)) = true) then (c 0 0 0 0 3) else if (((wi d) == 19) = true) then (c 0 0 0 0 3) else if ((decide ((wi (Ax8 .u8 (b.getD a.toNat 0) 5)) > 3)) = true) then (c 0 0 0 0 3) else if ((0 ≤ (wi (Ax8 .u8 (b.getD a.toNat 0) 5))) ∧ ((wi (Ax8 .u8 (b.getD a.toNat 0) 5)) < 4)) then (Aa2 N (List.getD [0, 1, 2, 4] (Int.toNat (wi (Ax8 .u8 (b.getD a.toNat 0) 5))) 0) b (wi (a + 1)) false fun e f g h => if (((wi d) == 30) = true) then (Aa2 N 4 f g h fun i j l m => Akf N a (wi (Ax8 .u8 (b.getD a.toNat 0) 5)) 0 0 0 (wi d) e i j l m fun n o p q r => c p q r n o) else Ab2 N (wi d) fun s => Aag N s f g h fun t u v w => Akf N a (wi (Ax8 .u8 (b.getD a.toNat 0) 5)) 0 0 0 (wi d) e t u v w fun x y z A B => c z A B x y) else none) else none) else none
def Aif : Av6 := @B67 @Aa2 @Akf @Ab2 @Aag
def Dd3 (N : Nat) : Abg B66 [Bl4] := fun R x C => Aif N x.1.1 x.1.2.1 (fun y0 y1 y2 y3 y4 => C.1 (((y0, y1, y2, ()), y3, y4, ()), (())))
def Bfy (Aif : Av6) (N : Nat) : Go.AX.Aai := Acb [true, true] [] false 2 0 B66 [Bl4] (fun R x C => Aif N x.1.1 x.1.2.1 (fun y0 y1 y2 y3 y4 => C.1 (((y0, y1, y2, ()), y3, y4, ()), (()))))
def B68 (N : Nat) : Go.AX.Aai := Bfy @Aif N
def Dd4 (N : Nat) : List (Nat × Aci) := [(24, Aaa Awj (B63 N))]
def C30 (N : Nat) : List (Nat × Go.AX.Aai) := [(35, A27 N), (38, Bsh N), (37, A78 N), (36, Ar2 N)]
def Bnu : Aac := ⟨[], []⟩
def A6k : Aac := ⟨Ard, []⟩
abbrev Cp4 (R : Type) := (Bool->Option R)->Option R
abbrev A43 := {R : Type} → Nat → Cp4 R
def B3c (Aif : Av6) : A43 := fun {R} N a => Aif N ([65, 1, 44]) 0 fun b c d e f => Aif N ([34, 2, 1]) 2 fun g h i j l => if ((f == 0) = true) then (if ((l == 0) = true) then (if (((b == 1) && ((c == 300) && ((d == 0) && true))) = true) then (if ((e == 3) = true) then (if (((g == 1) && ((h == 0) && ((i == 0) && true))) = true) then (a (j == 1)) else a false) else a false) else a false) else a false) else a false
def Am8 : A43 := @B3c @Aif
def C9j (N : Nat) : Abg Bnu [A6k] := fun R x C => Am8 N  (fun y0 => C.1 ((y0, ()), (())))
def B3d (Am8 : A43) (N : Nat) : Go.AX.Aai := Acb [] [] false 0 0 Bnu [A6k] (fun R x C => Am8 N  (fun y0 => C.1 ((y0, ()), (()))))
def B3e (N : Nat) : Go.AX.Aai := B3d @Am8 N
def C9k (N : Nat) : List (Nat × Aci) := []
def Cp5 (N : Nat) : List (Nat × Go.AX.Aai) := [(12, B68 N)]
def B3f : Code := Try.f27.body.getD .skip
def A44 : Code := Try.f62.body.getD .skip
def A28 : Code := Try.f31.body.getD .skip
def Arh : Aac := ⟨[Ap3, (6, .one Ctp), Avp, Bgg], []⟩
def Bac : Aac := ⟨Ch0, []⟩
def B69 : Ab3 := .cons (.exit 0) Bac (.nil)
abbrev Bsk (R : Type) := Int->d0->Int->Int->(Int->Option R)->Option R
abbrev B7a (R : Type) := Int->d0->Int->Int->Option R
abbrev Bgl := {R : Type} → Nat → Nat → Bsk R
def Bsl {R : Type} (N : Nat) (rc : B7a R) : Bsk R := fun c b d a f => if ((decide (a < d)) = true) then (if (0 ≤ a ∧ a < len b) then (let e := (wi (a + 1)); rc (B6a .i64 (wi (c + (wi (e * (wi (b.getD a.toNat 0)))))) 4294967295) b d e) else none) else f c
def Akz {R : Type} (N : Nat) : Nat → Bsk R
 | 0 => fun _ _ _ _ _ => none
 | k + 1 => fun a b c d e => Bsl N (fun a b c d => Akz N k a b c d e) a b c d e
def Bsm (Akz : Bgl) (N k : Nat) : Aaj Arh := fun R x K => Akz N k x.1.1 x.1.2.1 x.1.2.2.1 x.1.2.2.2.1 (fun y0 => K (.exit 0) (Aab Bac ((y0, ()), (()))))
def Bsn (N k : Nat) : Aaj Arh := Bsm @Akz N k
def B2a : Aac := ⟨A21, []⟩
def Bgm : Aac := ⟨Alu, []⟩
abbrev C1y (R : Type) := d0->(Int->Option R)->Option R
abbrev Apb := {R : Type} → Nat → C1y R
def B2b (Akz : Bgl) : Apb := fun {R} N a b => Akz N N 0 a (len a) 0 fun c => b c
def Aeb : Apb := @B2b @Akz
def Ddv (N : Nat) : Abg B2a [Bgm] := fun R x C => Aeb N x.1.1 (fun y0 => C.1 ((y0, ()), (())))
def Ays (Aeb : Apb) (N : Nat) : Go.AX.Aai := Acb [true] [] false 1 0 B2a [Bgm] (fun R x C => Aeb N x.1.1 (fun y0 => C.1 ((y0, ()), (()))))
def Brn (N : Nat) : Go.AX.Aai := Ays @Aeb N
def Ddw (N : Nat) : List (Nat × Aci) := [(7, Aaa Arh (Bsn N N))]
def C1z (N : Nat) : List (Nat × Go.AX.Aai) := []
def Aem : Code := Try.f76.body.getD .skip
def Bmi : Code := Try.f94.body.getD .skip
def A79 : Aac := ⟨Clr, Bwh⟩
def Avt : Aac := ⟨C6p, Bwh⟩
abbrev B7b (R : Type) := d0->Int->Bool->((List UInt8)->d0->Int->Bool->Option R)->Option R
abbrev Aii := {R : Type} → Nat → B7b R
def A8a (Aag : Adm) : Aii := fun {R} N h i j c => Aag N 1 h i j fun f b d g => if (g = true) then (c ([] : List UInt8) b d true) else let a := (wi (d + f)); if ((decide (a > (len b))) = true) then (c ([] : List UInt8) b d true) else let e := (wi (a - f)); if ((0 ≤ a) ∧ (a ≤ (len b))) then (if ((0 ≤ e) ∧ (e ≤ a)) then (c (List.map (fun n : Int => UInt8.ofNat (Int.toNat n)) (List.drop (Int.toNat e) (List.take (Int.toNat a) b))) b a g) else none) else none
def Abk : Aii := @A8a @Aag
def C31 (N : Nat) : Abg A79 [Avt] := fun R x C => Abk N x.2.1.1 x.2.1.2.1 x.2.1.2.2.1 (fun y0 y1 y2 y3 => C.1 ((y0, ()), ((y1, y2, y3, ()), ())))
def Aoe (Abk : Aii) (N : Nat) : Go.AX.Aai := Acb [false] (List.replicate 32 true) true 1 1 A79 [Avt] (fun R x C => Abk N x.2.1.1 x.2.1.2.1 x.2.1.2.2.1 (fun y0 y1 y2 y3 => C.1 ((y0, ()), ((y1, y2, y3, ()), ()))))
def Bmj (N : Nat) : Go.AX.Aai := Aoe @Abk N
def C32 (N : Nat) : List (Nat × Aci) := []
def B7c (N : Nat) : List (Nat × Go.AX.Aai) := [(36, Ar2 N)]
def Aj6 : Aac := ⟨[Ajk, A2z, Bbb, C0m, B94, Chy], C1v⟩
def A8b : Aac := ⟨[Ajk, Ap3, Are, Cvf], Cie⟩
def A8c : Aac := ⟨[Ajk, A2z, Bbb, B94, Chy], Cae⟩
def Bso : Ab3 := .cons .ret A8b (.cons .normal A8c (.nil))
abbrev Cd4 (R : Type) := Int->Int->(List UInt8)->Int->Int->d0->Int->Bool->(List UInt8)->Int->Int->(List UInt8)->Bool->d5->d4->d1->d5->d4->d1->d0->(Int->Int->Bool->(List UInt8)->Int->Int->d5->d4->d1->Option R)->(Int->Int->(List UInt8)->Int->Int->d0->Int->Bool->(List UInt8)->Int->Int->d5->d4->d1->d5->d4->d1->Option R)->Option R
abbrev Ami := {R : Type} → Nat → Cd4 R
def Acr : Ami := fun {R} N l m n o p q r b c d e f g s t u a h i j v w => if (b = true) then (v 0 0 false c d e a h i) else if ((((List.length a) + (List.length ((f, (g, j)) :: ([] : List (List UInt8 × Bool × List Int))))) * (48 : Nat)) ≤ (70368744177664 : Nat)) then (w l m n o p q r b c d e s t u (a ++ ((f, (g, j)) :: ([] : List (List UInt8 × Bool × List Int)))) h i) else none
def Aqh (Acr : Ami) (N : Nat) : Aaj Aj6 := fun R x K => Acr N x.1.2.2.2.2.1 x.1.2.2.2.2.2.1 x.2.1.1 x.2.1.2.2.2.2.1 x.2.1.2.2.2.2.2.1 x.2.2.1.1 x.2.2.1.2.1 x.2.2.1.2.2.1 x.2.2.2.1.1 x.2.2.2.1.2.2.2.2.1 x.2.2.2.1.2.2.2.2.2.1 x.2.2.2.2.1.1 x.2.2.2.2.1.2.1 x.2.2.2.2.2.1 x.2.2.2.2.2.2.1 x.2.2.2.2.2.2.2.1 x.2.2.2.2.2.2.2.2.1 x.2.2.2.2.2.2.2.2.2.1 x.2.2.2.2.2.2.2.2.2.2.1 x.2.2.2.2.2.2.2.2.2.2.2.1 (fun y0 y1 y2 y3 y4 y5 y6 y7 y8 => K .ret (Aab A8b (((), y0, y1, y2, ()), ((y3, (), (), (), y4, y5, ()), y6, y7, y8, ())))) (fun y0 y1 y2 y3 y4 y5 y6 y7 y8 y9 y10 y11 y12 y13 y14 y15 y16 => K .normal (Aab A8c (((), (), (), y0, y1, ()), ((y2, (), (), (), y3, y4, ()), (y5, y6, y7, ()), (y8, (), (), (), y9, y10, ()), y11, y12, y13, y14, y15, y16, ()))))
def Bsp (N : Nat) : Aaj Aj6 := Aqh @Acr N
def Ah2 : Aac := ⟨[Ajk, A2z, Bbb, C0m, B94, Chy, (45, .one Aa0), (46, .one Aa0)], C1v⟩
def Ayt : Aac := ⟨[Ajk, A2z, Bbb, C0m, B94, Chy], C1v⟩
def Bsq : Ab3 := .cons (.exit 3) Ayt (.nil)
abbrev Bdu (R : Type) := Int->Int->Int->Int->(List UInt8)->Int->Int->d0->Int->Bool->(List UInt8)->Int->Int->(List UInt8)->Bool->d5->d4->d1->d5->d4->d1->d0->(Int->Int->(List UInt8)->Int->Int->d0->Int->Bool->(List UInt8)->Int->Int->(List UInt8)->Bool->d5->d4->d1->d5->d4->d1->d0->Option R)->Option R
abbrev Bsr (R : Type) := Int->Int->Int->Int->(List UInt8)->Int->Int->d0->Int->Bool->(List UInt8)->Int->Int->(List UInt8)->Bool->d5->d4->d1->d5->d4->d1->d0->Option R
abbrev Aof := {R : Type} → Nat → Nat → Bdu R
def A29 (Aa2 : Afy) {R : Type} (N : Nat) (rc : Bsr R) : Bdu R := fun b c d e f g h i j l m n o p q r s t u v w a y => if ((decide (e < d)) = true) then (Aa2 N 4 i j l fun x z A B => if ((((List.length a) + (List.length (x :: ([] : List Int)))) * (8 : Nat)) ≤ (70368744177664 : Nat)) then (rc b c d (wi (e + 1)) f g h z A B m n o p q r s t u v w (a ++ (x :: ([] : List Int)))) else none) else y b c f g h i j l m n o p q r s t u v w a
def Ack {R : Type} (N : Nat) : Nat → Bdu R
 | 0 => fun _ _ _ _ _ _ _ _ _ _ _ _ _ _ _ _ _ _ _ _ _ _ _ => none
 | k + 1 => fun a b c d e f g h i j l m n o p q r s t u v w x => A29 @Aa2 N (fun a b c d e f g h i j l m n o p q r s t u v w => Ack N k a b c d e f g h i j l m n o p q r s t u v w x) a b c d e f g h i j l m n o p q r s t u v w x
def Aqi (Ack : Aof) (N k : Nat) : Aaj Ah2 := fun R x K => Ack N k x.1.2.2.2.2.1 x.1.2.2.2.2.2.1 x.1.2.2.2.2.2.2.1 x.1.2.2.2.2.2.2.2.1 x.2.1.1 x.2.1.2.2.2.2.1 x.2.1.2.2.2.2.2.1 x.2.2.1.1 x.2.2.1.2.1 x.2.2.1.2.2.1 x.2.2.2.1.1 x.2.2.2.1.2.2.2.2.1 x.2.2.2.1.2.2.2.2.2.1 x.2.2.2.2.1.1 x.2.2.2.2.1.2.1 x.2.2.2.2.2.1 x.2.2.2.2.2.2.1 x.2.2.2.2.2.2.2.1 x.2.2.2.2.2.2.2.2.1 x.2.2.2.2.2.2.2.2.2.1 x.2.2.2.2.2.2.2.2.2.2.1 x.2.2.2.2.2.2.2.2.2.2.2.1 (fun y0 y1 y2 y3 y4 y5 y6 y7 y8 y9 y10 y11 y12 y13 y14 y15 y16 y17 y18 y19 => K (.exit 3) (Aab Ayt (((), (), (), (), y0, y1, ()), ((y2, (), (), (), y3, y4, ()), (y5, y6, y7, ()), (y8, (), (), (), y9, y10, ()), (y11, y12, (), ()), y13, y14, y15, y16, y17, y18, y19, ()))))
def Bdv (N k : Nat) : Aaj Ah2 := Aqi @Ack N k
def Ah3 : Aac := ⟨[Ajk, A2z, Bbb, B94, Chy], Cae⟩
def Ayu : Aac := ⟨[Ajk, Ap3, Are, Cvf], Cie⟩
def Ayv : Aac := ⟨[Ajk, A2z, Bbb], Cae⟩
def Bss : Ab3 := .cons .ret Ayu (.cons (.exit 0) Ayv (.nil))
abbrev Bdw (R : Type) := Int->Int->(List UInt8)->Int->Int->d0->Int->Bool->(List UInt8)->Int->Int->d5->d4->d1->d5->d4->d1->(Int->Int->Bool->(List UInt8)->Int->Int->d5->d4->d1->Option R)->((List UInt8)->Int->Int->d0->Int->Bool->(List UInt8)->Int->Int->d5->d4->d1->d5->d4->d1->Option R)->Option R
abbrev Bst (R : Type) := Int->Int->(List UInt8)->Int->Int->d0->Int->Bool->(List UInt8)->Int->Int->d5->d4->d1->d5->d4->d1->Option R
abbrev Aog := {R : Type} → Nat → Nat → Bdw R
def A3a (Aag : Adm) (Abk : Aii) (Acr : Ami) (Ack : Aof) {R : Type} (N : Nat) (rc : Bst R) : Bdw R := fun g h i j l q r s a b c m n o d e f p x => if ((decide (h < g)) = true) then (Aag N 1 q r s fun t u v w => if ((t == 0) = true) then (Abk N u v w fun y z A B => Acr N g h i j l z A B a b c y true m n o d e f ([] : List Int) (fun C D E F G H I J L => p C D E F G H I J L) fun M O P Q S T U V W X Y Z aa ab ac ad ae => rc M (wi (O + 1)) P Q S T U V W X Y Z aa ab ac ad ae) else if ((t == 1) = true) then (Aag N 2 u v w fun af ag ah ai => Ack N N g h af 0 i j l ag ah ai a b c ([] : List UInt8) false m n o d e f ([] : List Int) fun aj ak al am an ao ap aq ar au av aw ax ay az ba bb bc bd be => Acr N aj ak al am an ao ap aq ar au av aw ax ay az ba bb bc bd be (fun bf bg bh bi bj bk bl bm bn => p bf bg bh bi bj bk bl bm bn) fun bo bp bq br bs bt bu bv bw bx bz ca cb cc cd ce cf => rc bo (wi (bp + 1)) bq br bs bt bu bv bw bx bz ca cb cc cd ce cf) else p 0 0 false a b c d e f) else x i j l q r s a b c m n o d e f
def Acl {R : Type} (N : Nat) : Nat → Bdw R
 | 0 => fun _ _ _ _ _ _ _ _ _ _ _ _ _ _ _ _ _ _ _ => none
 | k + 1 => fun a b c d e f g h i j l m n o p q r s t => A3a @Aag @Abk @Acr @Ack N (fun a b c d e f g h i j l m n o p q r => Acl N k a b c d e f g h i j l m n o p q r s t) a b c d e f g h i j l m n o p q r s t
def Aqj (Acl : Aog) (N k : Nat) : Aaj Ah3 := fun R x K => Acl N k x.1.2.2.2.1 x.1.2.2.2.2.1 x.2.1.1 x.2.1.2.2.2.2.1 x.2.1.2.2.2.2.2.1 x.2.2.1.1 x.2.2.1.2.1 x.2.2.1.2.2.1 x.2.2.2.1.1 x.2.2.2.1.2.2.2.2.1 x.2.2.2.1.2.2.2.2.2.1 x.2.2.2.2.1 x.2.2.2.2.2.1 x.2.2.2.2.2.2.1 x.2.2.2.2.2.2.2.1 x.2.2.2.2.2.2.2.2.1 x.2.2.2.2.2.2.2.2.2.1 (fun y0 y1 y2 y3 y4 y5 y6 y7 y8 => K .ret (Aab Ayu (((), y0, y1, y2, ()), ((y3, (), (), (), y4, y5, ()), y6, y7, y8, ())))) (fun y0 y1 y2 y3 y4 y5 y6 y7 y8 y9 y10 y11 y12 y13 y14 => K (.exit 0) (Aab Ayv (((), (), (), ()), ((y0, (), (), (), y1, y2, ()), (y3, y4, y5, ()), (y6, (), (), (), y7, y8, ()), y9, y10, y11, y12, y13, y14, ()))))
def Bdx (N k : Nat) : Aaj Ah3 := Aqj @Acl N k
def Ah4 : Aac := ⟨[Ajk, A2z, Bbb, (69, .one Aa0), (70, .one Aa0)], Cae⟩
def Ayw : Aac := ⟨[Ajk, A2z, Bbb], Cae⟩
def Bsu : Ab3 := .cons (.exit 5) Ayw (.nil)
abbrev Bdy (R : Type) := Int->Int->(List UInt8)->Int->Int->d0->Int->Bool->(List UInt8)->Int->Int->d5->d4->d1->d5->d4->d1->((List UInt8)->Int->Int->d0->Int->Bool->(List UInt8)->Int->Int->d5->d4->d1->d5->d4->d1->Option R)->Option R
abbrev Bsv (R : Type) := Int->Int->(List UInt8)->Int->Int->d0->Int->Bool->(List UInt8)->Int->Int->d5->d4->d1->d5->d4->d1->Option R
abbrev Aoh := {R : Type} → Nat → Nat → Bdy R
def A3b (Aag : Adm) {R : Type} (N : Nat) (rc : Bsv R) : Bdy R := fun b c d e f g h i j l m n o p q r a u => if ((decide (c < b)) = true) then (Aag N 1 g h i fun s v w x => Aag N 2 v w x fun t y z A => if ((((List.length a) + (List.length ((s, t) :: ([] : List (Int × Int))))) * (16 : Nat)) ≤ (70368744177664 : Nat)) then (rc b (wi (c + 1)) d e f y z A j l m n o p q r (a ++ ((s, t) :: ([] : List (Int × Int))))) else none) else u d e f g h i j l m n o p q r a
def Acm {R : Type} (N : Nat) : Nat → Bdy R
 | 0 => fun _ _ _ _ _ _ _ _ _ _ _ _ _ _ _ _ _ _ => none
 | k + 1 => fun a b c d e f g h i j l m n o p q r s => A3b @Aag N (fun a b c d e f g h i j l m n o p q r => Acm N k a b c d e f g h i j l m n o p q r s) a b c d e f g h i j l m n o p q r s
def Aqk (Acm : Aoh) (N k : Nat) : Aaj Ah4 := fun R x K => Acm N k x.1.2.2.2.1 x.1.2.2.2.2.1 x.2.1.1 x.2.1.2.2.2.2.1 x.2.1.2.2.2.2.2.1 x.2.2.1.1 x.2.2.1.2.1 x.2.2.1.2.2.1 x.2.2.2.1.1 x.2.2.2.1.2.2.2.2.1 x.2.2.2.1.2.2.2.2.2.1 x.2.2.2.2.1 x.2.2.2.2.2.1 x.2.2.2.2.2.2.1 x.2.2.2.2.2.2.2.1 x.2.2.2.2.2.2.2.2.1 x.2.2.2.2.2.2.2.2.2.1 (fun y0 y1 y2 y3 y4 y5 y6 y7 y8 y9 y10 y11 y12 y13 y14 => K (.exit 5) (Aab Ayw (((), (), (), ()), ((y0, (), (), (), y1, y2, ()), (y3, y4, y5, ()), (y6, (), (), (), y7, y8, ()), y9, y10, y11, y12, y13, y14, ()))))
def Bdz (N k : Nat) : Aaj Ah4 := Aqk @Acm N k
def Akp : Code := Try.f95.body.getD .skip
def Amj : Aac := ⟨[Arf, B6x, A2z, (9, .one (.ptr 34)), B94, (31, .one (.val .bool))], [C0j, C1d, (34, .cells 143 Cid)]⟩
def A8d : Aac := ⟨[Arf, B6x, (9, .one (.ptr 33))], [C0j, (33, .cells 143 Cid)]⟩
def Bsw : Ab3 := .cons .normal A8d (.nil)
abbrev Cd5 (R : Type) := d0->Int->Bool->d6->Int->Int->Int->Int->Int->Int->Int->Int->Int->(d0->d6->Int->Int->Int->Int->Int->Int->Option R)->Option R
abbrev Aql := {R : Type} → Nat → Cd5 R
def Ad5 : Aql := fun {R} N b i j c o l m d e f g a n h => if (j = true) then (h b c d e f g a (wi (a + l))) else if ((i == 30) = true) then (h b c d e f g a (wi (a + m))) else h b c d e f g a n
def Awk (Ad5 : Aql) (N : Nat) : Aaj Amj := fun R x K => Ad5 N x.1.1 x.1.2.2.2.2.1 x.1.2.2.2.2.2.1 x.2.1 x.2.2.1.1 x.2.2.1.2.1 x.2.2.1.2.2.1 x.2.2.2.1.1 x.2.2.2.1.2.1 x.2.2.2.1.2.2.1 x.2.2.2.1.2.2.2.1 x.2.2.2.1.2.2.2.2.1 x.2.2.2.1.2.2.2.2.2.1 (fun y0 y1 y2 y3 y4 y5 y6 y7 => K .normal (Aab A8d ((y0, (), (), ()), (y1, (y2, y3, y4, y5, y6, y7, ()), ()))))
def Bsx (N : Nat) : Aaj Amj := Awk @Ad5 N
def Amk : Aac := ⟨[Arf, B6x, (9, .one (.ptr 33))], [C0j, (33, .cells 143 Cid)]⟩
def A8e : Aac := ⟨[Arf, B6x, Asq], Cu7⟩
def Bsy : Ab3 := .cons .normal A8e (.nil)
abbrev Cd6 (R : Type) := d0->d6->Int->Int->Int->Int->Int->Int->(d0->Int->d6->Option R)->Option R
abbrev Aqm := {R : Type} → Nat → Cd6 R
def Adt : Aqm := fun {R} N h b c d e f a g i => if ((((List.length b) + (List.length (((c, (d, e)), (f, (a, g))) :: ([] : List ((Int × Int × Int) × Int × Int × Int))))) * (48 : Nat)) ≤ (70368744177664 : Nat)) then (i h a (b ++ (((c, (d, e)), (f, (a, g))) :: ([] : List ((Int × Int × Int) × Int × Int × Int))))) else none
def Awl (Adt : Aqm) (N : Nat) : Aaj Amk := fun R x K => Adt N x.1.1 x.2.1 x.2.2.1.1 x.2.2.1.2.1 x.2.2.1.2.2.1 x.2.2.1.2.2.2.1 x.2.2.1.2.2.2.2.1 x.2.2.1.2.2.2.2.2.1 (fun y0 y1 y2 => K .normal (Aab A8e ((y0, (), y1, ()), (y2, ()))))
def Bsz (N : Nat) : Aaj Amk := Awl @Adt N
def Ak0 : Aac := ⟨[Arf, B6x, Asq], Cu7⟩
def A0x : Aac := ⟨[Cu8, Cvg], Cu7⟩
def A0y : Aac := ⟨[B6x], Cu7⟩
def Bwj : Ab3 := .cons .ret A0x (.cons (.exit 0) A0y (.nil))
abbrev Bgn (R : Type) := d0->Int->d6->(Bool->d6->Option R)->(d6->Option R)->Option R
abbrev Bwk (R : Type) := d0->Int->d6->Option R
abbrev Aud := {R : Type} → Nat → Nat → Bgn R
def A6l (Aif : Av6) (Ad5 : Aql) (Adt : Aqm) {R : Type} (N : Nat) (rc : Bwk R) : Bgn R := fun e d f h i => if ((decide (d < (len e))) = true) then (Aif N e d fun a b c j l => if ((l != 0) = true) then (h false ([] : List ((Int × Int × Int) × Int × Int × Int))) else let g := (wi (d + j)); if ((a == 20) = true) then (Ad5 N e a (a == 20) f a b c a b c d g (-1) fun m n o p q r s t => Adt N m n o p q r s t fun u v w => rc u v w) else if ((a == 21) = true) then (Ad5 N e a (a == 21) f a b c a b c d g (-1) fun x y z A B C D E => Adt N x y z A B C D E fun F G H => rc F G H) else if ((a == 22) = true) then (Ad5 N e a (a == 22) f a b c a b c d g (-1) fun I J L M O P Q S => Adt N I J L M O P Q S fun T U V => rc T U V) else if ((a == 27) = true) then (Ad5 N e a (a == 27) f a b c a b c d g (-1) fun W X Y Z aa ab ac ad => Adt N W X Y Z aa ab ac ad fun ae af ag => rc ae af ag) else Ad5 N e a (a == 29) f a b c a b c d g (-1) fun ah ai aj ak al am an ao => Adt N ah ai aj ak al am an ao fun ap aq ar => rc ap aq ar) else i f
def Aen {R : Type} (N : Nat) : Nat → Bgn R
 | 0 => fun _ _ _ _ _ => none
 | k + 1 => fun a b c d e => A6l @Aif @Ad5 @Adt N (fun a b c => Aen N k a b c d e) a b c d e
def Ayx (Aen : Aud) (N k : Nat) : Aaj Ak0 := fun R x K => Aen N k x.1.1 x.1.2.2.1 x.2.1 (fun y0 y1 => K .ret (Aab A0x (((), y0, ()), (y1, ())))) (fun y0 => K (.exit 0) (Aab A0y (((), ()), (y0, ()))))
def Bgo (N k : Nat) : Aaj Ak0 := Ayx @Aen N k
def Bnv : Aac := ⟨A21, []⟩
def A6m : Aac := ⟨[Byg, (1, .one (.val .bool))], Cu7⟩
abbrev Cp6 (R : Type) := d0->(Bool->d6->Option R)->Option R
abbrev Ao4 := {R : Type} → Nat → Cp6 R
def Bnw (Aen : Aud) : Ao4 := fun {R} N b a => Aen N N b 0 ([] : List ((Int × Int × Int) × Int × Int × Int)) (fun c d => a c d) fun e => a true e
def Ae3 : Ao4 := @Bnw @Aen
def C9l (N : Nat) : Abg Bnv [A6m] := fun R x C => Ae3 N x.1.1 (fun y0 y1 => C.1 (((), y0, ()), (y1, ())))
def Aux (Ae3 : Ao4) (N : Nat) : Go.AX.Aai := Acb [true] [] false 1 0 Bnv [A6m] (fun R x C => Ae3 N x.1.1 (fun y0 y1 => C.1 (((), y0, ()), (y1, ()))))
def B3g (N : Nat) : Go.AX.Aai := Aux @Ae3 N
def C9m (N : Nat) : List (Nat × Aci) := [(28, Aaa Amj (Bsx N)), (34, Aaa Amk (Bsz N)), (7, Aaa Ak0 (Bgo N N))]
def Cp7 (N : Nat) : List (Nat × Go.AX.Aai) := [(12, B68 N)]
def Aha : Code := Try.f96.body.getD .skip
def Al4 : Aac := ⟨[Cu9, Cdy, Cdz, (17, .one (.val z6)), (18, .one Aa0), B95], Ct3⟩
def Bad : Aac := ⟨[Cu9, Cdy, Cdz], Ct3⟩
def B7d : Ab3 := .cons (.exit 0) Bad (.nil)
abbrev Bs0 (R : Type) := d6->d6->Int->Int->d3->d2->(d6->d3->d2->Option R)->Option R
abbrev B7e (R : Type) := d6->d6->Int->Int->d3->d2->Option R
abbrev At1 := {R : Type} → Nat → Nat → Bs0 R
def Bs1 {R : Type} (N : Nat) (rc : B7e R) : Bs0 R := fun c b d a f e i => if ((decide (a < d)) = true) then (if (0 ≤ a ∧ a < len b) then (let g := (b.getD a.toNat ((0, (0, 0)), (0, (0, 0)))).2.2.2; let h := (Asx (kt := (.int .i64)) (et := .bool) (b.getD a.toNat ((0, (0, 0)), (0, (0, 0)))).2.1 true f); if ((decide (g ≥ 0)) = true) then (rc c b d (wi (a + 1)) h (Asx (kt := (.int .i64)) (et := (.int .i64)) g (-1) e)) else rc c b d (wi (a + 1)) h e) else none) else i c f e
def Afh {R : Type} (N : Nat) : Nat → Bs0 R
 | 0 => fun _ _ _ _ _ _ _ => none
 | k + 1 => fun a b c d e f g => Bs1 N (fun a b c d e f => Afh N k a b c d e f g) a b c d e f g
def Awm (Afh : At1) (N k : Nat) : Aaj Al4 := fun R x K => Afh N k x.1.1 x.1.2.2.2.1 x.1.2.2.2.2.1 x.1.2.2.2.2.2.1 x.2.1 x.2.2.1 (fun y0 y1 y2 => K (.exit 0) (Aab Bad ((y0, (), (), ()), (y1, y2, ()))))
def Bs2 (N k : Nat) : Aaj Al4 := Awm @Afh N k
def Akq : Aac := ⟨[Cu9, Cdy, Cdz, A20, (33, .one (.val z6)), (34, .one Aa0), (35, .one Aa0)], Ct3⟩
def A6n : Aac := ⟨[Cu9, Cdy, Cdz, A20], Ct3⟩
def B3h : Ab3 := .cons (.exit 2) A6n (.nil)
abbrev Bnx (R : Type) := d6->Int->d6->Int->Int->d3->d2->(d6->Int->d3->d2->Option R)->Option R
abbrev B3i (R : Type) := d6->Int->d6->Int->Int->d3->d2->Option R
abbrev Asa := {R : Type} → Nat → Nat → Bnx R
def Bny {R : Type} (N : Nat) (rc : B3i R) : Bnx R := fun d e b f a g c j => if ((decide (a < f)) = true) then (if (0 ≤ a ∧ a < len b) then (let h := (b.getD a.toNat ((0, (0, 0)), (0, (0, 0)))).2.1; if (((Option.getD (Al3 (kt := (.int .i64)) (et := (.int .i64)) h c) 0) == (-1)) = true) then (let i := (wi (e + 1)); rc d i b f (wi (a + 1)) g (Asx (kt := (.int .i64)) (et := (.int .i64)) h i c)) else rc d e b f (wi (a + 1)) g c) else none) else j d e g c
def Aej {R : Type} (N : Nat) : Nat → Bnx R
 | 0 => fun _ _ _ _ _ _ _ _ => none
 | k + 1 => fun a b c d e f g h => Bny N (fun a b c d e f g => Aej N k a b c d e f g h) a b c d e f g h
def Auy (Aej : Asa) (N k : Nat) : Aaj Akq := fun R x K => Aej N k x.1.1 x.1.2.2.2.1 x.1.2.2.2.2.1 x.1.2.2.2.2.2.1 x.1.2.2.2.2.2.2.1 x.2.1 x.2.2.1 (fun y0 y1 y2 y3 => K (.exit 2) (Aab A6n ((y0, (), (), y1, ()), (y2, y3, ()))))
def Bnz (N k : Nat) : Aaj Akq := Auy @Aej N k
def Amz : Aac := ⟨[Cdy, Cdz, A20, C6h, (14, .one (.ptr 35)), C6i, Ctr, C0t], [Ctw, B15, wq4, (35, .cells 143 Cid)]⟩
def Bgp : Aac := ⟨C1q, C1i⟩
def B3j : Ab3 := .cons .normal Bgp (.nil)
abbrev Cp8 (R : Type) := Int->d6->Int->Int->d3->d2->d4->Int->Int->Int->Int->Int->Int->(Int->d6->Int->Int->d3->d2->d4->Option R)->Option R
abbrev Aqa := {R : Type} → Nat → Cp8 R
def Adz : Aqa := fun {R} N e f g h i j a b c d m n o l => if ((((List.length a) + (List.length ((b, (c, d)) :: ([] : List (Int × Int × Int))))) * (24 : Nat)) ≤ (70368744177664 : Nat)) then (l e f g h i j (a ++ ((b, (c, d)) :: ([] : List (Int × Int × Int))))) else none
def Auz (Adz : Aqa) (N : Nat) : Aaj Amz := fun R x K => Adz N x.1.2.2.1 x.1.2.2.2.2.2.1 x.1.2.2.2.2.2.2.1 x.1.2.2.2.2.2.2.2.1 x.2.1 x.2.2.1 x.2.2.2.1 x.2.2.2.2.1.1 x.2.2.2.2.1.2.1 x.2.2.2.2.1.2.2.1 x.2.2.2.2.1.2.2.2.1 x.2.2.2.2.1.2.2.2.2.1 x.2.2.2.2.1.2.2.2.2.2.1 (fun y0 y1 y2 y3 y4 y5 y6 => K .normal (Aab Bgp (((), (), y0, (), y1, y2, y3, ()), (y4, y5, y6, ()))))
def B3k (N : Nat) : Aaj Amz := Auz @Adz N
def Am0 : Aac := ⟨[Cdy, Cdz, A20, C6h, (14, .one (.ptr 35)), C6i, Ctr, C0t], [Ctw, B15, wq4, (35, .cells 143 Cid)]⟩
def Bgq : Aac := ⟨[Cu8, Ap3, Clt], C0k⟩
def Bgr : Aac := ⟨C1q, C1i⟩
def B3l : Ab3 := .cons .ret Bgq (.cons .normal Bgr (.nil))
abbrev Cp9 (R : Type) := Int->d6->Int->Int->d3->d2->d4->Int->Int->Int->Int->Int->Int->(Int->Bool->d4->Option R)->(Int->d6->Int->Int->d3->d2->d4->Option R)->Option R
abbrev Ao5 := {R : Type} → Nat → Cp9 R
def Bn0 (Adz : Aqa) : Ao5 := fun {R} N e f g h d b i c n o j l a p m => if ((decide (a ≥ 0)) = true) then (if ((!(Option.getD (Al3 (kt := (.int .i64)) (et := .bool) a d) false)) = true) then (p 0 false ([] : List (Int × Int × Int))) else if ((c == 30) = true) then (Adz N e f g h d b i c n (Option.getD (Al3 (kt := (.int .i64)) (et := (.int .i64)) a b) 0) j l a fun q r s t u v w => m q r s t u v w) else if ((decide (a ≥ 0)) = true) then (Adz N e f g h d b i c (Option.getD (Al3 (kt := (.int .i64)) (et := (.int .i64)) a b) 0) o j l a fun x y z A B C D => m x y z A B C D) else Adz N e f g h d b i c n o j l a fun E F G H I J L => m E F G H I J L) else if ((c == 30) = true) then (Adz N e f g h d b i c n (Option.getD (Al3 (kt := (.int .i64)) (et := (.int .i64)) a b) 0) j l a fun M O P Q S T U => m M O P Q S T U) else if ((decide (a ≥ 0)) = true) then (Adz N e f g h d b i c (Option.getD (Al3 (kt := (.int .i64)) (et := (.int .i64)) a b) 0) o j l a fun V W X Y Z aa ab => m V W X Y Z aa ab) else Adz N e f g h d b i c n o j l a fun ac ad ae af ag ah ai => m ac ad ae af ag ah ai
def Ae4 : Ao5 := @Bn0 @Adz
def Au0 (Ae4 : Ao5) (N : Nat) : Aaj Am0 := fun R x K => Ae4 N x.1.2.2.1 x.1.2.2.2.2.2.1 x.1.2.2.2.2.2.2.1 x.1.2.2.2.2.2.2.2.1 x.2.1 x.2.2.1 x.2.2.2.1 x.2.2.2.2.1.1 x.2.2.2.2.1.2.1 x.2.2.2.2.1.2.2.1 x.2.2.2.2.1.2.2.2.1 x.2.2.2.2.1.2.2.2.2.1 x.2.2.2.2.1.2.2.2.2.2.1 (fun y0 y1 y2 => K .ret (Aab Bgq (((), y0, y1, ()), (y2, ())))) (fun y0 y1 y2 y3 y4 y5 y6 => K .normal (Aab Bgr (((), (), y0, (), y1, y2, y3, ()), (y4, y5, y6, ()))))
def B3m (N : Nat) : Aaj Am0 := Au0 @Ae4 N
def Akr : Aac := ⟨C1q, C1i⟩
def A6o : Aac := ⟨[Cu8, Ap3, Clt], C0k⟩
def A6p : Aac := ⟨[A20, (12, .one (.slf 32))], C0k⟩
def B3n : Ab3 := .cons .ret A6o (.cons (.exit 4) A6p (.nil))
abbrev Bn1 (R : Type) := Int->d6->Int->Int->d3->d2->d4->(Int->Bool->d4->Option R)->(Int->d4->Option R)->Option R
abbrev B3o (R : Type) := Int->d6->Int->Int->d3->d2->d4->Option R
abbrev Asb := {R : Type} → Nat → Nat → Bn1 R
def Bn2 (Ae4 : Ao5) {R : Type} (N : Nat) (rc : B3o R) : Bn1 R := fun d b e a i f c j q => if ((decide (a < e)) = true) then (if (0 ≤ a ∧ a < len b) then (let l := (b.getD a.toNat ((0, (0, 0)), (0, (0, 0)))).1.1; let m := (b.getD a.toNat ((0, (0, 0)), (0, (0, 0)))).1.2.1; let n := (b.getD a.toNat ((0, (0, 0)), (0, (0, 0)))).1.2.2; let g := (b.getD a.toNat ((0, (0, 0)), (0, (0, 0)))).2.1; let o := (b.getD a.toNat ((0, (0, 0)), (0, (0, 0)))).2.2.1; let p := (b.getD a.toNat ((0, (0, 0)), (0, (0, 0)))).2.2.2; let h := (Option.getD (Al3 (kt := (.int .i64)) (et := (.int .i64)) g f) 0); if ((decide (h > 0)) = true) then (if ((((List.length c) + (List.length ((19, (h, 0)) :: ([] : List (Int × Int × Int))))) * (24 : Nat)) ≤ (70368744177664 : Nat)) then (Ae4 N d b e a i f (c ++ ((19, (h, 0)) :: ([] : List (Int × Int × Int)))) l m n g o p (fun r s t => j r s t) fun u v w x y z A => rc u v w (wi (x + 1)) y z A) else none) else Ae4 N d b e a i f c l m n g o p (fun B C D => j B C D) fun E F G H I J L => rc E F G (wi (H + 1)) I J L) else none) else q d c
def Ad0 {R : Type} (N : Nat) : Nat → Bn1 R
 | 0 => fun _ _ _ _ _ _ _ _ _ => none
 | k + 1 => fun a b c d e f g h i => Bn2 @Ae4 N (fun a b c d e f g => Ad0 N k a b c d e f g h i) a b c d e f g h i
def Au1 (Ad0 : Asb) (N k : Nat) : Aaj Akr := fun R x K => Ad0 N k x.1.2.2.1 x.1.2.2.2.2.1 x.1.2.2.2.2.2.1 x.1.2.2.2.2.2.2.1 x.2.1 x.2.2.1 x.2.2.2.1 (fun y0 y1 y2 => K .ret (Aab A6o (((), y0, y1, ()), (y2, ())))) (fun y0 y1 => K (.exit 4) (Aab A6p ((y0, (), ()), (y1, ()))))
def Bn3 (N k : Nat) : Aaj Akr := Au1 @Ad0 N k
def B2c : Aac := ⟨[Cu9], []⟩
def Bgs : Aac := ⟨[Byg, Ajl, C0q], C0k⟩
abbrev C10 (R : Type) := d6->(Int->Bool->d4->Option R)->Option R
abbrev Atr := {R : Type} → Nat → C10 R
def B2d (Afh : At1) (Aej : Asa) (Ad0 : Asb) : Atr := fun {R} N a c => Afh N N a a (len a) 0 ([] : List (Int × Bool)) ([] : List (Int × Int)) fun b e f => Aej N N b 0 b (len b) 0 e f fun d g h i => Ad0 N N g d (len d) 0 h i ([] : List (Int × Int × Int)) (fun j l m => c j l m) fun n o => c n true o
def Ahm : Atr := @B2d @Afh @Aej @Ad0
def Ddx (N : Nat) : Abg B2c [Bgs] := fun R x C => Ahm N x.1.1 (fun y0 y1 y2 => C.1 (((), y0, y1, ()), (y2, ())))
def A3c (Ahm : Atr) (N : Nat) : Go.AX.Aai := Acb [true] [] false 1 0 B2c [Bgs] (fun R x C => Ahm N x.1.1 (fun y0 y1 y2 => C.1 (((), y0, y1, ()), (y2, ()))))
def Cig (N : Nat) : Go.AX.Aai := A3c @Ahm N
def Ddy (N : Nat) : List (Nat × Aci) := [(9, Aaa Al4 (Bs2 N N)), (25, Aaa Akq (Bnz N N)), (60, Aaa Amz (B3k N)), (48, Aaa Am0 (B3m N)), (41, Aaa Akr (Bn3 N N))]
def C11 (N : Nat) : List (Nat × Go.AX.Aai) := []
def Ah5 : Aac := ⟨[Ajk, A2z, Bbb, Bcz, (12, .one (.val .bool)), (130, .one (.slf 35)), (131, .one Aa0), (132, .one Aa0)], [C7v, C1e, (34, .cells 34 [(.val .str), (.slf 39), (.slf 35), (.slf 40), Aa0, Aa0]), C6g, C7l, wq2, wq3, C7m, wq9]⟩
def Ayy : Aac := ⟨[Ajk, A2z, Bbb, Bcz, (12, .one (.val .bool))], Cae⟩
def Bs3 : Ab3 := .cons (.exit 7) Ayy (.nil)
abbrev Bd0 (R : Type) := Int->Bool->Int->Int->(List UInt8)->Int->Int->d0->Int->Bool->(List UInt8)->Int->Int->d4->d5->d4->d1->d5->d1->(Int->Bool->(List UInt8)->Int->Int->d0->Int->Bool->(List UInt8)->Int->Int->d5->d4->d1->d5->d4->d1->Option R)->Option R
abbrev Bs4 (R : Type) := Int->Bool->Int->Int->(List UInt8)->Int->Int->d0->Int->Bool->(List UInt8)->Int->Int->d4->d5->d4->d1->d5->d1->Option R
abbrev Aoi := {R : Type} → Nat → Nat → Bd0 R
def Bd1 {R : Type} (N : Nat) (rc : Bs4 R) : Bd0 R := fun c d e a f g h i j l m n o b p q r s t u => if ((decide (a < e)) = true) then (if (0 ≤ a ∧ a < len b) then (if (((b.getD a.toNat (0, (0, 0))).1 == 24) = true) then (rc c d e (wi (a + 1)) f g h i j l m (wi (n + 1)) o b p q r s t) else rc c d e (wi (a + 1)) f g h i j l m n o b p q r s t) else none) else u c d f g h i j l m n o p q r s b t
def Acs {R : Type} (N : Nat) : Nat → Bd0 R
 | 0 => fun _ _ _ _ _ _ _ _ _ _ _ _ _ _ _ _ _ _ _ _ => none
 | k + 1 => fun a b c d e f g h i j l m n o p q r s t u => Bd1 N (fun a b c d e f g h i j l m n o p q r s t => Acs N k a b c d e f g h i j l m n o p q r s t u) a b c d e f g h i j l m n o p q r s t u
def Aqn (Acs : Aoi) (N k : Nat) : Aaj Ah5 := fun R x K => Acs N k x.1.2.2.2.1 x.1.2.2.2.2.1 x.1.2.2.2.2.2.2.1 x.1.2.2.2.2.2.2.2.1 x.2.1.1 x.2.1.2.2.2.2.1 x.2.1.2.2.2.2.2.1 x.2.2.1.1 x.2.2.1.2.1 x.2.2.1.2.2.1 x.2.2.2.1.1 x.2.2.2.1.2.2.2.2.1 x.2.2.2.1.2.2.2.2.2.1 x.2.2.2.2.1 x.2.2.2.2.2.1 x.2.2.2.2.2.2.1 x.2.2.2.2.2.2.2.1 x.2.2.2.2.2.2.2.2.1 x.2.2.2.2.2.2.2.2.2.1 (fun y0 y1 y2 y3 y4 y5 y6 y7 y8 y9 y10 y11 y12 y13 y14 y15 y16 => K (.exit 7) (Aab Ayy (((), (), (), y0, y1, ()), ((y2, (), (), (), y3, y4, ()), (y5, y6, y7, ()), (y8, (), (), (), y9, y10, ()), y11, y12, y13, y14, y15, y16, ()))))
def Bd2 (N k : Nat) : Aaj Ah5 := Aqn @Acs N k
def Bn4 : Aac := ⟨A21, []⟩
def A6q : Aac := ⟨[Cia, Ajl, Bcy, Cvg], Cic⟩
abbrev Cqa (R : Type) := d0->((List UInt8)->Int->Int->Int->Int->Bool->d5->d4->d1->Option R)->Option R
abbrev Aye := {R : Type} → Nat → Cqa R
def Bn5 (Aag : Adm) (Abk : Aii) (Acl : Aog) (Acm : Aoh) (Ae3 : Ao4) (Ahm : Atr) (Acs : Aoi) : Aye := fun {R} N i b => let d := (wi ((len i) - 4)); if ((0 ≤ d) ∧ (d ≤ (len i))) then (if (((0 :Int) ≤ (0 :Int)) ∧ (0 ≤ d)) then (Aag N 3 (List.drop (0 : Nat) (List.take (Int.toNat d) i)) 0 false fun p q r s => if ((p != 6447617) = true) then (b ([] : List UInt8) 0 0 0 0 false ([] : List (List UInt8 × Bool × List Int)) ([] : List (Int × Int × Int)) ([] : List (Int × Int))) else Abk N q r s fun t u v w => Aag N 2 u v w fun x y z A => Acl N N x 0 ([] : List UInt8) 0 0 y z A t 0 0 ([] : List (List UInt8 × Bool × List Int)) ([] : List (Int × Int × Int)) ([] : List (Int × Int)) ([] : List (List UInt8 × Bool × List Int)) ([] : List (Int × Int × Int)) ([] : List (Int × Int)) (fun B C D E F G H I J => b E F G B C D H I J) fun L M O P Q S T U V W X Y Z aa ab => Aag N 1 P Q S fun ac ad ae af => Acm N N ac 0 L M O ad ae af T U V W X Y Z aa ab fun ag ah ai aj ak al e f j am an ao g l h => Aag N 4 aj ak al fun m a c n => if (n = true) then (b e f j 0 0 false g l h) else if (((wi (c + m)) != (len a)) = true) then (b e f j 0 0 false g l h) else if ((0 ≤ (len a)) ∧ ((len a) ≤ (len a))) then (if ((0 ≤ c) ∧ (c ≤ (len a))) then (Ae3 N (List.drop (Int.toNat c) (List.take (Int.toNat (len a)) a)) fun ap aq => if ((!ap) = true) then (b e f j 0 0 false g l h) else Ahm N aq fun ar au o => Acs N N m au (len o) 0 ag ah ai a c n e f ar o am an ao g h fun av aw be bf bg bh ax bi ay az ba bj bk bl bb bc bd => b ay az ba ax av aw bb bc bd) else none) else none) else none) else none
def Ai1 : Aye := @Bn5 @Aag @Abk @Acl @Acm @Ae3 @Ahm @Acs
def C9n (N : Nat) : Abg Bn4 [A6q] := fun R x C => Ai1 N x.1.1 (fun y0 y1 y2 y3 y4 y5 y6 y7 y8 => C.1 (((y0, (), (), (), y1, y2, ()), y3, y4, y5, ()), (y6, y7, y8, ())))
def Bn6 (Ai1 : Aye) (N : Nat) : Go.AX.Aai := Acb [true] [] false 1 0 Bn4 [A6q] (fun R x C => Ai1 N x.1.1 (fun y0 y1 y2 y3 y4 y5 y6 y7 y8 => C.1 (((y0, (), (), (), y1, y2, ()), y3, y4, y5, ()), (y6, y7, y8, ()))))
def B3p (N : Nat) : Go.AX.Aai := Bn6 @Ai1 N
def C9o (N : Nat) : List (Nat × Aci) := [(36, Aaa Aj6 (Bsp N)), (31, Aaa Ah2 (Bdv N N)), (15, Aaa Ah3 (Bdx N N)), (47, Aaa Ah4 (Bdz N N)), (71, Aaa Ah5 (Bd2 N N))]
def Cqb (N : Nat) : List (Nat × Go.AX.Aai) := [(36, Ar2 N), (94, Bmj N), (35, A27 N), (95, B3g N), (96, Cig N)]
def Ajr : Code := Try.f16.body.getD .skip
def B7f : Code := Try.f45.body.getD .skip
def B3q : Code := Try.f67.body.getD .skip
def Au2 : Code := Try.f87.body.getD .skip
def Aml : Aac := ⟨[Ap3, (27, .one (.val z3)), C0s, (29, .one Aa0)], []⟩
def Ayz : Aac := ⟨Ch0, []⟩
def Bs5 : Ab3 := .cons (.exit 0) Ayz (.nil)
abbrev Bd3 (R : Type) := Int->d5->Int->Int->(Int->Option R)->Option R
abbrev Bs6 (R : Type) := Int->d5->Int->Int->Option R
abbrev A3d := {R : Type} → Nat → Nat → Bd3 R
def A3e {R : Type} (N : Nat) (rc : Bs6 R) : Bd3 R := fun d b c a f => if ((decide (a < c)) = true) then (if (0 ≤ a ∧ a < len b) then (let e := (wi (d + (((List.length (b.getD a.toNat (([] : List UInt8), (false, ([] : List Int)))).2.2) : Nat) : Int))); if ((b.getD a.toNat (([] : List UInt8), (false, ([] : List Int)))).2.1 = true) then (rc (wi (e + (wi (Int.tdiv (wi ((((List.length (b.getD a.toNat (([] : List UInt8), (false, ([] : List Int)))).1) : Nat) : Int) + 2)) 2)))) b c (wi (a + 1))) else rc e b c (wi (a + 1))) else none) else f d
def Age {R : Type} (N : Nat) : Nat → Bd3 R
 | 0 => fun _ _ _ _ _ => none
 | k + 1 => fun a b c d e => A3e N (fun a b c d => Age N k a b c d e) a b c d e
def Bd4 (Age : A3d) (N k : Nat) : Aaj Aml := fun R x K => Age N k x.1.1 x.1.2.1 x.1.2.2.1 x.1.2.2.2.1 (fun y0 => K (.exit 0) (Aab Ayz ((y0, ()), (()))))
def Bd5 (N k : Nat) : Aaj Aml := Bd4 @Age N k
def Bn7 : Aac := ⟨A0u, []⟩
def A6r : Aac := ⟨Ard, []⟩
abbrev Cqc (R : Type) := (List UInt8)->d5->d4->d1->Int->Int->(Bool->Option R)->Option R
abbrev A45 := {R : Type} → Nat → Cqc R
def Bn8 (Age : A3d) : A45 := fun {R} N g b c h d e a => if ((decide ((len c) > 40000)) = true) then (a true) else if ((decide ((len b) > 2000)) = true) then (a true) else if ((decide (d > 200)) = true) then (a true) else if ((decide (e > 20000)) = true) then (a true) else Age N N 0 b (len b) 0 fun f => a (decide (f > 7800))
def Am9 : A45 := @Bn8 @Age
def C9p (N : Nat) : Abg Bn7 [A6r] := fun R x C => Am9 N x.1.1.1 x.1.1.2.1 x.1.1.2.2.1 x.1.1.2.2.2.1 x.1.1.2.2.2.2.1 x.1.1.2.2.2.2.2.1 (fun y0 => C.1 ((y0, ()), (())))
def B3r (Am9 : A45) (N : Nat) : Go.AX.Aai := Acb [true] [] false 1 0 Bn7 [A6r] (fun R x C => Am9 N x.1.1.1 x.1.1.2.1 x.1.1.2.2.1 x.1.1.2.2.2.1 x.1.1.2.2.2.2.1 x.1.1.2.2.2.2.2.1 (fun y0 => C.1 ((y0, ()), (()))))
def B3s (N : Nat) : Go.AX.Aai := B3r @Am9 N
def C9q (N : Nat) : List (Nat × Aci) := [(11, Aaa Aml (Bd5 N N))]
def Cqd (N : Nat) : List (Nat × Go.AX.Aai) := []
def Ai7 : Code := Try.f88.body.getD .skip
def A0g : Code := Try.f104.body.getD .skip
def Ap4 : Code := Try.f115.body.getD .skip
def At2 (N : Nat) : Go.AX.Aai := Bnt 147 5
def Aki : Aac := ⟨[Bge, (1, .one (.val (.int .u8)))], [(0, .cells 147 [(.same .nilptr), (.slf 1)]), C6m]⟩
def An7 : Aac := ⟨[(0, .one (.same .nilif))], C09⟩
abbrev Bmk (R : Type) := Int->d0->(d0->Option R)->Option R
abbrev Amg := {R : Type} → Nat → Bmk R
def Acq : Amg := fun {R} N a b c => if ((((List.length b) + (List.length (a :: ([] : List Int)))) * (1 : Nat)) ≤ (70368744177664 : Nat)) then (c (b ++ (a :: ([] : List Int)))) else none
def Bml (N : Nat) : Abg Aki [An7] := fun R x C => Acq N x.1.2.1 x.2.2.1 (fun y0 => C.1 (((), ()), (((), (), ()), y0, ())))
def At3 (Acq : Amg) (N : Nat) : Go.AX.Aai := Acb [false, true] (List.replicate 32 true) true 2 2 Aki [An7] (fun R x C => Acq N x.1.2.1 x.2.2.1 (fun y0 => C.1 (((), ()), (((), (), ()), y0, ()))))
def A2r (N : Nat) : Go.AX.Aai := At3 @Acq N
def Bmm (N : Nat) : List (Nat × Aci) := []
def A2s (N : Nat) : List (Nat × Go.AX.Aai) := [(122, At2 N)]
def Axl (N : Nat) : Go.AX.Aai := Bns
def Ari : Aac := ⟨[Bge, (1, .one (.val (.int .u8)))], C09⟩
def Amm : Aac := ⟨[(0, .one (.same .nilif))], C09⟩
abbrev Bgt (R : Type) := Int->d0->(d0->Option R)->Option R
abbrev Ait := {R : Type} → Nat → Bgt R
def Aa7 : Ait := fun {R} N a b c => if ((((List.length b) + (List.length (a :: ([] : List Int)))) * (1 : Nat)) ≤ (70368744177664 : Nat)) then (c (b ++ (a :: ([] : List Int)))) else none
def Bgu (N : Nat) : Abg Ari [Amm] := fun R x C => Aa7 N x.1.2.1 x.2.2.1 (fun y0 => C.1 (((), ()), (((), (), ()), y0, ())))
def Arj (Aa7 : Ait) (N : Nat) : Go.AX.Aai := Acb [false, true] (List.replicate 32 true) true 2 2 Ari [Amm] (fun R x C => Aa7 N x.1.2.1 x.2.2.1 (fun y0 => C.1 (((), ()), (((), (), ()), y0, ()))))
def Ay0 (N : Nat) : Go.AX.Aai := Arj @Aa7 N
def Bgv (N : Nat) : List (Nat × Aci) := []
def Ay1 (N : Nat) : List (Nat × Go.AX.Aai) := [(122, At2 N)]
def Aqb : Aac := ⟨[Cd1, Ax9, Bcz, B96], [(32, .cells 147 [(.ptr 32), (.slf 33)]), Clu]⟩
def A6s : Aac := ⟨[(2, .one (.val .str)), Ap3], []⟩
def A6t : Aac := ⟨[Cd1, Ax9], [(32, .cells 147 [(.ptr 32), (.slf 33)]), Clu]⟩
def B3t : Ab3 := .cons .ret A6s (.cons (.exit 0) A6t (.nil))
abbrev Bn9 (R : Type) := (List UInt8)->Int->Int->d0->((List UInt8)->Int->Option R)->((List UInt8)->d0->Option R)->Option R
abbrev B3u (R : Type) := (List UInt8)->Int->Int->d0->Option R
abbrev Bc0 := {R : Type} → Nat → Nat → Bn9 R
def Bc1 (Aa7 : Ait) {R : Type} (N : Nat) (rc : B3u R) : Bn9 R := fun b e a f g h => if ((decide (a < e)) = true) then (if (0 ≤ a ∧ a < len b) then (let c := (((UInt8.toNat (b.getD a.toNat (0 : UInt8))) : Nat) : Int); let d := (Bzm [(10 : UInt8), (9 : UInt8), (42 : UInt8), (34 : UInt8)] c); if ((decide (d ≥ 0)) = true) then (Aa7 N 42 f fun i => if ((0 ≤ d) ∧ (d < 4)) then (Aa7 N (((UInt8.toNat (List.getD [(110 : UInt8), (116 : UInt8), (42 : UInt8), (34 : UInt8)] (Int.toNat d) (0 : UInt8))) : Nat) : Int) i fun j => rc b e (wi (a + 1)) j) else none) else if ((decide (c < 32)) = true) then (g ([] : List UInt8) 3) else if ((decide (c > 126)) = true) then (g ([] : List UInt8) 3) else Aa7 N c f fun l => rc b e (wi (a + 1)) l) else none) else h b f
def Ai2 {R : Type} (N : Nat) : Nat → Bn9 R
 | 0 => fun _ _ _ _ _ _ => none
 | k + 1 => fun a b c d e f => Bc1 @Aa7 N (fun a b c d => Ai2 N k a b c d e f) a b c d e f
def Boa (Ai2 : Bc0) (N k : Nat) : Aaj Aqb := fun R x K => Ai2 N k x.1.1 x.1.2.2.1 x.1.2.2.2.1 x.2.2.1 (fun y0 y1 => K .ret (Aab A6s ((y0, y1, ()), (())))) (fun y0 y1 => K (.exit 0) (Aab A6t ((y0, (), ()), (((), (), ()), y1, ()))))
def Bob (N k : Nat) : Aaj Aqb := Boa @Ai2 N k
def Ark (N : Nat) : Go.AX.Aai := Brl 147 5
def Byj : Aac := ⟨C6p, []⟩
def Bc2 : Aac := ⟨[Cd1, Ajl], []⟩
abbrev Cxy (R : Type) := (List UInt8)->((List UInt8)->Int->Option R)->Option R
abbrev Ao6 := {R : Type} → Nat → Cxy R
def Byk (Acq : Amg) (Ai2 : Bc0) (Aa7 : Ait) : Ao6 := fun {R} N c b => Acq N 34 ([] : List Int) fun d => Ai2 N N c (len c) 0 d (fun e f => b e f) fun g h => if ((decide ((len g) > 100)) = true) then (b ([] : List UInt8) 2) else Aa7 N 34 h fun a => if (((0 : Nat) < (List.length a)) ∧ (((List.length a) ≤ (70368744177664 : Nat)) ∧ ((Awh a) = true))) then (b (Brk a) 0) else none
def Aes : Ao6 := @Byk @Acq @Ai2 @Aa7
def Db7 (N : Nat) : Abg Byj [Bc2] := fun R x C => Aes N x.1.1 (fun y0 y1 => C.1 ((y0, y1, ()), (())))
def Av7 (Aes : Ao6) (N : Nat) : Go.AX.Aai := Acb [true] [] false 1 0 Byj [Bc2] (fun R x C => Aes N x.1.1 (fun y0 y1 => C.1 ((y0, y1, ()), (()))))
def Byl (N : Nat) : Go.AX.Aai := Av7 @Aes N
def Db8 (N : Nat) : List (Nat × Aci) := [(9, Aaa Aqb (Bob N N))]
def Cxz (N : Nat) : List (Nat × Go.AX.Aai) := [(115, Brz 2 Aki (A2r N) (Ay0 N)), (116, Axl N), (117, Ark N)]
def B3v : Code := Try.f105.body.getD .skip
def Boc : Aac := ⟨[], []⟩
def A6u : Aac := ⟨[(0, .agg [(.val .str), Aa0, Aa0, Aa0, (.val .str), Aa0, Aa0, Aa0, (.val .str), Aa0, Aa0, Aa0, (.val .str), Aa0, Aa0, Aa0, (.val .str), Aa0, Aa0, Aa0, (.val .str), Aa0, Aa0, Aa0, (.val .str), Aa0, Aa0, Aa0, (.val .str), Aa0, Aa0, Aa0, (.val .str), Aa0, Aa0, Aa0, (.val .str), Aa0, Aa0, Aa0, (.val .str), Aa0, Aa0, Aa0, (.val .str), Aa0, Aa0, Aa0, (.val .str), Aa0, Aa0, Aa0, (.val .str), Aa0, Aa0, Aa0, (.val .str), Aa0, Aa0, Aa0, (.val .str), Aa0, Aa0, Aa0, (.val .str), Aa0, Aa0, Aa0, (.val .str), Aa0, Aa0, Aa0, (.val .str), Aa0, Aa0, Aa0, (.val .str), Aa0, Aa0, Aa0, (.val .str), Aa0, Aa0, Aa0, (.val .str), Aa0, Aa0, Aa0, (.val .str), Aa0, Aa0, Aa0, (.val .str), Aa0, Aa0, Aa0, (.val .str), Aa0, Aa0, Aa0, (.val .str), Aa0, Aa0, Aa0, (.val .str), Aa0, Aa0, Aa0, (.val .str), Aa0, Aa0, Aa0, (.val .str), Aa0, Aa0, Aa0, (.val .str), Aa0, Aa0, Aa0, (.val .str), Aa0, Aa0, Aa0])], []⟩
abbrev Cqe (R : Type) := ((List UInt8)->Int->Int->Int->(List UInt8)->Int->Int->Int->(List UInt8)->Int->Int->Int->(List UInt8)->Int->Int->Int->(List UInt8)->Int->Int->Int->(List UInt8)->Int->Int->Int->(List UInt8)->Int->Int->Int->(List UInt8)->Int->Int->Int->(List UInt8)->Int->Int->Int->(List UInt8)->Int->Int->Int->(List UInt8)->Int->Int->Int->(List UInt8)->Int->Int->Int->(List UInt8)->Int->Int->Int->(List UInt8)->Int->Int->Int->(List UInt8)->Int->Int->Int->(List UInt8)->Int->Int->Int->(List UInt8)->Int->Int->Int->(List UInt8)->Int->Int->Int->(List UInt8)->Int->Int->Int->(List UInt8)->Int->Int->Int->(List UInt8)->Int->Int->Int->(List UInt8)->Int->Int->Int->(List UInt8)->Int->Int->Int->(List UInt8)->Int->Int->Int->(List UInt8)->Int->Int->Int->(List UInt8)->Int->Int->Int->(List UInt8)->Int->Int->Int->(List UInt8)->Int->Int->Int->(List UInt8)->Int->Int->Int->(List UInt8)->Int->Int->Int->(List UInt8)->Int->Int->Int->Option R)->Option R
abbrev Ao7 := {R : Type} → Nat → Cqe R
def Ad7 : Ao7 := fun {R} N a => a ([] : List UInt8) 0 0 0 ([(110 : UInt8), (117 : UInt8), (109 : UInt8)]) 1 0 1 ([(108 : UInt8), (111 : UInt8), (99 : UInt8), (97 : UInt8), (108 : UInt8)]) 2 0 1 ([(112 : UInt8), (117 : UInt8), (116 : UInt8), (108 : UInt8)]) 2 1 0 ([(97 : UInt8), (100 : UInt8), (100 : UInt8), (114 : UInt8), (108 : UInt8)]) 2 0 1 ([(103 : UInt8), (108 : UInt8), (111 : UInt8), (98 : UInt8), (97 : UInt8), (108 : UInt8)]) 3 0 1 ([(112 : UInt8), (117 : UInt8), (116 : UInt8), (103 : UInt8)]) 3 1 0 ([(97 : UInt8), (100 : UInt8), (100 : UInt8), (114 : UInt8), (103 : UInt8)]) 3 0 1 ([(115 : UInt8), (116 : UInt8), (97 : UInt8), (116 : UInt8), (105 : UInt8), (99 : UInt8)]) 4 0 1 ([(112 : UInt8), (117 : UInt8), (116 : UInt8), (115 : UInt8)]) 4 1 0 ([(97 : UInt8), (100 : UInt8), (100 : UInt8), (114 : UInt8), (115 : UInt8)]) 4 0 1 ([(112 : UInt8), (114 : UInt8), (111 : UInt8), (99 : UInt8)]) 5 0 1 ([(108 : UInt8), (111 : UInt8), (97 : UInt8), (100 : UInt8)]) 0 1 1 ([(115 : UInt8), (116 : UInt8), (111 : UInt8), (114 : UInt8), (101 : UInt8)]) 0 2 0 ([(103 : UInt8), (101 : UInt8), (116 : UInt8), (98 : UInt8)]) 0 2 1 ([(112 : UInt8), (117 : UInt8), (116 : UInt8), (98 : UInt8)]) 0 3 0 ([(98 : UInt8), (105 : UInt8), (110 : UInt8)]) 7 2 1 ([(117 : UInt8), (110 : UInt8)]) 8 1 1 ([(115 : UInt8), (116 : UInt8), (97 : UInt8), (99 : UInt8), (107 : UInt8)]) 2 0 0 ([(108 : UInt8), (97 : UInt8), (98 : UInt8), (101 : UInt8), (108 : UInt8)]) 6 0 0 ([(106 : UInt8), (117 : UInt8), (109 : UInt8), (112 : UInt8)]) 6 0 0 ([(116 : UInt8), (114 : UInt8), (117 : UInt8), (101 : UInt8)]) 6 1 0 ([(102 : UInt8), (97 : UInt8), (108 : UInt8), (115 : UInt8), (101 : UInt8)]) 6 1 0 ([(99 : UInt8), (97 : UInt8), (108 : UInt8), (108 : UInt8)]) 2 0 0 ([(101 : UInt8), (110 : UInt8), (116 : UInt8), (101 : UInt8), (114 : UInt8)]) 5 0 0 ([(114 : UInt8), (101 : UInt8), (116 : UInt8), (117 : UInt8), (114 : UInt8), (110 : UInt8)]) 0 1 0 ([(98 : UInt8), (97 : UInt8), (99 : UInt8), (107 : UInt8)]) 0 0 0 ([(114 : UInt8), (101 : UInt8), (115 : UInt8), (117 : UInt8), (108 : UInt8), (116 : UInt8)]) 6 1 0 ([(116 : UInt8), (97 : UInt8), (107 : UInt8), (101 : UInt8)]) 2 0 0 ([(115 : UInt8), (119 : UInt8), (105 : UInt8), (116 : UInt8), (99 : UInt8), (104 : UInt8)]) 6 1 0 ([(99 : UInt8), (97 : UInt8), (115 : UInt8), (101 : UInt8)]) 1 0 0
def Cqf (N : Nat) : Abg Boc [A6u] := fun R x C => Ad7 N  (fun y0 y1 y2 y3 y4 y5 y6 y7 y8 y9 y10 y11 y12 y13 y14 y15 y16 y17 y18 y19 y20 y21 y22 y23 y24 y25 y26 y27 y28 y29 y30 y31 y32 y33 y34 y35 y36 y37 y38 y39 y40 y41 y42 y43 y44 y45 y46 y47 y48 y49 y50 y51 y52 y53 y54 y55 y56 y57 y58 y59 y60 y61 y62 y63 y64 y65 y66 y67 y68 y69 y70 y71 y72 y73 y74 y75 y76 y77 y78 y79 y80 y81 y82 y83 y84 y85 y86 y87 y88 y89 y90 y91 y92 y93 y94 y95 y96 y97 y98 y99 y100 y101 y102 y103 y104 y105 y106 y107 y108 y109 y110 y111 y112 y113 y114 y115 y116 y117 y118 y119 y120 y121 y122 y123 => C.1 (((y0, y1, y2, y3, y4, y5, y6, y7, y8, y9, y10, y11, y12, y13, y14, y15, y16, y17, y18, y19, y20, y21, y22, y23, y24, y25, y26, y27, y28, y29, y30, y31, y32, y33, y34, y35, y36, y37, y38, y39, y40, y41, y42, y43, y44, y45, y46, y47, y48, y49, y50, y51, y52, y53, y54, y55, y56, y57, y58, y59, y60, y61, y62, y63, y64, y65, y66, y67, y68, y69, y70, y71, y72, y73, y74, y75, y76, y77, y78, y79, y80, y81, y82, y83, y84, y85, y86, y87, y88, y89, y90, y91, y92, y93, y94, y95, y96, y97, y98, y99, y100, y101, y102, y103, y104, y105, y106, y107, y108, y109, y110, y111, y112, y113, y114, y115, y116, y117, y118, y119, y120, y121, y122, y123, ()), ()), (())))
def Au3 (Ad7 : Ao7) (N : Nat) : Go.AX.Aai := Acb [] [] false 0 0 Boc [A6u] (fun R x C => Ad7 N  (fun y0 y1 y2 y3 y4 y5 y6 y7 y8 y9 y10 y11 y12 y13 y14 y15 y16 y17 y18 y19 y20 y21 y22 y23 y24 y25 y26 y27 y28 y29 y30 y31 y32 y33 y34 y35 y36 y37 y38 y39 y40 y41 y42 y43 y44 y45 y46 y47 y48 y49 y50 y51 y52 y53 y54 y55 y56 y57 y58 y59 y60 y61 y62 y63 y64 y65 y66 y67 y68 y69 y70 y71 y72 y73 y74 y75 y76 y77 y78 y79 y80 y81 y82 y83 y84 y85 y86 y87 y88 y89 y90 y91 y92 y93 y94 y95 y96 y97 y98 y99 y100 y101 y102 y103 y104 y105 y106 y107 y108 y109 y110 y111 y112 y113 y114 y115 y116 y117 y118 y119 y120 y121 y122 y123 => C.1 (((y0, y1, y2, y3, y4, y5, y6, y7, y8, y9, y10, y11, y12, y13, y14, y15, y16, y17, y18, y19, y20, y21, y22, y23, y24, y25, y26, y27, y28, y29, y30, y31, y32, y33, y34, y35, y36, y37, y38, y39, y40, y41, y42, y43, y44, y45, y46, y47, y48, y49, y50, y51, y52, y53, y54, y55, y56, y57, y58, y59, y60, y61, y62, y63, y64, y65, y66, y67, y68, y69, y70, y71, y72, y73, y74, y75, y76, y77, y78, y79, y80, y81, y82, y83, y84, y85, y86, y87, y88, y89, y90, y91, y92, y93, y94, y95, y96, y97, y98, y99, y100, y101, y102, y103, y104, y105, y106, y107, y108, y109, y110, y111, y112, y113, y114, y115, y116, y117, y118, y119, y120, y121, y122, y123, ()), ()), (()))))
def Bod (N : Nat) : Go.AX.Aai := Au3 @Ad7 N
def Cqg (N : Nat) : List (Nat × Aci) := []
def B3w (N : Nat) : List (Nat × Go.AX.Aai) := []
def Ay2 : Code := Try.f106.body.getD .skip
def Cih : Code := Try.f119.body.getD .skip
def B2e : Aac := ⟨Ct5, []⟩
def Bgw : Aac := ⟨Ard, []⟩
abbrev C12 (R : Type) := Int->Int->Int->(Bool->Option R)->Option R
abbrev Alv := {R : Type} → Nat → C12 R
def Abv : Alv := fun {R} N a c d b => if ((decide (a ≥ c)) = true) then (b (decide (a ≤ d))) else b false
def C13 (N : Nat) : Abg B2e [Bgw] := fun R x C => Abv N x.1.1 x.1.2.1 x.1.2.2.1 (fun y0 => C.1 ((y0, ()), (())))
def Ats (Abv : Alv) (N : Nat) : Go.AX.Aai := Acb [true, true, true] [] false 3 0 B2e [Bgw] (fun R x C => Abv N x.1.1 x.1.2.1 x.1.2.2.1 (fun y0 => C.1 ((y0, ()), (()))))
def Bgx (N : Nat) : Go.AX.Aai := Ats @Abv N
def C14 (N : Nat) : List (Nat × Aci) := []
def Cii (N : Nat) : List (Nat × Go.AX.Aai) := []
def Aoj : Aac := ⟨[Cln, A76, C6n], [Ct4, C7x]⟩
def A3f : Aac := ⟨[(6, .one (.val .bool))], []⟩
def Bmn : Ab3 := .cons .ret A3f (.nil)
abbrev B7g (R : Type) := Bool->Int->Int->Int->(List UInt8)->d5->d4->d1->Int->Int->(Bool->Option R)->Option R
abbrev Aq0 := {R : Type} → Nat → B7g R
def A8f (Abv : Alv) : Aq0 := fun {R} N b d i c j l m n o e a => if ((d == 24) = true) then (if (b = true) then (Abv N c 0 8 fun f => a f) else a false) else if ((d == 29) = true) then (if (b = true) then (Abv N c 0 1000 fun g => a g) else a false) else if ((d == 30) = true) then (if (b = true) then (Abv N c 1 e fun h => a h) else a false) else if (b = true) then (a (c == 0)) else a false
def Ac0 : Aq0 := @A8f @Abv
def A8g (Ac0 : Aq0) (N : Nat) : Aaj Aoj := fun R x K => Ac0 N x.1.2.2.1 x.2.1.1 x.2.1.2.1 x.2.1.2.2.1 x.2.2.1.1 x.2.2.1.2.1 x.2.2.1.2.2.1 x.2.2.1.2.2.2.1 x.2.2.1.2.2.2.2.1 x.2.2.1.2.2.2.2.2.1 (fun y0 => K .ret (Aab A3f ((y0, ()), (()))))
def Bmo (N : Nat) : Aaj Aoj := A8g @Ac0 N
def B7h : Code := Try.f118.body.getD .skip
def Bs7 : Aac := ⟨Alu, []⟩
def Bae : Aac := ⟨Ard, []⟩
abbrev Cvp (R : Type) := Int->(Bool->Option R)->Option R
abbrev At4 := {R : Type} → Nat → Cvp R
def Bs8 (Abv : Alv) : At4 := fun {R} N a b => Abv N a (-2147483648) 2147483647 fun c => b c
def Ahb : At4 := @Bs8 @Abv
def Dbd (N : Nat) : Abg Bs7 [Bae] := fun R x C => Ahb N x.1.1 (fun y0 => C.1 ((y0, ()), (())))
def Bgy (Ahb : At4) (N : Nat) : Go.AX.Aai := Acb [true] [] false 1 0 Bs7 [Bae] (fun R x C => Ahb N x.1.1 (fun y0 => C.1 ((y0, ()), (()))))
def Bs9 (N : Nat) : Go.AX.Aai := Bgy @Ahb N
def Dbe (N : Nat) : List (Nat × Aci) := []
def Cvq (N : Nat) : List (Nat × Go.AX.Aai) := [(119, Bgx N)]
def Bgz : Aac := ⟨[Bwg, (1, .agg Ch9), C1f], []⟩
def A0z : Aac := ⟨Ard, []⟩
abbrev Cij (R : Type) := Int->Int->Int->(List UInt8)->d5->d4->d1->Int->Int->(List UInt8)->Int->Int->Int->(Bool->Option R)->Option R
abbrev Ap5 := {R : Type} → Nat → Cij R
def Bg0 (Ac0 : Aq0) (Ahb : At4) (Abv : Alv) : Ap5 := fun {R} N e a f g b h i c d E l F G j => if ((l == 0) = true) then (Ac0 N (a == 0) e a f g b h i c d fun m => j m) else if ((l == 1) = true) then (Ahb N a fun n => Ac0 N n e a f g b h i c d fun o => j o) else if ((l == 2) = true) then (Abv N a 0 4000 fun p => Ac0 N p e a f g b h i c d fun q => j q) else if ((l == 3) = true) then (Abv N a 0 199 fun r => Ac0 N r e a f g b h i c d fun s => j s) else if ((l == 4) = true) then (Abv N a 0 (wi ((len b) - 1)) fun t => Ac0 N t e a f g b h i c d fun u => j u) else if ((l == 5) = true) then (Abv N a 1 c fun v => Ac0 N v e a f g b h i c d fun w => j w) else if ((l == 6) = true) then (Abv N a 1 d fun x => Ac0 N x e a f g b h i c d fun y => j y) else if ((l == 7) = true) then (Abv N a 1 17 fun z => Ac0 N z e a f g b h i c d fun A => j A) else if ((l == 8) = true) then (if ((a == 18) = true) then (Ac0 N true e a f g b h i c d fun B => j B) else Ac0 N (a == 19) e a f g b h i c d fun C => j C) else Ac0 N false e a f g b h i c d fun D => j D
def Afi : Ap5 := @Bg0 @Ac0 @Ahb @Abv
def C7y (N : Nat) : Abg Bgz [A0z] := fun R x C => Afi N x.1.1.1 x.1.1.2.1 x.1.1.2.2.1 x.1.2.1.1 x.1.2.1.2.1 x.1.2.1.2.2.1 x.1.2.1.2.2.2.1 x.1.2.1.2.2.2.2.1 x.1.2.1.2.2.2.2.2.1 x.1.2.2.1.1 x.1.2.2.1.2.1 x.1.2.2.1.2.2.1 x.1.2.2.1.2.2.2.1 (fun y0 => C.1 ((y0, ()), (())))
def Ay3 (Afi : Ap5) (N : Nat) : Go.AX.Aai := Acb [true, true, true] [] false 3 0 Bgz [A0z] (fun R x C => Afi N x.1.1.1 x.1.1.2.1 x.1.1.2.2.1 x.1.2.1.1 x.1.2.1.2.1 x.1.2.1.2.2.1 x.1.2.1.2.2.2.1 x.1.2.1.2.2.2.2.1 x.1.2.1.2.2.2.2.2.1 x.1.2.2.1.1 x.1.2.2.1.2.1 x.1.2.2.1.2.2.1 x.1.2.2.1.2.2.2.1 (fun y0 => C.1 ((y0, ()), (()))))
def Bwl (N : Nat) : Go.AX.Aai := Ay3 @Afi N
def C7z (N : Nat) : List (Nat × Aci) := [(42, Aaa Aoj (Bmo N))]
def Cik (N : Nat) : List (Nat × Go.AX.Aai) := [(119, Bgx N), (118, Bs9 N)]
def Aj7 : Aac := ⟨[Alh, (5, .one (.ptr 1000)), (35, .one (.val z4)), (36, .one Aa0), (37, .one Aa0)], [Asr, (1000, .row 133 (.pair .str z2))]⟩
def Ay4 : Aac := ⟨Bbc, []⟩
def Ay5 : Aac := ⟨Cve, A0v⟩
def Bta : Ab3 := .cons .ret Ay4 (.cons (.exit 0) Ay5 (.nil))
abbrev Bd6 (R : Type) := d4->Int->Int->(List UInt8)->d5->d4->d1->Int->Int->(List ((List UInt8 × (Int × (Int × Int)))))->(Bool->Option R)->((List UInt8)->d5->d4->d1->Int->Int->Option R)->Option R
abbrev Btb (R : Type) := d4->Int->Int->(List UInt8)->d5->d4->d1->Int->Int->(List ((List UInt8 × (Int × (Int × Int)))))->Option R
abbrev Asy := {R : Type} → Nat → Nat → Bd6 R
def Bd7 (Afi : Ap5) {R : Type} (N : Nat) (rc : Btb R) : Bd6 R := fun d m b e f g h i j c l n => if ((decide (b < m)) = true) then (if (0 ≤ b ∧ b < len d) then (let a := (d.getD b.toNat (0, (0, 0))).1; if ((decide (a < 1)) = true) then (l false) else if ((decide (a ≥ 31)) = true) then (l false) else if ((0 ≤ a) ∧ (a < 31)) then (if (a < (len c)) then (Afi N a ((d.getD b.toNat (0, (0, 0))).2.1) ((d.getD b.toNat (0, (0, 0))).2.2) e f g h i j ((c.getD a.toNat (([] : List UInt8), (0, (0, 0)))).1) ((c.getD a.toNat (([] : List UInt8), (0, (0, 0)))).2.1) ((c.getD a.toNat (([] : List UInt8), (0, (0, 0)))).2.2.1) ((c.getD a.toNat (([] : List UInt8), (0, (0, 0)))).2.2.2) fun o => if ((!o) = true) then (l false) else rc d m (wi (b + 1)) e f g h i j c) else none) else none) else none) else n e f g h i j
def Aep {R : Type} (N : Nat) : Nat → Bd6 R
 | 0 => fun _ _ _ _ _ _ _ _ _ _ _ _ => none
 | k + 1 => fun a b c d e f g h i j l m => Bd7 @Afi N (fun a b c d e f g h i j => Aep N k a b c d e f g h i j l m) a b c d e f g h i j l m
def Awn (Aep : Asy) (N k : Nat) : Aaj Aj7 := fun R x K => Aep N k x.1.2.2.1 x.1.2.2.2.1 x.1.2.2.2.2.1 x.2.1.1 x.2.1.2.1 x.2.1.2.2.1 x.2.1.2.2.2.1 x.2.1.2.2.2.2.1 x.2.1.2.2.2.2.2.1 x.2.2.1 (fun y0 => K .ret (Aab Ay4 ((y0, ()), (())))) (fun y0 y1 y2 y3 y4 y5 => K (.exit 0) (Aab Ay5 (((), ()), ((y0, y1, y2, y3, y4, y5, ()), ()))))
def Bd8 (N k : Nat) : Aaj Aj7 := Awn @Aep N k
def Asz : Code := Try.f107.body.getD .skip
def Amn : Aac := ⟨[Alh, (2, .one (.slf 33)), (3, .one (.slf 34)), Asq, An6, C0o, B95, Chz], [Asr, Bdt, Bbd]⟩
def Ay6 : Aac := ⟨[Cu8, (3, .one (.slf 33)), Clt], Ch5⟩
def Ay7 : Aac := ⟨[Alh, (2, .one (.slf 33)), (3, .one (.slf 34)), Asq, An6], [Asr, Bdt, Bbd]⟩
def Btc : Ab3 := .cons .ret Ay6 (.cons (.exit 0) Ay7 (.nil))
abbrev Bd9 (R : Type) := Int->Int->d4->Int->Int->(List UInt8)->d5->d4->d1->Int->Int->d0->d0->(Bool->d0->d0->Option R)->(Int->Int->(List UInt8)->d5->d4->d1->Int->Int->d0->d0->Option R)->Option R
abbrev Btd (R : Type) := Int->Int->d4->Int->Int->(List UInt8)->d5->d4->d1->Int->Int->d0->d0->Option R
abbrev A3g := {R : Type} → Nat → Nat → Bd9 R
def Bea {R : Type} (N : Nat) (rc : Btd R) : Bd9 R := fun d f e h b i j l m n o g c p s => if ((decide (b < h)) = true) then (if (0 ≤ b ∧ b < len e) then (let q := (e.getD b.toNat (0, (0, 0))).1; let a := (e.getD b.toNat (0, (0, 0))).2.1; if ((q == 24) = true) then (let r := (wi (d + 1)); if ((a != r) = true) then (p false ([] : List Int) ([] : List Int)) else rc r f e h (wi (b + 1)) i j l m n o g c) else if ((q == 19) = true) then (if (0 ≤ a ∧ a < len c) then (if (((c.getD a.toNat 0) != 0) = true) then (p false ([] : List Int) ([] : List Int)) else if ((d == 0) = true) then (p false ([] : List Int) ([] : List Int)) else if (0 ≤ a ∧ a < len g) then (if (0 ≤ a ∧ a < len c) then (rc d (if (a > f) then a else f) e h (wi (b + 1)) i j l m n o (g.set a.toNat b) (c.set a.toNat d)) else none) else none) else none) else rc d f e h (wi (b + 1)) i j l m n o g c) else none) else s d f i j l m n o g c
def Agw {R : Type} (N : Nat) : Nat → Bd9 R
 | 0 => fun _ _ _ _ _ _ _ _ _ _ _ _ _ _ _ => none
 | k + 1 => fun a b c d e f g h i j l m n o p => Bea N (fun a b c d e f g h i j l m n => Agw N k a b c d e f g h i j l m n o p) a b c d e f g h i j l m n o p
def Beb (Agw : A3g) (N k : Nat) : Aaj Amn := fun R x K => Agw N k x.1.2.2.2.1 x.1.2.2.2.2.1 x.1.2.2.2.2.2.1 x.1.2.2.2.2.2.2.1 x.1.2.2.2.2.2.2.2.1 x.2.1.1 x.2.1.2.1 x.2.1.2.2.1 x.2.1.2.2.2.1 x.2.1.2.2.2.2.1 x.2.1.2.2.2.2.2.1 x.2.2.1 x.2.2.2.1 (fun y0 y1 y2 => K .ret (Aab Ay6 (((), (), y0, ()), (y1, y2, ())))) (fun y0 y1 y2 y3 y4 y5 y6 y7 y8 y9 => K (.exit 0) (Aab Ay7 (((), (), (), y0, y1, ()), ((y2, y3, y4, y5, y6, y7, ()), y8, y9, ()))))
def Bec (N k : Nat) : Aaj Amn := Beb @Agw N k
def Bj1 : Aac := ⟨A0u, []⟩
def A3h : Aac := ⟨[Byg, (1, .one (.slf 33)), C0q], Ch5⟩
abbrev Clw (R : Type) := (List UInt8)->d5->d4->d1->Int->Int->(Bool->d0->d0->Option R)->Option R
abbrev Al5 := {R : Type} → Nat → Clw R
def Bj2 (Agw : A3g) : Al5 := fun {R} N h i b j l d c => let a := (wi (d + 1)); if ((0 ≤ a) ∧ ((a ≤ a) ∧ ((a * 8) ≤ 70368744177664))) then (let e := (List.replicate (Int.toNat a) 0); if ((0 ≤ a) ∧ ((a ≤ a) ∧ ((a * 8) ≤ 70368744177664))) then (Agw N N 0 0 b (len b) 0 h i b j l d e e (fun m n o => c m n o) fun p q t u v w r s f g => if ((p == r) = true) then (c (q == s) f g) else c false f g) else none) else none
def Ac3 : Al5 := @Bj2 @Agw
def C8w (N : Nat) : Abg Bj1 [A3h] := fun R x C => Ac3 N x.1.1.1 x.1.1.2.1 x.1.1.2.2.1 x.1.1.2.2.2.1 x.1.1.2.2.2.2.1 x.1.1.2.2.2.2.2.1 (fun y0 y1 y2 => C.1 (((), (), y0, ()), (y1, y2, ())))
def As0 (Ac3 : Al5) (N : Nat) : Go.AX.Aai := Acb [true] [] false 1 0 Bj1 [A3h] (fun R x C => Ac3 N x.1.1.1 x.1.1.2.1 x.1.1.2.2.1 x.1.1.2.2.2.1 x.1.1.2.2.2.2.1 x.1.1.2.2.2.2.2.1 (fun y0 y1 y2 => C.1 (((), (), y0, ()), (y1, y2, ()))))
def Bj3 (N : Nat) : Go.AX.Aai := As0 @Ac3 N
def C8x (N : Nat) : List (Nat × Aci) := [(9, Aaa Amn (Bec N N))]
def Clx (N : Nat) : List (Nat × Go.AX.Aai) := []
def Ai8 : Code := Try.f108.body.getD .skip
def Aj8 : Aac := ⟨[A5x, Ap3, C0s, (29, .one Aa0)], []⟩
def Ay8 : Aac := ⟨Bbc, []⟩
def Ay9 : Aac := ⟨C03, []⟩
def Bte : Ab3 := .cons .ret Ay8 (.cons (.exit 3) Ay9 (.nil))
abbrev Bed (R : Type) := d4->Int->Int->Int->(Bool->Option R)->(d4->Int->Option R)->Option R
abbrev Btf (R : Type) := d4->Int->Int->Int->Option R
abbrev As1 := {R : Type} → Nat → Nat → Bed R
def A3i {R : Type} (N : Nat) (rc : Btf R) : Bed R := fun a c e d f g => if ((decide (d < e)) = true) then (let b := (wi ((wi (c + 1)) + d)); if ((decide (b ≥ (len a))) = true) then (f false) else if (0 ≤ b ∧ b < len a) then (if (((a.getD b.toNat (0, (0, 0))).1 != 30) = true) then (f false) else rc a c e (wi (d + 1))) else none) else g a c
def Aed {R : Type} (N : Nat) : Nat → Bed R
 | 0 => fun _ _ _ _ _ _ => none
 | k + 1 => fun a b c d e f => A3i N (fun a b c d => Aed N k a b c d e f) a b c d e f
def Awo (Aed : As1) (N k : Nat) : Aaj Aj8 := fun R x K => Aed N k x.1.1 x.1.2.1 x.1.2.2.1 x.1.2.2.2.1 (fun y0 => K .ret (Aab Ay8 ((y0, ()), (())))) (fun y0 y1 => K (.exit 3) (Aab Ay9 ((y0, y1, ()), (()))))
def Bee (N k : Nat) : Aaj Aj8 := Awo @Aed N k
def A8h : Code := Try.f113.body.getD .skip
def Arl : Aac := ⟨[A5x, Ajl, A20, (10, .one (.val .bool))], []⟩
def Bbg : Aac := ⟨Bgf, []⟩
def Bbh : Aac := ⟨[], []⟩
def Bwm : Ab3 := .cons .ret Bbg (.cons .normal Bbh (.nil))
abbrev Cil (R : Type) := d4->Int->Int->Bool->(Bool->Option R)->(Option R)->Option R
abbrev Aza := {R : Type} → Nat → Cil R
def Ag2 : Aza := fun {R} N a b e f c g => if (f = true) then (c true) else if ((e == 29) = true) then (if (0 ≤ b ∧ b < len a) then (c ((a.getD b.toNat (0, (0, 0))).2.2 == 0)) else none) else if ((e == 30) = true) then (let d := (wi (b + 1)); if ((d == (len a)) = true) then (c true) else if (0 ≤ d ∧ d < len a) then (c ((a.getD d.toNat (0, (0, 0))).1 != 30)) else none) else g
def Bg1 (Ag2 : Aza) (N : Nat) : Aaj Arl := fun R x K => Ag2 N x.1.1 x.1.2.1 x.1.2.2.1 x.1.2.2.2.1 (fun y0 => K .ret (Aab Bbg ((y0, ()), (())))) (K .normal (Aab Bbh ((()), (()))))
def Bwn (N : Nat) : Aaj Arl := Bg1 @Ag2 N
def Btg : Aac := ⟨B99, []⟩
def Baf : Aac := ⟨Ard, []⟩
abbrev Cvr (R : Type) := d4->Int->(Bool->Option R)->Option R
abbrev Aok := {R : Type} → Nat → Cvr R
def Bth (Ag2 : Aza) : Aok := fun {R} N d c b => if (0 ≤ c ∧ c < len d) then (let a := (d.getD c.toNat (0, (0, 0))).1; if ((a == 20) = true) then (Ag2 N d c a (a == 20) (fun e => b e) (b false)) else if ((a == 25) = true) then (Ag2 N d c a (a == 25) (fun f => b f) (b false)) else if ((a == 26) = true) then (Ag2 N d c a (a == 26) (fun g => b g) (b false)) else Ag2 N d c a (a == 27) (fun h => b h) (b false)) else none
def Ac2 : Aok := @Bth @Ag2
def Dbf (N : Nat) : Abg Btg [Baf] := fun R x C => Ac2 N x.1.1 x.1.2.1 (fun y0 => C.1 ((y0, ()), (())))
def Awp (Ac2 : Aok) (N : Nat) : Go.AX.Aai := Acb [true, true] [] false 2 0 Btg [Baf] (fun R x C => Ac2 N x.1.1 x.1.2.1 (fun y0 => C.1 ((y0, ()), (()))))
def Bti (N : Nat) : Go.AX.Aai := Awp @Ac2 N
def Dbg (N : Nat) : List (Nat × Aci) := [(12, Aaa Arl (Bwn N))]
def Cvs (N : Nat) : List (Nat × Go.AX.Aai) := []
def Amo : Aac := ⟨[A5x, Ap3, Clt], []⟩
def A8i : Aac := ⟨Bbc, []⟩
def A8j : Aac := ⟨C03, []⟩
def Btj : Ab3 := .cons .ret A8i (.cons .normal A8j (.nil))
abbrev Cd7 (R : Type) := d4->Int->Bool->(Bool->Option R)->(d4->Int->Option R)->Option R
abbrev Aol := {R : Type} → Nat → Cd7 R
def Bef (Ac2 : Aok) : Aol := fun {R} N a b f e c => if (f = true) then (Ac2 N a b fun g => if ((!g) = true) then (e false) else c a b) else let d := (wi (b + 1)); if (0 ≤ d ∧ d < len a) then (if (((a.getD d.toNat (0, (0, 0))).1 == 24) = true) then (Ac2 N a b fun h => if ((!h) = true) then (e false) else c a b) else c a b) else none
def Acn : Aol := @Bef @Ac2
def Awq (Acn : Aol) (N : Nat) : Aaj Amo := fun R x K => Acn N x.1.1 x.1.2.1 x.1.2.2.1 (fun y0 => K .ret (Aab A8i ((y0, ()), (())))) (fun y0 y1 => K .normal (Aab A8j ((y0, y1, ()), (()))))
def Btk (N : Nat) : Aaj Amo := Awq @Acn N
def Ak1 : Aac := ⟨C03, []⟩
def A00 : Aac := ⟨Bbc, []⟩
def A01 : Aac := ⟨C0p, []⟩
def Bwo : Ab3 := .cons .ret A00 (.cons (.exit 0) A01 (.nil))
abbrev Bg2 (R : Type) := d4->Int->(Bool->Option R)->(d4->Option R)->Option R
abbrev Bwp (R : Type) := d4->Int->Option R
abbrev Aue := {R : Type} → Nat → Nat → Bg2 R
def Bg3 (Aed : As1) (Acn : Aol) {R : Type} (N : Nat) (rc : Bwp R) : Bg2 R := fun a b d l => if ((decide (b < (len a))) = true) then (let c := (wi (b + 1)); if (0 ≤ b ∧ b < len a) then (let h := (a.getD b.toNat (0, (0, 0))).1; if ((h == 29) = true) then (if (0 ≤ b ∧ b < len a) then (Aed N N a b ((a.getD b.toNat (0, (0, 0))).2.2) 0 (fun m => d m) fun e g => if (0 ≤ g ∧ g < len e) then (let i := (wi (g + (e.getD g.toNat (0, (0, 0))).2.2)); let f := (wi (i + 1)); if ((!(f == (len e))) = true) then (if (0 ≤ f ∧ f < len e) then (if (((e.getD f.toNat (0, (0, 0))).1 == 30) = true) then (d false) else Acn N e i (f == (len e)) (fun n => d n) fun o p => rc o (wi (p + 1))) else none) else Acn N e i (f == (len e)) (fun q => d q) fun r s => rc r (wi (s + 1))) else none) else none) else if ((h == 30) = true) then (d false) else if ((h == 19) = true) then (if ((c == (len a)) = true) then (d false) else if (0 ≤ c ∧ c < len a) then (let j := (a.getD c.toNat (0, (0, 0))).1; if ((j != 18) = true) then (if (0 ≤ c ∧ c < len a) then (if ((j != 28) = true) then (if (0 ≤ c ∧ c < len a) then (if ((j != 19) = true) then (d false) else Acn N a b (c == (len a)) (fun t => d t) fun u v => rc u (wi (v + 1))) else none) else Acn N a b (c == (len a)) (fun w => d w) fun x y => rc x (wi (y + 1))) else none) else Acn N a b (c == (len a)) (fun z => d z) fun A B => rc A (wi (B + 1))) else none) else Acn N a b (c == (len a)) (fun C => d C) fun D E => rc D (wi (E + 1))) else none) else l a
def Ad6 {R : Type} (N : Nat) : Nat → Bg2 R
 | 0 => fun _ _ _ _ => none
 | k + 1 => fun a b c d => Bg3 @Aed @Acn N (fun a b => Ad6 N k a b c d) a b c d
def Azb (Ad6 : Aue) (N k : Nat) : Aaj Ak1 := fun R x K => Ad6 N k x.1.1 x.1.2.1 (fun y0 => K .ret (Aab A00 ((y0, ()), (())))) (fun y0 => K (.exit 0) (Aab A01 ((y0, ()), (()))))
def Bg4 (N k : Nat) : Aaj Ak1 := Azb @Ad6 N k
def Boe : Aac := ⟨C0p, []⟩
def A6v : Aac := ⟨Ard, []⟩
abbrev Cqh (R : Type) := d4->(Bool->Option R)->Option R
abbrev Asc := {R : Type} → Nat → Cqh R
def Bof (Ad6 : Aue) : Asc := fun {R} N c a => Ad6 N N c 0 (fun d => a d) fun b => if (((len b) == 0) = true) then (a true) else if (((0 :Int) ≤ (0 :Int)) ∧ (0 < (len b))) then (a ((List.getD b (0 : Nat) (0, (0, 0))).1 == 24)) else none
def Agj : Asc := @Bof @Ad6
def C9r (N : Nat) : Abg Boe [A6v] := fun R x C => Agj N x.1.1 (fun y0 => C.1 ((y0, ()), (())))
def A46 (Agj : Asc) (N : Nat) : Go.AX.Aai := Acb [true] [] false 1 0 Boe [A6v] (fun R x C => Agj N x.1.1 (fun y0 => C.1 ((y0, ()), (()))))
def B3x (N : Nat) : Go.AX.Aai := A46 @Agj N
def C9s (N : Nat) : List (Nat × Aci) := [(17, Aaa Aj8 (Bee N N)), (44, Aaa Amo (Btk N)), (5, Aaa Ak1 (Bg4 N N))]
def Cqi (N : Nat) : List (Nat × Go.AX.Aai) := [(113, Bti N)]
def Al0 : Code := Try.f109.body.getD .skip
def A0s : Code := Try.f120.body.getD .skip
def Ai9 : Code := Try.f124.body.getD .skip
def Bwq : Code := Try.f121.body.getD .skip
def Bg5 : Aac := ⟨Alu, []⟩
def A02 : Aac := ⟨Ard, []⟩
abbrev Cim (R : Type) := Int->(Bool->Option R)->Option R
abbrev Auf := {R : Type} → Nat → Cim R
def Bg6 (Ahb : At4) : Auf := fun {R} N a b => Ahb N a fun c => b (!c)
def Ah6 : Auf := @Bg6 @Ahb
def C70 (N : Nat) : Abg Bg5 [A02] := fun R x C => Ah6 N x.1.1 (fun y0 => C.1 ((y0, ()), (())))
def Bg7 (Ah6 : Auf) (N : Nat) : Go.AX.Aai := Acb [true] [] false 1 0 Bg5 [A02] (fun R x C => Ah6 N x.1.1 (fun y0 => C.1 ((y0, ()), (()))))
def Bwr (N : Nat) : Go.AX.Aai := Bg7 @Ah6 N
def C71 (N : Nat) : List (Nat × Aci) := []
def Cin (N : Nat) : List (Nat × Go.AX.Aai) := [(118, Bs9 N)]
def Afz : Aac := ⟨[Ch2, (1, .one (.fn 121)), Avp, Bgg], []⟩
def Ans : Aac := ⟨Ctu, []⟩
def Ant : Aac := ⟨[], []⟩
def A1z : Ab3 := .cons .ret Ans (.cons (.exit 0) Ant (.nil))
abbrev As2 (R : Type) := d0->Int->Int->(Int->Option R)->(Option R)->Option R
abbrev A10 (R : Type) := d0->Int->Int->Option R
abbrev Apc := {R : Type} → Nat → Nat → As2 R
def Apd (Ah6 : Auf) {R : Type} (N : Nat) (rc : A10 R) : As2 R := fun b c a d e => if ((decide (a < c)) = true) then (if (0 ≤ a ∧ a < len b) then (Ah6 N (b.getD a.toNat 0) fun f => if (f = true) then (d a) else rc b c (wi (a + 1))) else none) else e
def Ab0 {R : Type} (N : Nat) : Nat → As2 R
 | 0 => fun _ _ _ _ _ => none
 | k + 1 => fun a b c d e => Apd @Ah6 N (fun a b c => Ab0 N k a b c d e) a b c d e
def As3 (Ab0 : Apc) (N k : Nat) : Aaj Afz := fun R x K => Ab0 N k x.1.1 x.1.2.2.1 x.1.2.2.2.1 (fun y0 => K .ret (Aab Ans ((y0, ()), (())))) (K (.exit 0) (Aab Ant ((()), (()))))
def As4 (N k : Nat) : Aaj Afz := As3 @Ab0 N k
def Au4 : Aac := ⟨[Ch2, (1, .one (.fn 121))], []⟩
def Ape : Aac := ⟨Alu, []⟩
abbrev Bog (R : Type) := d0->(Int->Option R)->Option R
abbrev Am1 := {R : Type} → Nat → Bog R
def Au5 (Ab0 : Apc) : Am1 := fun {R} N a b => Ab0 N N a (len a) 0 (fun c => b c) (b (-1))
def Ae6 : Am1 := @Au5 @Ab0
def Cqj (N : Nat) : Abg Au4 [Ape] := fun R x C => Ae6 N x.1.1 (fun y0 => C.1 ((y0, ()), (())))
def A47 (Ae6 : Am1) (N : Nat) : Go.AX.Aai := Acb [true, true] [] false 2 0 Au4 [Ape] (fun R x C => Ae6 N x.1.1 (fun y0 => C.1 ((y0, ()), (()))))
def A48 (N : Nat) : Go.AX.Aai := A47 @Ae6 N
def Cqk (N : Nat) : List (Nat × Aci) := [(5, Aaa Afz (As4 N N))]
def Boh (N : Nat) : List (Nat × Go.AX.Aai) := [(121, Bwr N)]
def Asn : Aac := ⟨[Ch2, (1, .one (.fn 121))], []⟩
def Am6 : Aac := ⟨Ard, []⟩
abbrev Bi7 (R : Type) := d0->(Bool->Option R)->Option R
abbrev Ahn := {R : Type} → Nat → Bi7 R
def Aso (Ae6 : Am1) : Ahn := fun {R} N a b => Ae6 N a fun c => b (decide (c ≥ 0))
def Abo : Ahn := @Aso @Ae6
def Ck3 (N : Nat) : Abg Asn [Am6] := fun R x C => Abo N x.1.1 (fun y0 => C.1 ((y0, ()), (())))
def An8 (Abo : Ahn) (N : Nat) : Go.AX.Aai := Acb [true, true] [] false 2 0 Asn [Am6] (fun R x C => Abo N x.1.1 (fun y0 => C.1 ((y0, ()), (()))))
def A0t (N : Nat) : Go.AX.Aai := An8 @Abo N
def Ck4 (N : Nat) : List (Nat × Aci) := []
def Bi8 (N : Nat) : List (Nat × Go.AX.Aai) := [(124, A48 N)]
def Ame : Aac := ⟨[Alh, (11, .one (.val z3)), Cts, C0u], A0v⟩
def A03 : Aac := ⟨Bbc, []⟩
def A04 : Aac := ⟨Cve, A0v⟩
def Bws : Ab3 := .cons .ret A03 (.cons (.exit 0) A04 (.nil))
abbrev Bg8 (R : Type) := d5->Int->Int->(List UInt8)->d5->d4->d1->Int->Int->(Bool->Option R)->((List UInt8)->d5->d4->d1->Int->Int->Option R)->Option R
abbrev Bwt (R : Type) := d5->Int->Int->(List UInt8)->d5->d4->d1->Int->Int->Option R
abbrev Azc := {R : Type} → Nat → Nat → Bg8 R
def A6w (Aes : Ao6) (Abo : Ahn) {R : Type} (N : Nat) (rc : Bwt R) : Bg8 R := fun b d a e f g h i j c n => if ((decide (a < d)) = true) then (if (0 ≤ a ∧ a < len b) then (let m := (b.getD a.toNat (([] : List UInt8), (false, ([] : List Int)))).1; let l := (b.getD a.toNat (([] : List UInt8), (false, ([] : List Int)))).2.2; if ((b.getD a.toNat (([] : List UInt8), (false, ([] : List Int)))).2.1 = true) then (Aes N m fun q o => if ((o != 0) = true) then (c false) else if ((decide ((len l) > 0)) = true) then (c false) else rc b d (wi (a + 1)) e f g h i j) else if ((!(m == ([] : List UInt8))) = true) then (c false) else if (((len l) == 0) = true) then (c false) else Abo N l fun p => if (p = true) then (c false) else rc b d (wi (a + 1)) e f g h i j) else none) else n e f g h i j
def Afu {R : Type} (N : Nat) : Nat → Bg8 R
 | 0 => fun _ _ _ _ _ _ _ _ _ _ _ => none
 | k + 1 => fun a b c d e f g h i j l => A6w @Aes @Abo N (fun a b c d e f g h i => Afu N k a b c d e f g h i j l) a b c d e f g h i j l
def A6x (Afu : Azc) (N k : Nat) : Aaj Ame := fun R x K => Afu N k x.1.2.1 x.1.2.2.1 x.1.2.2.2.1 x.2.1.1 x.2.1.2.1 x.2.1.2.2.1 x.2.1.2.2.2.1 x.2.1.2.2.2.2.1 x.2.1.2.2.2.2.2.1 (fun y0 => K .ret (Aab A03 ((y0, ()), (())))) (fun y0 y1 y2 y3 y4 y5 => K (.exit 0) (Aab A04 (((), ()), ((y0, y1, y2, y3, y4, y5, ()), ()))))
def Bg9 (N k : Nat) : Aaj Ame := A6x @Afu N k
def Ali : Aac := ⟨[Alh, (7, .one (.mp 33)), (50, .one (.val z1)), (51, .one Aa0), Ctr], [Asr, (33, .amap 144 (.int .i64) .bool)]⟩
def Azd : Aac := ⟨Bbc, []⟩
def Aze : Aac := ⟨[], []⟩
def Btl : Ab3 := .cons .ret Azd (.cons (.exit 2) Aze (.nil))
abbrev Beg (R : Type) := d1->Int->Int->(List UInt8)->d5->d4->d1->Int->Int->d3->(Bool->Option R)->(Option R)->Option R
abbrev Btm (R : Type) := d1->Int->Int->(List UInt8)->d5->d4->d1->Int->Int->d3->Option R
abbrev Awr := {R : Type} → Nat → Nat → Beg R
def A3j (Abv : Alv) {R : Type} (N : Nat) (rc : Btm R) : Beg R := fun b e a h i j l f m g c n => if ((decide (a < e)) = true) then (if (0 ≤ a ∧ a < len b) then (let d := (b.getD a.toNat (0, 0)).1; Abv N d 1 199 fun o => if ((!o) = true) then (c false) else if ((Option.getD (Al3 (kt := (.int .i64)) (et := .bool) d g) false) = true) then (c false) else Abv N ((b.getD a.toNat (0, 0)).2) 1 f fun p => if ((!p) = true) then (c false) else rc b e (wi (a + 1)) h i j l f m (Asx (kt := (.int .i64)) (et := .bool) d true g)) else none) else n
def Aey {R : Type} (N : Nat) : Nat → Beg R
 | 0 => fun _ _ _ _ _ _ _ _ _ _ _ _ => none
 | k + 1 => fun a b c d e f g h i j l m => A3j @Abv N (fun a b c d e f g h i j => Aey N k a b c d e f g h i j l m) a b c d e f g h i j l m
def A3k (Aey : Awr) (N k : Nat) : Aaj Ali := fun R x K => Aey N k x.1.2.2.1 x.1.2.2.2.1 x.1.2.2.2.2.1 x.2.1.1 x.2.1.2.1 x.2.1.2.2.1 x.2.1.2.2.2.1 x.2.1.2.2.2.2.1 x.2.1.2.2.2.2.2.1 x.2.2.1 (fun y0 => K .ret (Aab Azd ((y0, ()), (())))) (K (.exit 2) (Aab Aze ((()), (()))))
def Beh (N k : Nat) : Aaj Ali := A3k @Aey N k
def Boi : Aac := ⟨A0u, []⟩
def A6y : Aac := ⟨Ard, []⟩
abbrev Cql (R : Type) := (List UInt8)->d5->d4->d1->Int->Int->(Bool->Option R)->Option R
abbrev Asd := {R : Type} → Nat → Cql R
def Boj (Afu : Azc) (Aey : Awr) : Asd := fun {R} N d a e f g h b => Afu N N a (len a) 0 d a e f g h (fun i => b i) fun j l m c n o => Aey N N c (len c) 0 j l m c n o ([] : List (Int × Bool)) (fun p => b p) (b true)
def Agk : Asd := @Boj @Afu @Aey
def C9t (N : Nat) : Abg Boi [A6y] := fun R x C => Agk N x.1.1.1 x.1.1.2.1 x.1.1.2.2.1 x.1.1.2.2.2.1 x.1.1.2.2.2.2.1 x.1.1.2.2.2.2.2.1 (fun y0 => C.1 ((y0, ()), (())))
def A49 (Agk : Asd) (N : Nat) : Go.AX.Aai := Acb [true] [] false 1 0 Boi [A6y] (fun R x C => Agk N x.1.1.1 x.1.1.2.1 x.1.1.2.2.1 x.1.1.2.2.2.1 x.1.1.2.2.2.2.1 x.1.1.2.2.2.2.2.1 (fun y0 => C.1 ((y0, ()), (()))))
def B3y (N : Nat) : Go.AX.Aai := A49 @Agk N
def C9u (N : Nat) : List (Nat × Aci) := [(5, Aaa Ame (Bg9 N N)), (27, Aaa Ali (Beh N N))]
def Cqm (N : Nat) : List (Nat × Go.AX.Aai) := [(104, Byl N), (120, A0t N), (119, Bgx N)]
def A5a : Code := Try.f54.body.getD .skip
def Aqo : Aac := ⟨[Alh, Are, Cvf], A22⟩
def A8k : Aac := ⟨Ch1, []⟩
def A8l : Aac := ⟨[], []⟩
def Btn : Ab3 := .cons .ret A8k (.cons .normal A8l (.nil))
abbrev Cd8 (R : Type) := Int->Bool->Int->Int->Int->(Int->Option R)->(Option R)->Option R
abbrev Aws := {R : Type} → Nat → Cd8 R
def Af0 : Aws := fun {R} N b c g d e a f => if (c = true) then (a d) else if ((b == 30) = true) then (a e) else f
def Bei (Af0 : Aws) (N : Nat) : Aaj Aqo := fun R x K => Af0 N x.1.2.1 x.1.2.2.1 x.2.1.1 x.2.1.2.1 x.2.1.2.2.1 (fun y0 => K .ret (Aab A8k ((y0, ()), (())))) (K .normal (Aab A8l ((()), (()))))
def Bto (N : Nat) : Aaj Aqo := Bei @Af0 N
def Bok : Aac := ⟨Ct2, []⟩
def A6z : Aac := ⟨Alu, []⟩
abbrev Cqn (R : Type) := Int->Int->Int->(Int->Option R)->Option R
abbrev Afv := {R : Type} → Nat → Cqn R
def Bol (Af0 : Aws) : Afv := fun {R} N a c d b => if ((a == 20) = true) then (Af0 N a (a == 20) a c d (fun e => b e) (b 0)) else if ((a == 21) = true) then (Af0 N a (a == 21) a c d (fun f => b f) (b 0)) else if ((a == 22) = true) then (Af0 N a (a == 22) a c d (fun g => b g) (b 0)) else if ((a == 27) = true) then (Af0 N a (a == 27) a c d (fun h => b h) (b 0)) else Af0 N a (a == 29) a c d (fun i => b i) (b 0)
def Aa3 : Afv := @Bol @Af0
def C9v (N : Nat) : Abg Bok [A6z] := fun R x C => Aa3 N x.1.1.1 x.1.1.2.1 x.1.1.2.2.1 (fun y0 => C.1 ((y0, ()), (())))
def Aj2 (Aa3 : Afv) (N : Nat) : Go.AX.Aai := Acb [true] [] false 1 0 Bok [A6z] (fun R x C => Aa3 N x.1.1.1 x.1.1.2.1 x.1.1.2.2.1 (fun y0 => C.1 ((y0, ()), (()))))
def A5b (N : Nat) : Go.AX.Aai := Aj2 @Aa3 N
def C9w (N : Nat) : List (Nat × Aci) := [(14, Aaa Aqo (Bto N))]
def Cqo (N : Nat) : List (Nat × Go.AX.Aai) := []
def Amp : Aac := ⟨[(8, .one (.slf 32)), (9, .one (.slf 33)), B96, (13, .one (.ptr 34)), C6j, C0v, C0w], [Clv, Bdt, Ch7]⟩
def A8m : Aac := ⟨Bbc, []⟩
def A8n : Aac := ⟨[(8, .one (.slf 32)), (9, .one (.slf 33)), B96, C6j, C0v, C0w], Ch5⟩
def Btp : Ab3 := .cons .ret A8m (.cons .normal A8n (.nil))
abbrev Cd9 (R : Type) := Int->d4->Int->Int->d0->d0->Int->Int->Int->(Bool->Option R)->(Int->d4->Int->Int->d0->d0->Option R)->Option R
abbrev Aom := {R : Type} → Nat → Cd9 R
def Bej (Aa3 : Afv) : Aom := fun {R} N d e f g b c j l m h i => Aa3 N j l m fun a => if ((decide (a > 0)) = true) then (if (0 ≤ a ∧ a < len c) then (if (((c.getD a.toNat 0) != d) = true) then (h false) else if (0 ≤ a ∧ a < len b) then (if (((b.getD a.toNat 0) == 0) = true) then (h false) else i d e f g b c) else none) else none) else i d e f g b c
def Aez : Aom := @Bej @Aa3
def Awt (Aez : Aom) (N : Nat) : Aaj Amp := fun R x K => Aez N x.1.2.2.1 x.1.2.2.2.2.1 x.1.2.2.2.2.2.1 x.1.2.2.2.2.2.2.1 x.2.1 x.2.2.1 x.2.2.2.1.1 x.2.2.2.1.2.1 x.2.2.2.1.2.2.1 (fun y0 => K .ret (Aab A8m ((y0, ()), (())))) (fun y0 y1 y2 y3 y4 y5 => K .normal (Aab A8n (((), (), y0, y1, y2, y3, ()), (y4, y5, ()))))
def Btq (N : Nat) : Aaj Amp := Awt @Aez N
def Aj9 : Aac := ⟨[(8, .one (.slf 32)), (9, .one (.slf 33)), B96, C6j, C0v, C0w], Ch5⟩
def Azf : Aac := ⟨Bbc, []⟩
def Azg : Aac := ⟨[], []⟩
def Btr : Ab3 := .cons .ret Azf (.cons (.exit 2) Azg (.nil))
abbrev Bek (R : Type) := Int->d4->Int->Int->d0->d0->(Bool->Option R)->(Option R)->Option R
abbrev Bts (R : Type) := Int->d4->Int->Int->d0->d0->Option R
abbrev As5 := {R : Type} → Nat → Nat → Bek R
def Bel (Aez : Aom) {R : Type} (N : Nat) (rc : Bts R) : Bek R := fun j b c a f g h l => if ((decide (a < c)) = true) then (if (0 ≤ a ∧ a < len b) then (let d := (b.getD a.toNat (0, (0, 0))).1; let e := (b.getD a.toNat (0, (0, 0))).2.1; let i := (b.getD a.toNat (0, (0, 0))).2.2; if ((d == 24) = true) then (Aez N e b c a f g d e i (fun m => h m) fun n o p q r s => rc n o p (wi (q + 1)) r s) else Aez N j b c a f g d e i (fun t => h t) fun u v w x y z => rc u v w (wi (x + 1)) y z) else none) else l
def Aee {R : Type} (N : Nat) : Nat → Bek R
 | 0 => fun _ _ _ _ _ _ _ _ => none
 | k + 1 => fun a b c d e f g h => Bel @Aez N (fun a b c d e f => Aee N k a b c d e f g h) a b c d e f g h
def Awu (Aee : As5) (N k : Nat) : Aaj Aj9 := fun R x K => Aee N k x.1.2.2.1 x.1.2.2.2.1 x.1.2.2.2.2.1 x.1.2.2.2.2.2.1 x.2.1 x.2.2.1 (fun y0 => K .ret (Aab Azf ((y0, ()), (())))) (K (.exit 2) (Aab Azg ((()), (()))))
def Bem (N k : Nat) : Aaj Aj9 := Awu @Aee N k
def Bom : Aac := ⟨A0u, []⟩
def A60 : Aac := ⟨Ard, []⟩
abbrev Cqp (R : Type) := (List UInt8)->d5->d4->d1->Int->Int->(Bool->Option R)->Option R
abbrev A5c := {R : Type} → Nat → Cqp R
def Bon (Aes : Ao6) (Ad7 : Ao7) (Aep : Asy) (Ac3 : Al5) (Agj : Asc) (Agk : Asd) (Aee : As5) : A5c := fun {R} N d m c n e f a => Aes N d fun y0 o => if ((o != 0) = true) then (a false) else if ((decide (e < 0)) = true) then (a false) else if ((decide (f < 0)) = true) then (a false) else Ad7 N fun p q r s t u v w x y z A B C D E F G H I J L M O P Q S T U V W X Y Z aa ab ac ad ae af ag ah ai aj ak al am an ao ap aq ar au av aw ax ay az ba bb bc bd be bf bg bh bi bj bk bl bm bn bo bp bq br bs bt bu bv bw bx bz ca cb cc cd ce cf cg ch ci cj ck cl cm cn co cp cq cr cs ct cu cv cw cx cy cz da db dc dd de df dg dh di dj dk dl dm dn dp => Aep N N c (len c) 0 d m c n e f ((p, (q, (r, s))) :: ((t, (u, (v, w))) :: ((x, (y, (z, A))) :: ((B, (C, (D, E))) :: ((F, (G, (H, I))) :: ((J, (L, (M, O))) :: ((P, (Q, (S, T))) :: ((U, (V, (W, X))) :: ((Y, (Z, (aa, ab))) :: ((ac, (ad, (ae, af))) :: ((ag, (ah, (ai, aj))) :: ((ak, (al, (am, an))) :: ((ao, (ap, (aq, ar))) :: ((au, (av, (aw, ax))) :: ((ay, (az, (ba, bb))) :: ((bc, (bd, (be, bf))) :: ((bg, (bh, (bi, bj))) :: ((bk, (bl, (bm, bn))) :: ((bo, (bp, (bq, br))) :: ((bs, (bt, (bu, bv))) :: ((bw, (bx, (bz, ca))) :: ((cb, (cc, (cd, ce))) :: ((cf, (cg, (ch, ci))) :: ((cj, (ck, (cl, cm))) :: ((cn, (co, (cp, cq))) :: ((cr, (cs, (ct, cu))) :: ((cv, (cw, (cx, cy))) :: ((cz, (da, (db, dc))) :: ((dd, (de, (df, dg))) :: ((dh, (di, (dj, dk))) :: ((dl, (dm, (dn, dp))) :: ([] : List (List UInt8 × Int × Int × Int))))))))))))))))))))))))))))))))) (fun dq => a dq) fun g h b i j l => Ac3 N g h b i j l fun dr ds dt => if ((!dr) = true) then (a false) else Agj N b fun du => if ((!du) = true) then (a false) else Agk N g h b i j l fun dv => if ((!dv) = true) then (a false) else Aee N N 0 b (len b) 0 ds dt (fun dw => a dw) (a true)
def Ana : A5c := @Bon @Aes @Ad7 @Aep @Ac3 @Agj @Agk @Aee
def C9x (N : Nat) : Abg Bom [A60] := fun R x C => Ana N x.1.1.1 x.1.1.2.1 x.1.1.2.2.1 x.1.1.2.2.2.1 x.1.1.2.2.2.2.1 x.1.1.2.2.2.2.2.1 (fun y0 => C.1 ((y0, ()), (())))
def B3z (Ana : A5c) (N : Nat) : Go.AX.Aai := Acb [true] [] false 1 0 Bom [A60] (fun R x C => Ana N x.1.1.1 x.1.1.2.1 x.1.1.2.2.1 x.1.1.2.2.2.1 x.1.1.2.2.2.2.1 x.1.1.2.2.2.2.2.1 (fun y0 => C.1 ((y0, ()), (()))))
def B30 (N : Nat) : Go.AX.Aai := B3z @Ana N
def C9y (N : Nat) : List (Nat × Aci) := [(13, Aaa Aj7 (Bd8 N N)), (40, Aaa Amp (Btq N)), (33, Aaa Aj9 (Bem N N))]
def Cqq (N : Nat) : List (Nat × Go.AX.Aai) := [(104, Byl N), (105, Bod N), (106, Bwl N), (107, Bj3 N), (108, B3x N), (109, B3y N), (54, A5b N)]
def Arm : Code := Try.f89.body.getD .skip
def At5 : Code := Try.f110.body.getD .skip
def Aq1 : Aac := ⟨[Ajl, Cvg, Ax9, A2z, Bcz, (11, .one (.val .bool))], C1o⟩
def Ben : Aac := ⟨[C6o], []⟩
def Beo : Aac := ⟨[Ajl, Ax9, A2z], C1o⟩
def Bzn : Ab3 := .cons .ret Ben (.cons .normal Beo (.nil))
abbrev Cly (R : Type) := Int->Bool->Int->Bool->Int->Int->Int->(List UInt8)->Int->Int->Int->(Bool->Option R)->(Int->Int->Int->Int->(List UInt8)->Int->Int->Int->Option R)->Option R
abbrev As6 := {R : Type} → Nat → Cly R
def Bj4 (Abv : Alv) : As6 := fun {R} N b m l n c a d e f g h j i => if (n = true) then (Abv N a 2 (wi (b - 1)) fun o => if ((!o) = true) then (j false) else i b c a d e f g h) else if ((l == 4) = true) then (if ((decide (a < 2)) = true) then (j false) else i b c a d e f g h) else if ((l == 23) = true) then (Abv N a 2 (wi (b - 3)) fun p => if ((!p) = true) then (j false) else i b c a d e f g h) else if ((l == 18) = true) then (if ((!m) = true) then (if ((decide (a > (wi ((wi (b + 2000)) + 2)))) = true) then (j false) else i b c a d e f g h) else i b c a d e f g h) else i b c a d e f g h
def Ahx : As6 := @Bj4 @Abv
def Bag (Ahx : As6) (N : Nat) : Aaj Aq1 := fun R x K => Ahx N x.1.1 x.1.2.1 x.1.2.2.2.2.1 x.1.2.2.2.2.2.1 x.2.1.1 x.2.1.2.1 x.2.1.2.2.1 x.2.2.1.1 x.2.2.1.2.1 x.2.2.1.2.2.1 x.2.2.1.2.2.2.1 (fun y0 => K .ret (Aab Ben ((y0, ()), (())))) (fun y0 y1 y2 y3 y4 y5 y6 y7 => K .normal (Aab Beo ((y0, (), (), ()), ((y1, y2, y3, ()), (y4, y5, y6, y7, ()), ()))))
def Bzo (N : Nat) : Aaj Aq1 := Bag @Ahx N
def Ap6 : Aac := ⟨[Ajl, Ax9, A2z], C1o⟩
def Bbi : Aac := ⟨[C6o], []⟩
def Bwu : Ab3 := .cons .ret Bbi (.nil)
abbrev Cio (R : Type) := Int->Int->Int->Int->(List UInt8)->Int->Int->Int->(Bool->Option R)->Option R
abbrev Aug := {R : Type} → Nat → Cio R
def Agq : Aug := fun {R} N b c e f g h d i a => if ((c == 24) = true) then (a true) else a (decide ((wi (b - d)) ≥ 2))
def A61 (Agq : Aug) (N : Nat) : Aaj Ap6 := fun R x K => Agq N x.1.1 x.2.1.1 x.2.1.2.1 x.2.1.2.2.1 x.2.2.1.1 x.2.2.1.2.1 x.2.2.1.2.2.1 x.2.2.1.2.2.2.1 (fun y0 => K .ret (Aab Bbi ((y0, ()), (()))))
def Bwv (N : Nat) : Aaj Ap6 := A61 @Agq N
def Btt : Aac := ⟨[Bwg, Ajl, C1f, Cvg], []⟩
def Bah : Aac := ⟨Ard, []⟩
abbrev Cvt (R : Type) := Int->Int->Int->Int->(List UInt8)->Int->Int->Int->Bool->(Bool->Option R)->Option R
abbrev A11 := {R : Type} → Nat → Cvt R
def Btu (Ahx : As6) (Agq : Aug) : A11 := fun {R} N a c d e f g h i j b => if ((a == 2) = true) then (Ahx N e j a (a == 2) a c d f g h i (fun l => b l) fun m n o p q r s t => Agq N m n o p q r s t fun u => b u) else Ahx N e j a (a == 3) a c d f g h i (fun v => b v) fun w x y z A B C D => Agq N w x y z A B C D fun E => b E
def Aiu : A11 := @Btu @Ahx @Agq
def Dbh (N : Nat) : Abg Btt [Bah] := fun R x C => Aiu N x.1.1.1 x.1.1.2.1 x.1.1.2.2.1 x.1.2.1 x.1.2.2.1.1 x.1.2.2.1.2.1 x.1.2.2.1.2.2.1 x.1.2.2.1.2.2.2.1 x.1.2.2.2.1 (fun y0 => C.1 ((y0, ()), (())))
def Btv (Aiu : A11) (N : Nat) : Go.AX.Aai := Acb [true, true, true, true] [] false 4 0 Btt [Bah] (fun R x C => Aiu N x.1.1.1 x.1.1.2.1 x.1.1.2.2.1 x.1.2.1 x.1.2.2.1.1 x.1.2.2.1.2.1 x.1.2.2.1.2.2.1 x.1.2.2.1.2.2.2.1 x.1.2.2.2.1 (fun y0 => C.1 ((y0, ()), (()))))
def B7i (N : Nat) : Go.AX.Aai := Btv @Aiu N
def Dbi (N : Nat) : List (Nat × Aci) := [(8, Aaa Aq1 (Bzo N)), (30, Aaa Ap6 (Bwv N))]
def Cvu (N : Nat) : List (Nat × Go.AX.Aai) := [(119, Bgx N)]
def Ase : Code := Try.f111.body.getD .skip
def Aon : Aac := ⟨Cls, A22⟩
def A8o : Aac := ⟨[An6], []⟩
def Btw : Ab3 := .cons .ret A8o (.nil)
abbrev Cea (R : Type) := Int->Int->Int->(Int->Option R)->Option R
abbrev As7 := {R : Type} → Nat → Cea R
def Af1 : As7 := fun {R} N c a d b => b (wi (a + 1))
def A3l (Af1 : As7) (N : Nat) : Aaj Aon := fun R x K => Af1 N x.2.1.1 x.2.1.2.1 x.2.1.2.2.1 (fun y0 => K .ret (Aab A8o ((y0, ()), (()))))
def Btx (N : Nat) : Aaj Aon := A3l @Af1 N
def Aoo : Aac := ⟨[Ajl, (5, .one (.ptr 32))], [(32, .cells 132 C1b)]⟩
def A8p : Aac := ⟨[An6], []⟩
def Bty : Ab3 := .cons .ret A8p (.nil)
abbrev Ceb (R : Type) := Int->(List UInt8)->Int->Int->Int->(Int->Option R)->Option R
abbrev As8 := {R : Type} → Nat → Ceb R
def Agf : As8 := fun {R} N a e f b c d => d (wi ((wi (a - b)) + c))
def A3m (Agf : As8) (N : Nat) : Aaj Aoo := fun R x K => Agf N x.1.1 x.2.1.1 x.2.1.2.1 x.2.1.2.2.1 x.2.1.2.2.2.1 (fun y0 => K .ret (Aab A8p ((y0, ()), (()))))
def Btz (N : Nat) : Aaj Aoo := A3m @Agf N
def Boo : Aac := ⟨[Bwg, Ajl, C1f], []⟩
def A62 : Aac := ⟨Alu, []⟩
abbrev Cqr (R : Type) := Int->Int->Int->Int->(List UInt8)->Int->Int->Int->(Int->Option R)->Option R
abbrev Ayf := {R : Type} → Nat → Cqr R
def Bop (Af1 : As7) (Agf : As8) : Ayf := fun {R} N a c d e f g h i b => if ((a == 18) = true) then (b c) else if ((a == 24) = true) then (b (wi (2 + d))) else if ((a == 23) = true) then (Af1 N a c d fun j => b j) else if ((a == 28) = true) then (Af1 N a c d fun l => b l) else Agf N e f g h i fun m => b m
def Aie : Ayf := @Bop @Af1 @Agf
def C9z (N : Nat) : Abg Boo [A62] := fun R x C => Aie N x.1.1.1 x.1.1.2.1 x.1.1.2.2.1 x.1.2.1 x.1.2.2.1.1 x.1.2.2.1.2.1 x.1.2.2.1.2.2.1 x.1.2.2.1.2.2.2.1 (fun y0 => C.1 ((y0, ()), (())))
def Boq (Aie : Ayf) (N : Nat) : Go.AX.Aai := Acb [true, true, true] [] false 3 0 Boo [A62] (fun R x C => Aie N x.1.1.1 x.1.1.2.1 x.1.1.2.2.1 x.1.2.1 x.1.2.2.1.1 x.1.2.2.1.2.1 x.1.2.2.1.2.2.1 x.1.2.2.1.2.2.2.1 (fun y0 => C.1 ((y0, ()), (()))))
def B31 (N : Nat) : Go.AX.Aai := Boq @Aie N
def C90 (N : Nat) : List (Nat × Aci) := [(16, Aaa Aon (Btx N)), (18, Aaa Aoo (Btz N))]
def Cqs (N : Nat) : List (Nat × Go.AX.Aai) := []
def Au6 : Code := Try.f112.body.getD .skip
def Anu : Aac := ⟨B99, []⟩
def A05 : Aac := ⟨Ctv, []⟩
def Bww : Ab3 := .cons (.exit 0) A05 (.nil)
abbrev Bha (R : Type) := d4->Int->(Int->Option R)->Option R
abbrev Bwx (R : Type) := d4->Int->Option R
abbrev A63 := {R : Type} → Nat → Nat → Bha R
def Bhb {R : Type} (N : Nat) (rc : Bwx R) : Bha R := fun b a c => if (0 ≤ a ∧ a < len b) then (if (((b.getD a.toNat (0, (0, 0))).1 == 19) = true) then (rc b (wi (a + 1))) else c a) else none
def Ahh {R : Type} (N : Nat) : Nat → Bha R
 | 0 => fun _ _ _ => none
 | k + 1 => fun a b c => Bhb N (fun a b => Ahh N k a b c) a b c
def Bhc (Ahh : A63) (N k : Nat) : Aaj Anu := fun R x K => Ahh N k x.1.1 x.1.2.1 (fun y0 => K (.exit 0) (Aab A05 ((y0, ()), (()))))
def Bhd (N k : Nat) : Aaj Anu := Bhc @Ahh N k
def Bor : Aac := ⟨B99, []⟩
def A64 : Aac := ⟨Alu, []⟩
abbrev Cqt (R : Type) := d4->Int->(Int->Option R)->Option R
abbrev Ayg := {R : Type} → Nat → Cqt R
def Bos (Ahh : A63) : Ayg := fun {R} N a b c => Ahh N N a b fun d => c d
def Afk : Ayg := @Bos @Ahh
def C91 (N : Nat) : Abg Bor [A64] := fun R x C => Afk N x.1.1 x.1.2.1 (fun y0 => C.1 ((y0, ()), (())))
def Bot (Afk : Ayg) (N : Nat) : Go.AX.Aai := Acb [true, true] [] false 2 0 Bor [A64] (fun R x C => Afk N x.1.1 x.1.2.1 (fun y0 => C.1 ((y0, ()), (()))))
def B32 (N : Nat) : Go.AX.Aai := Bot @Afk N
def C92 (N : Nat) : List (Nat × Aci) := [(3, Aaa Anu (Bhd N N))]
def Cqu (N : Nat) : List (Nat × Go.AX.Aai) := []
def Ak2 : Aac := ⟨[Alh, (3, .one (.ptr 1000)), Cva, Avp, (19, .one (.val z4)), Chz, (21, .one Aa0)], [Asr, Bdt, (1000, .row 133 (.pair .str z2))]⟩
def Avu : Aac := ⟨Bbc, []⟩
def Avv : Aac := ⟨[], []⟩
def Bmp : Ab3 := .cons .ret Avu (.cons (.exit 0) Avv (.nil))
abbrev A8q (R : Type) := Int->d4->Int->Int->(List UInt8)->d5->d4->d1->Int->Int->d0->(List ((List UInt8 × (Int × (Int × Int)))))->(Bool->Option R)->(Option R)->Option R
abbrev At6 (R : Type) := Int->d4->Int->Int->(List UInt8)->d5->d4->d1->Int->Int->d0->(List ((List UInt8 × (Int × (Int × Int)))))->Option R
abbrev Azh := {R : Type} → Nat → Nat → A8q R
def A8r (Aiu : A11) (Aie : Ayf) (Aa3 : Afv) (Afk : Ayg) (Ac2 : Aok) {R : Type} (N : Nat) (rc : At6 R) : A8q R := fun s e g c h i a j l m f d n L => if ((decide (c < g)) = true) then (if (0 ≤ c ∧ c < len e) then (let b := (e.getD c.toNat (0, (0, 0))).1; let q := (e.getD c.toNat (0, (0, 0))).2.1; let r := (e.getD c.toNat (0, (0, 0))).2.2; if ((0 ≤ b) ∧ (b < 31)) then (if (b < (len d)) then (let t := (d.getD b.toNat (([] : List UInt8), (0, (0, 0)))).1; let u := (d.getD b.toNat (([] : List UInt8), (0, (0, 0)))).2.1; let v := (d.getD b.toNat (([] : List UInt8), (0, (0, 0)))).2.2.1; let w := (d.getD b.toNat (([] : List UInt8), (0, (0, 0)))).2.2.2; if ((decide (c > 0)) = true) then (let D := (wi (c - 1)); if (0 ≤ D ∧ D < len a) then (Aiu N b q r s t u v w ((a.getD D.toNat (0, (0, 0))).1 == 19) fun M => if ((!M) = true) then (n false) else if ((0 ≤ b) ∧ (b < 31)) then (if (b < (len d)) then (Aie N b q r s t u v w fun o => if ((decide (o < 2)) = true) then (n false) else if ((decide (o > 4000)) = true) then (n false) else Aa3 N b q r fun x => if ((decide (x > 0)) = true) then (if (0 ≤ x ∧ x < len f) then (Afk N a (f.getD x.toNat 0) fun E => if (0 ≤ E ∧ E < len a) then (if ((!(((a.getD E.toNat (0, (0, 0))).1 == 28) == (b == 27))) = true) then (n false) else if ((b != 19) = true) then (Ac2 N a c fun O => if ((!O) = true) then (let y := (wi (c + 1)); if ((decide (y < (len a))) = true) then (Afk N a y fun F => if (0 ≤ F ∧ F < len a) then (if (((a.getD F.toNat (0, (0, 0))).1 == 28) = true) then (n false) else rc o e g y h i a j l m f d) else none) else rc o e g y h i a j l m f d) else rc o e g (wi (c + 1)) h i a j l m f d) else rc o e g (wi (c + 1)) h i a j l m f d) else none) else none) else if ((b != 19) = true) then (Ac2 N a c fun P => if ((!P) = true) then (let z := (wi (c + 1)); if ((decide (z < (len a))) = true) then (Afk N a z fun G => if (0 ≤ G ∧ G < len a) then (if (((a.getD G.toNat (0, (0, 0))).1 == 28) = true) then (n false) else rc o e g z h i a j l m f d) else none) else rc o e g z h i a j l m f d) else rc o e g (wi (c + 1)) h i a j l m f d) else rc o e g (wi (c + 1)) h i a j l m f d) else none) else none) else none) else Aiu N b q r s t u v w false fun Q => if ((!Q) = true) then (n false) else if ((0 ≤ b) ∧ (b < 31)) then (if (b < (len d)) then (Aie N b q r s t u v w fun p => if ((decide (p < 2)) = true) then (n false) else if ((decide (p > 4000)) = true) then (n false) else Aa3 N b q r fun A => if ((decide (A > 0)) = true) then (if (0 ≤ A ∧ A < len f) then (Afk N a (f.getD A.toNat 0) fun H => if (0 ≤ H ∧ H < len a) then (if ((!(((a.getD H.toNat (0, (0, 0))).1 == 28) == (b == 27))) = true) then (n false) else if ((b != 19) = true) then (Ac2 N a c fun S => if ((!S) = true) then (let B := (wi (c + 1)); if ((decide (B < (len a))) = true) then (Afk N a B fun I => if (0 ≤ I ∧ I < len a) then (if (((a.getD I.toNat (0, (0, 0))).1 == 28) = true) then (n false) else rc p e g B h i a j l m f d) else none) else rc p e g B h i a j l m f d) else rc p e g (wi (c + 1)) h i a j l m f d) else rc p e g (wi (c + 1)) h i a j l m f d) else none) else none) else if ((b != 19) = true) then (Ac2 N a c fun T => if ((!T) = true) then (let C := (wi (c + 1)); if ((decide (C < (len a))) = true) then (Afk N a C fun J => if (0 ≤ J ∧ J < len a) then (if (((a.getD J.toNat (0, (0, 0))).1 == 28) = true) then (n false) else rc p e g C h i a j l m f d) else none) else rc p e g C h i a j l m f d) else rc p e g (wi (c + 1)) h i a j l m f d) else rc p e g (wi (c + 1)) h i a j l m f d) else none) else none) else none) else none) else none) else L
def Ae2 {R : Type} (N : Nat) : Nat → A8q R
 | 0 => fun _ _ _ _ _ _ _ _ _ _ _ _ _ _ => none
 | k + 1 => fun a b c d e f g h i j l m n o => A8r @Aiu @Aie @Aa3 @Afk @Ac2 N (fun a b c d e f g h i j l m => Ae2 N k a b c d e f g h i j l m n o) a b c d e f g h i j l m n o
def A8s (Ae2 : Azh) (N k : Nat) : Aaj Ak2 := fun R x K => Ae2 N k x.1.2.2.2.1 x.1.2.2.2.2.1 x.1.2.2.2.2.2.1 x.1.2.2.2.2.2.2.1 x.2.1.1 x.2.1.2.1 x.2.1.2.2.1 x.2.1.2.2.2.1 x.2.1.2.2.2.2.1 x.2.1.2.2.2.2.2.1 x.2.2.1 x.2.2.2.1 (fun y0 => K .ret (Aab Avu ((y0, ()), (())))) (K (.exit 0) (Aab Avv ((()), (()))))
def A8t (N k : Nat) : Aaj Ak2 := A8s @Ae2 N k
def Bhe : Aac := ⟨A0u, []⟩
def A06 : Aac := ⟨Ard, []⟩
abbrev Cip (R : Type) := (List UInt8)->d5->d4->d1->Int->Int->(Bool->Option R)->Option R
abbrev Azi := {R : Type} → Nat → Cip R
def Bhf (Ad7 : Ao7) (Ac3 : Al5) (Ae2 : Azh) : Azi := fun {R} N b c a d e f g => Ad7 N fun h i j l m n o p q r s t u v w x y z A B C D E F G H I J L M O P Q S T U V W X Y Z aa ab ac ad ae af ag ah ai aj ak al am an ao ap aq ar au av aw ax ay az ba bb bc bd be bf bg bh bi bj bk bl bm bn bo bp bq br bs bt bu bv bw bx bz ca cb cc cd ce cf cg ch ci cj ck cl cm cn co cp cq cr cs ct cu cv cw cx cy cz da db dc dd de df dg dh => Ac3 N b c a d e f fun dk di dl => Ae2 N N 0 a (len a) 0 b c a d e f di ((h, (i, (j, l))) :: ((m, (n, (o, p))) :: ((q, (r, (s, t))) :: ((u, (v, (w, x))) :: ((y, (z, (A, B))) :: ((C, (D, (E, F))) :: ((G, (H, (I, J))) :: ((L, (M, (O, P))) :: ((Q, (S, (T, U))) :: ((V, (W, (X, Y))) :: ((Z, (aa, (ab, ac))) :: ((ad, (ae, (af, ag))) :: ((ah, (ai, (aj, ak))) :: ((al, (am, (an, ao))) :: ((ap, (aq, (ar, au))) :: ((av, (aw, (ax, ay))) :: ((az, (ba, (bb, bc))) :: ((bd, (be, (bf, bg))) :: ((bh, (bi, (bj, bk))) :: ((bl, (bm, (bn, bo))) :: ((bp, (bq, (br, bs))) :: ((bt, (bu, (bv, bw))) :: ((bx, (bz, (ca, cb))) :: ((cc, (cd, (ce, cf))) :: ((cg, (ch, (ci, cj))) :: ((ck, (cl, (cm, cn))) :: ((co, (cp, (cq, cr))) :: ((cs, (ct, (cu, cv))) :: ((cw, (cx, (cy, cz))) :: ((da, (db, (dc, dd))) :: ((de, (df, (dg, dh))) :: ([] : List (List UInt8 × Int × Int × Int))))))))))))))))))))))))))))))))) (fun dj => g dj) (g true)
def Aks : Azi := @Bhf @Ad7 @Ac3 @Ae2
def C72 (N : Nat) : Abg Bhe [A06] := fun R x C => Aks N x.1.1.1 x.1.1.2.1 x.1.1.2.2.1 x.1.1.2.2.2.1 x.1.1.2.2.2.2.1 x.1.1.2.2.2.2.2.1 (fun y0 => C.1 ((y0, ()), (())))
def Bwy (Aks : Azi) (N : Nat) : Go.AX.Aai := Acb [true] [] false 1 0 Bhe [A06] (fun R x C => Aks N x.1.1.1 x.1.1.2.1 x.1.1.2.2.1 x.1.1.2.2.2.1 x.1.1.2.2.2.2.1 x.1.1.2.2.2.2.2.1 (fun y0 => C.1 ((y0, ()), (()))))
def Bwz (N : Nat) : Go.AX.Aai := Bwy @Aks N
def C73 (N : Nat) : List (Nat × Aci) := [(11, Aaa Ak2 (A8t N N))]
def Ciq (N : Nat) : List (Nat × Go.AX.Aai) := [(105, Bod N), (107, Bj3 N), (110, B7i N), (111, B31 N), (54, A5b N), (112, B32 N), (113, Bti N)]
def Bou : Aac := ⟨A0u, []⟩
def A65 : Aac := ⟨Alu, []⟩
abbrev Cqv (R : Type) := (List UInt8)->d5->d4->d1->Int->Int->(Int->Option R)->Option R
abbrev Asf := {R : Type} → Nat → Cqv R
def Bov (Am9 : A45) (Ana : A5c) (Aks : Azi) : Asf := fun {R} N b c d e f g a => Am9 N b c d e f g fun h => if (h = true) then (a 2) else Ana N b c d e f g fun i => if ((!i) = true) then (a 60) else Aks N b c d e f g fun j => if ((!j) = true) then (a 61) else a 0
def Agl : Asf := @Bov @Am9 @Ana @Aks
def C93 (N : Nat) : Abg Bou [A65] := fun R x C => Agl N x.1.1.1 x.1.1.2.1 x.1.1.2.2.1 x.1.1.2.2.2.1 x.1.1.2.2.2.2.1 x.1.1.2.2.2.2.2.1 (fun y0 => C.1 ((y0, ()), (())))
def Bc3 (Agl : Asf) (N : Nat) : Go.AX.Aai := Acb [true] [] false 1 0 Bou [A65] (fun R x C => Agl N x.1.1.1 x.1.1.2.1 x.1.1.2.2.1 x.1.1.2.2.2.1 x.1.1.2.2.2.2.1 x.1.1.2.2.2.2.2.1 (fun y0 => C.1 ((y0, ()), (()))))
def Bow (N : Nat) : Go.AX.Aai := Bc3 @Agl N
def C94 (N : Nat) : List (Nat × Aci) := []
def Cqw (N : Nat) : List (Nat × Go.AX.Aai) := [(87, B3s N), (88, B30 N), (89, Bwz N)]
def Arb : Code := Try.f68.body.getD .skip
def Awv : Code := Try.f90.body.getD .skip
def Apf : Aac := ⟨[(3, .one (.mp 32)), (7, .one (.val z4)), Bgg, A20], C00⟩
def A3n : Aac := ⟨[(3, .one (.mp 32))], C00⟩
def Bzp : Ab3 := .cons (.exit 0) A3n (.nil)
abbrev Bj5 (R : Type) := d4->Int->Int->d2->(d2->Option R)->Option R
abbrev Bzq (R : Type) := d4->Int->Int->d2->Option R
abbrev Bai := {R : Type} → Nat → Nat → Bj5 R
def Bj6 {R : Type} (N : Nat) (rc : Bzq R) : Bj5 R := fun b c a d e => if ((decide (a < c)) = true) then (if (0 ≤ a ∧ a < len b) then (if (((b.getD a.toNat (0, (0, 0))).1 == 19) = true) then (rc b c (wi (a + 1)) (Asx (kt := (.int .i64)) (et := (.int .i64)) (b.getD a.toNat (0, (0, 0))).2.1 a d)) else rc b c (wi (a + 1)) d) else none) else e d
def Aij {R : Type} (N : Nat) : Nat → Bj5 R
 | 0 => fun _ _ _ _ _ => none
 | k + 1 => fun a b c d e => Bj6 N (fun a b c d => Aij N k a b c d e) a b c d e
def Bj7 (Aij : Bai) (N k : Nat) : Aaj Apf := fun R x K => Aij N k x.1.2.1 x.1.2.2.1 x.1.2.2.2.1 x.2.1 (fun y0 => K (.exit 0) (Aab A3n (((), ()), (y0, ()))))
def Bj8 (N k : Nat) : Aaj Apf := Bj7 @Aij N k
def Bt0 : Aac := ⟨C0p, []⟩
def Baj : Aac := ⟨[(0, .one (.mp 32))], C00⟩
abbrev Cvv (R : Type) := d4->(d2->Option R)->Option R
abbrev Aww := {R : Type} → Nat → Cvv R
def Bt1 (Aij : Bai) : Aww := fun {R} N a b => Aij N N a (len a) 0 ([] : List (Int × Int)) fun c => b c
def Ajo : Aww := @Bt1 @Aij
def Dbj (N : Nat) : Abg Bt0 [Baj] := fun R x C => Ajo N x.1.1 (fun y0 => C.1 (((), ()), (y0, ())))
def Bhg (Ajo : Aww) (N : Nat) : Go.AX.Aai := Acb [true] [] false 1 0 Bt0 [Baj] (fun R x C => Ajo N x.1.1 (fun y0 => C.1 (((), ()), (y0, ()))))
def B7j (N : Nat) : Go.AX.Aai := Bhg @Ajo N
def Dbk (N : Nat) : List (Nat × Aci) := [(7, Aaa Apf (Bj8 N N))]
def Cvw (N : Nat) : List (Nat × Go.AX.Aai) := []
def Ajs : Code := Try.f91.body.getD .skip
def Am2 : Aac := ⟨[A5x, Clm, Ax9, Clo, (17, .one (.val z4)), (18, .one Aa0), B95], C1r⟩
def A66 : Aac := ⟨[A5x, Clm, Ax9, Clo], C1r⟩
def B33 : Ab3 := .cons (.exit 0) A66 (.nil)
abbrev Box (R : Type) := d4->d4->Int->Int->d2->Int->d0->d0->d0->(d4->d2->Int->d0->d0->d0->Option R)->Option R
abbrev B34 (R : Type) := d4->d4->Int->Int->d2->Int->d0->d0->d0->Option R
abbrev Ayh := {R : Type} → Nat → Nat → Box R
def Boy (Aa3 : Afv) (Ac1 : Aod) {R : Type} (N : Nat) (rc : B34 R) : Box R := fun d b e a f g c h i m => if ((decide (a < e)) = true) then (if (0 ≤ a ∧ a < len b) then (let l := (b.getD a.toNat (0, (0, 0))).1; let j := (b.getD a.toNat (0, (0, 0))).2.1; Aa3 N l j ((b.getD a.toNat (0, (0, 0))).2.2) fun n => if ((n == 0) = true) then (Ac1 N j fun o => if (0 ≤ a ∧ a < len c) then (rc d b e (wi (a + 1)) f g (c.set a.toNat o) h i) else none) else if ((l == 30) = true) then (Ac1 N j fun p => if (0 ≤ a ∧ a < len c) then (rc d b e (wi (a + 1)) f g (c.set a.toNat p) h i) else none) else rc d b e (wi (a + 1)) f g c h i) else none) else m d f g c h i
def Agm {R : Type} (N : Nat) : Nat → Box R
 | 0 => fun _ _ _ _ _ _ _ _ _ _ => none
 | k + 1 => fun a b c d e f g h i j => Boy @Aa3 @Ac1 N (fun a b c d e f g h i => Agm N k a b c d e f g h i j) a b c d e f g h i j
def A5d (Agm : Ayh) (N k : Nat) : Aaj Am2 := fun R x K => Agm N k x.1.1 x.1.2.2.2.2.1 x.1.2.2.2.2.2.1 x.1.2.2.2.2.2.2.1 x.2.1 x.2.2.1.2.2.1 x.2.2.2.1 x.2.2.2.2.1 x.2.2.2.2.2.1 (fun y0 y1 y2 y3 y4 y5 => K (.exit 0) (Aab A66 ((y0, (), (), (), ()), (y1, ((), (), y2, ()), y3, y4, y5, ()))))
def Boz (N k : Nat) : Aaj Am2 := A5d @Agm N k
def Au7 : Code := Try.f114.body.getD .skip
def B7k : Code := Try.f60.body.getD .skip
def Bt2 : Aac := ⟨Alu, []⟩
def Bak : Aac := ⟨Alu, []⟩
abbrev Cvx (R : Type) := Int->(Int->Option R)->Option R
abbrev Aop := {R : Type} → Nat → Cvx R
def Ad3 : Aop := fun {R} N a b => if ((0 ≤ a) ∧ (a < 4)) then (b (List.getD [0, 1, 2, 4] (Int.toNat a) 0)) else none
def Cvy (N : Nat) : Abg Bt2 [Bak] := fun R x C => Ad3 N x.1.1 (fun y0 => C.1 ((y0, ()), (())))
def Awx (Ad3 : Aop) (N : Nat) : Go.AX.Aai := Acb [true] [] false 1 0 Bt2 [Bak] (fun R x C => Ad3 N x.1.1 (fun y0 => C.1 ((y0, ()), (()))))
def Bhh (N : Nat) : Go.AX.Aai := Awx @Ad3 N
def Cvz (N : Nat) : List (Nat × Aci) := []
def B7l (N : Nat) : List (Nat × Go.AX.Aai) := []
def Anv : Aac := ⟨[Cty, Ax9, (5, .one (.ptr 33)), (10, .one (.val z4)), B96, Cts], [C05, (33, .cells 63 [(.slf 36), Asp, Aa0]), Bbd, A77, Bbe]⟩
def A07 : Aac := ⟨[Ax9, (5, .one (.ptr 33))], [C05, (33, .cells 63 [(.slf 36), Asp, Aa0]), Bbd, A77, Bbe]⟩
def Bw0 : Ab3 := .cons (.exit 0) A07 (.nil)
abbrev Bhi (R : Type) := d0->d4->Int->Int->Int->d0->Int->d0->d0->d0->(Int->d0->Int->d0->d0->d0->Option R)->Option R
abbrev Bw1 (R : Type) := d0->d4->Int->Int->Int->d0->Int->d0->d0->d0->Option R
abbrev A67 := {R : Type} → Nat → Nat → Bhi R
def Bhj (Ad3 : Aop) (Ab2 : Aky) {R : Type} (N : Nat) (rc : Bw1 R) : Bhi R := fun c d f a g h b i j e m => if ((decide (a < f)) = true) then (if (0 ≤ a ∧ a < len d) then (let l := (d.getD a.toNat (0, (0, 0))).1; if ((((List.length e) + (List.length (b :: ([] : List Int)))) * (8 : Nat)) ≤ (70368744177664 : Nat)) then (if ((l != 19) = true) then (if (0 ≤ a ∧ a < len c) then (Ad3 N (c.getD a.toNat 0) fun n => Ab2 N l fun o => rc c d f (wi (a + 1)) g h (wi (b + (wi ((wi (1 + n)) + o)))) i j (e ++ (b :: ([] : List Int)))) else none) else rc c d f (wi (a + 1)) g h b i j (e ++ (b :: ([] : List Int)))) else none) else none) else m g h b i j e
def Ahi {R : Type} (N : Nat) : Nat → Bhi R
 | 0 => fun _ _ _ _ _ _ _ _ _ _ _ => none
 | k + 1 => fun a b c d e f g h i j l => Bhj @Ad3 @Ab2 N (fun a b c d e f g h i j => Ahi N k a b c d e f g h i j l) a b c d e f g h i j l
def Bhk (Ahi : A67) (N k : Nat) : Aaj Anv := fun R x K => Ahi N k x.1.1 x.1.2.2.2.1 x.1.2.2.2.2.1 x.1.2.2.2.2.2.1 x.2.1.2.2.1 x.2.2.1.2.1 x.2.2.1.2.2.1 x.2.2.2.1 x.2.2.2.2.1 x.2.2.2.2.2.1 (fun y0 y1 y2 y3 y4 y5 => K (.exit 0) (Aab A07 (((), (), ()), (((), (), y0, ()), ((), y1, y2, ()), y3, y4, y5, ()))))
def Bhl (N k : Nat) : Aaj Anv := Bhk @Ahi N k
def Bo0 : Aac := ⟨[A5x, Cty], []⟩
def A68 : Aac := ⟨[(0, .agg [(.slf 32), Asp, Aa0])], [Clv]⟩
abbrev Cqx (R : Type) := d4->d0->(d0->Int->d0->Option R)->Option R
abbrev Asg := {R : Type} → Nat → Cqx R
def Bo1 (Ahi : A67) : Asg := fun {R} N a b c => Ahi N N b a (len a) 0 0 b 0 ([] : List Int) ([] : List Int) ([] : List Int) fun g d e h i f => c d e f
def Agv : Asg := @Bo1 @Ahi
def C95 (N : Nat) : Abg Bo0 [A68] := fun R x C => Agv N x.1.1 x.1.2.1 (fun y0 y1 y2 => C.1 ((((), y0, y1, ()), ()), (y2, ())))
def A5e (Agv : Asg) (N : Nat) : Go.AX.Aai := Acb [true, true] [] false 2 0 Bo0 [A68] (fun R x C => Agv N x.1.1 x.1.2.1 (fun y0 y1 y2 => C.1 ((((), y0, y1, ()), ()), (y2, ()))))
def B35 (N : Nat) : Go.AX.Aai := A5e @Agv N
def C96 (N : Nat) : List (Nat × Aci) := [(7, Aaa Anv (Bhl N N))]
def Cqy (N : Nat) : List (Nat × Go.AX.Aai) := [(60, Bhh N), (37, A78 N)]
def Bqq : Code := Try.f92.body.getD .skip
def Bbj : Aac := ⟨[(0, .agg [Asp, Asp, Aa0]), Byh, Bcy], []⟩
def Axm : Aac := ⟨Alu, []⟩
abbrev Cam (R : Type) := d0->d0->Int->d4->Int->(Int->Option R)->Option R
abbrev Ah7 := {R : Type} → Nat → Cam R
def Bbk (Ad3 : Aop) (Ab2 : Aky) : Ah7 := fun {R} N b c h d a e => if (0 ≤ a ∧ a < len b) then (if (0 ≤ a ∧ a < len c) then (Ad3 N (c.getD a.toNat 0) fun f => if (0 ≤ a ∧ a < len d) then (Ab2 N ((d.getD a.toNat (0, (0, 0))).1) fun g => e (wi ((wi ((wi ((b.getD a.toNat 0) + 1)) + f)) + g))) else none) else none) else none
def Abb : Ah7 := @Bbk @Ad3 @Ab2
def C5q (N : Nat) : Abg Bbj [Axm] := fun R x C => Abb N x.1.1.1 x.1.1.2.1 x.1.1.2.2.1 x.1.2.1 x.1.2.2.1 (fun y0 => C.1 ((y0, ()), (())))
def Ank (Abb : Ah7) (N : Nat) : Go.AX.Aai := Acb [true, true, true] [] false 3 0 Bbj [Axm] (fun R x C => Abb N x.1.1.1 x.1.1.2.1 x.1.1.2.2.1 x.1.2.1 x.1.2.2.1 (fun y0 => C.1 ((y0, ()), (()))))
def Bbl (N : Nat) : Go.AX.Aai := Ank @Abb N
def C5r (N : Nat) : List (Nat × Aci) := []
def Can (N : Nat) : List (Nat × Go.AX.Aai) := [(60, Bhh N), (37, A78 N)]
def Al6 : Aac := ⟨[A5x, Clm, Ax9, (5, .one Asp), Cd0, Cvh, (10, .one (.slf 34)), (45, .one (.val z4)), (46, .one Aa0), (47, .one Aa0)], [B97, C06, C1c, Bbd, A77, Bbe, Bjz]⟩
def A3o : Aac := ⟨[A5x, Clm, Ax9, Cd0, Cvh, (10, .one (.slf 34))], [B97, C06, C1c, Bbd, A77, Bbe, Bjz]⟩
def Bzr : Ab3 := .cons (.exit 4) A3o (.nil)
abbrev Bj9 (R : Type) := d4->d0->Bool->d4->Int->Int->d2->Int->d0->Int->d0->d0->d0->d0->(d4->Bool->d2->Int->d0->Int->d0->d0->d0->d0->Option R)->Option R
abbrev Bzs (R : Type) := d4->d0->Bool->d4->Int->Int->d2->Int->d0->Int->d0->d0->d0->d0->Option R
abbrev Av8 := {R : Type} → Nat → Nat → Bj9 R
def Bka (Aa3 : Afv) (Abb : Ah7) (Ac1 : Aod) {R : Type} (N : Nat) (rc : Bzs R) : Bj9 R := fun d e o b j a f l g h i m n c t => if ((decide (a < j)) = true) then (if (0 ≤ a ∧ a < len b) then (let q := (b.getD a.toNat (0, (0, 0))).1; let r := (b.getD a.toNat (0, (0, 0))).2.1; Aa3 N q r ((b.getD a.toNat (0, (0, 0))).2.2) fun u => if ((decide (u > 0)) = true) then (if ((q != 30) = true) then (let p := (Option.getD (Al3 (kt := (.int .i64)) (et := (.int .i64)) r f) 0); if (0 ≤ p ∧ p < len c) then (Abb N c g h d a fun v => Ac1 N (wi ((c.getD p.toNat 0) - v)) fun s => if (0 ≤ a ∧ a < len e) then (if ((decide (s > (e.getD a.toNat 0))) = true) then (if (0 ≤ a ∧ a < len i) then (rc d e true b j (wi (a + 1)) f l g h (i.set a.toNat s) m n c) else none) else rc d e o b j (wi (a + 1)) f l g h i m n c) else none) else none) else rc d e o b j (wi (a + 1)) f l g h i m n c) else rc d e o b j (wi (a + 1)) f l g h i m n c) else none) else t d o f l g h i m n c
def Afr {R : Type} (N : Nat) : Nat → Bj9 R
 | 0 => fun _ _ _ _ _ _ _ _ _ _ _ _ _ _ _ => none
 | k + 1 => fun a b c d e f g h i j l m n o p => Bka @Aa3 @Abb @Ac1 N (fun a b c d e f g h i j l m n o => Afr N k a b c d e f g h i j l m n o p) a b c d e f g h i j l m n o p
def A12 (Afr : Av8) (N k : Nat) : Aaj Al6 := fun R x K => Afr N k x.1.1 x.1.2.2.2.1 x.1.2.2.2.2.2.1 x.1.2.2.2.2.2.2.2.1 x.1.2.2.2.2.2.2.2.2.1 x.1.2.2.2.2.2.2.2.2.2.1 x.2.1 x.2.2.1.2.2.1 x.2.2.2.1.2.1 x.2.2.2.1.2.2.1 x.2.2.2.2.1 x.2.2.2.2.2.1 x.2.2.2.2.2.2.1 x.2.2.2.2.2.2.2.1 (fun y0 y1 y2 y3 y4 y5 y6 y7 y8 y9 => K (.exit 4) (Aab A3o ((y0, (), (), (), y1, (), ()), (y2, ((), (), y3, ()), ((), y4, y5, ()), y6, y7, y8, y9, ()))))
def Bkb (N k : Nat) : Aaj Al6 := A12 @Afr N k
def Al7 : Aac := ⟨[A5x, Clm, Ax9, Clo], C1r⟩
def A3p : Aac := ⟨[Ax9], [B97, (32, .cells 63 C07), Bdt]⟩
def Bzt : Ab3 := .cons .ret A3p (.nil)
abbrev Bkc (R : Type) := d4->d2->Int->d0->d0->d0->(d2->d0->Int->d0->Option R)->Option R
abbrev Bzu (R : Type) := d4->d2->Int->d0->d0->d0->Option R
abbrev Av9 := {R : Type} → Nat → Nat → Bkc R
def Bkd (Agv : Asg) (Afr : Av8) {R : Type} (N : Nat) (rc : Bzu R) : Bkc R := fun a d e b f g h => Agv N a b fun i j l => if ((((0 : Nat) + (List.length b)) * (8 : Nat)) ≤ (70368744177664 : Nat)) then (Afr N N a b false a (len a) 0 d e i j b f g l fun m n c o p q r s t u => if ((!n) = true) then (h c p q u) else rc m c o r s t) else none
def Ae7 {R : Type} (N : Nat) : Nat → Bkc R
 | 0 => fun _ _ _ _ _ _ _ => none
 | k + 1 => fun a b c d e f g => Bkd @Agv @Afr N (fun a b c d e f => Ae7 N k a b c d e f g) a b c d e f g
def A13 (Ae7 : Av9) (N k : Nat) : Aaj Al7 := fun R x K => Ae7 N k x.1.1 x.2.1 x.2.2.1.2.2.1 x.2.2.2.1 x.2.2.2.2.1 x.2.2.2.2.2.1 (fun y0 y1 y2 y3 => K .ret (Aab A3p (((), ()), (y0, ((), y1, y2, ()), y3, ()))))
def Bke (N k : Nat) : Aaj Al7 := A13 @Ae7 N k
def Bym : Aac := ⟨[A5x, Clm], [B97]⟩
def Bc4 : Aac := ⟨[(0, .agg [(.slf 32), Asp, Aa0])], [B97, Clv]⟩
abbrev Cx0 (R : Type) := d4->d2->(d0->Int->d2->d0->Option R)->Option R
abbrev A0h := {R : Type} → Nat → Cx0 R
def Byn (Agm : Ayh) (Ae7 : Av9) : A0h := fun {R} N a b c => if ((0 ≤ (len a)) ∧ (((len a) ≤ (len a)) ∧ (((len a) * 8) ≤ 70368744177664))) then (Agm N N a a (len a) 0 b 0 (List.replicate (Int.toNat (len a)) 0) ([] : List Int) ([] : List Int) fun d e f g h i => Ae7 N N d e f g h i fun j l m n => c l m j n) else none
def Ak3 : A0h := @Byn @Agm @Ae7
def Db9 (N : Nat) : Abg Bym [Bc4] := fun R x C => Ak3 N x.1.1 x.2.1 (fun y0 y1 y2 y3 => C.1 ((((), y0, y1, ()), ()), (y2, y3, ())))
def Bl5 (Ak3 : A0h) (N : Nat) : Go.AX.Aai := Acb [true, false] [] false 2 1 Bym [Bc4] (fun R x C => Ak3 N x.1.1 x.2.1 (fun y0 y1 y2 y3 => C.1 ((((), y0, y1, ()), ()), (y2, y3, ()))))
def Cc5 (N : Nat) : Go.AX.Aai := Bl5 @Ak3 N
def Dca (N : Nat) : List (Nat × Aci) := [(7, Aaa Am2 (Boz N N)), (25, Aaa Al6 (Bkb N N)), (17, Aaa Al7 (Bke N N))]
def Cx1 (N : Nat) : List (Nat × Go.AX.Aai) := [(54, A5b N), (38, Bsh N), (114, B35 N), (92, Bbl N)]
def Bmq : Code := Try.f46.body.getD .skip
def A8u : Aac := ⟨Ch4, Bwf⟩
def Avw : Aac := ⟨Clr, Bwf⟩
abbrev B7m (R : Type) := Int->d0->(d0->Option R)->Option R
abbrev Aei := {R : Type} → Nat → B7m R
def Aam : Aei := fun {R} N a b c => if ((((List.length b) + (List.length ((IntKind.wrap .u8 a) :: ([] : List Int)))) * (1 : Nat)) ≤ (70368744177664 : Nat)) then (c (b ++ ((IntKind.wrap .u8 a) :: ([] : List Int)))) else none
def B7n (N : Nat) : Abg A8u [Avw] := fun R x C => Aam N x.1.2.1 x.2.2.1 (fun y0 => C.1 (((), ()), (((), ()), y0, ())))
def Aik (Aam : Aei) (N : Nat) : Go.AX.Aai := Acb [false, true] (List.replicate 32 true) true 2 2 A8u [Avw] (fun R x C => Aam N x.1.2.1 x.2.2.1 (fun y0 => C.1 (((), ()), (((), ()), y0, ()))))
def At7 (N : Nat) : Go.AX.Aai := Aik @Aam N
def B7o (N : Nat) : List (Nat × Aci) := []
def Bmr (N : Nat) : List (Nat × Go.AX.Aai) := []
def Apv : Code := Try.f48.body.getD .skip
def Akg : Aac := ⟨[Bge, Ajl, Avp], Bwf⟩
def Auh : Aac := ⟨Clr, Bwf⟩
def Bjd : Ab3 := .cons (.exit 0) Auh (.nil)
abbrev A5z (R : Type) := Int->Int->d0->(d0->Option R)->Option R
abbrev Bje (R : Type) := Int->Int->d0->Option R
abbrev Axn := {R : Type} → Nat → Nat → A5z R
def Axo (Aam : Aei) {R : Type} (N : Nat) (rc : Bje R) : A5z R := fun b a c e => if ((decide (a ≥ 0)) = true) then (let d := (wi (8 * a)); if (d < 0) then none else Aam N (Ax8 .i64 b d) c fun f => rc b (wi (a - 1)) f) else e c
def Aex {R : Type} (N : Nat) : Nat → A5z R
 | 0 => fun _ _ _ _ => none
 | k + 1 => fun a b c d => Axo @Aam N (fun a b c => Aex N k a b c d) a b c d
def A50 (Aex : Axn) (N k : Nat) : Aaj Akg := fun R x K => Aex N k x.1.2.1 x.1.2.2.1 x.2.2.1 (fun y0 => K (.exit 0) (Aab Auh (((), ()), (((), ()), y0, ()))))
def A51 (N k : Nat) : Aaj Akg := A50 @Aex N k
def Bbm : Aac := ⟨[Bge, Ajl, Bcy], Bwf⟩
def Axp : Aac := ⟨Clr, Bwf⟩
abbrev Cao (R : Type) := Int->Int->d0->(d0->Option R)->Option R
abbrev Af9 := {R : Type} → Nat → Cao R
def Bbn (Aex : Axn) : Af9 := fun {R} N a b c d => Aex N N a (wi (b - 1)) c fun e => d e
def Aau : Af9 := @Bbn @Aex
def C5s (N : Nat) : Abg Bbm [Axp] := fun R x C => Aau N x.1.2.1 x.1.2.2.1 x.2.2.1 (fun y0 => C.1 (((), ()), (((), ()), y0, ())))
def Anl (Aau : Af9) (N : Nat) : Go.AX.Aai := Acb [false, true, true] (List.replicate 32 true) true 3 2 Bbm [Axp] (fun R x C => Aau N x.1.2.1 x.1.2.2.1 x.2.2.1 (fun y0 => C.1 (((), ()), (((), ()), y0, ()))))
def Bbo (N : Nat) : Go.AX.Aai := Anl @Aau N
def C5t (N : Nat) : List (Nat × Aci) := [(5, Aaa Akg (A51 N N))]
def Cap (N : Nat) : List (Nat × Go.AX.Aai) := [(46, At7 N)]
def Aq2 : Aac := ⟨[A5x, Cln, (4, .one (.mp 33)), Clp, (6, .one (.ptr 35)), Avp, (8, .one (.ptr 36)), A20, Bcz, C0o, B95, Chz], [(32, .cells 63 [(.slf 37), (.slf 38), Aa0]), B15, (34, .cells 63 [(.slf 39), Asp, Aa0]), (35, .cells 68 [(.slf 40)]), (36, .cells 24 Caa), Bjz, Chw, (39, .row 3 (.int .i64)), (40, .row 5 (.int .u8))]⟩
def Bep : Aac := ⟨[A5x, Cln, (4, .one (.mp 33)), Clp, (6, .one (.ptr 35)), C0o, B95, Chz], [(32, .cells 63 [(.slf 36), (.slf 37), Aa0]), B15, (34, .cells 63 [(.slf 38), Asp, Aa0]), (35, .cells 68 [(.slf 39)]), Bbe, Bjz, Chw, (39, .row 5 (.int .u8))]⟩
def Bzv : Ab3 := .cons .normal Bep (.nil)
abbrev Clz (R : Type) := d4->Int->Int->Int->d4->Int->Int->Int->d2->d0->Int->Int->Int->Int->d0->d0->d0->d0->(d4->d4->Int->Int->Int->d2->d0->Int->d0->d0->d0->d0->Option R)->Option R
abbrev As9 := {R : Type} → Nat → Clz R
def Bkf (Aam : Aei) (Ad3 : Aop) (Aau : Af9) (Ab2 : Aky) : As9 := fun {R} N e a f g h i j l m b n c y z o p q r s => if (0 ≤ a ∧ a < len b) then (let d := (b.getD a.toNat 0); Aam N (wi (c + (wi (32 * d)))) r fun t => if (0 ≤ a ∧ a < len b) then (Ad3 N d fun u => Aau N f u t fun v => Ab2 N c fun w => Aau N g w v fun x => s e h i j l m b n o p q x) else none) else none
def Af5 : As9 := @Bkf @Aam @Ad3 @Aau @Ab2
def Bal (Af5 : As9) (N : Nat) : Aaj Aq2 := fun R x K => Af5 N x.1.1 x.1.2.2.2.2.2.1 x.1.2.2.2.2.2.2.2.1 x.1.2.2.2.2.2.2.2.2.1 x.1.2.2.2.2.2.2.2.2.2.1 x.1.2.2.2.2.2.2.2.2.2.2.1 x.1.2.2.2.2.2.2.2.2.2.2.2.1 x.2.1.2.2.1 x.2.2.1 x.2.2.2.1.2.1 x.2.2.2.1.2.2.1 x.2.2.2.2.2.1.1 x.2.2.2.2.2.1.2.1 x.2.2.2.2.2.1.2.2.1 x.2.2.2.2.2.2.1 x.2.2.2.2.2.2.2.1 x.2.2.2.2.2.2.2.2.1 x.2.2.2.2.2.2.2.2.2.1 (fun y0 y1 y2 y3 y4 y5 y6 y7 y8 y9 y10 y11 => K .normal (Aab Bep ((y0, (), (), (), (), y1, y2, y3, ()), (((), (), y4, ()), y5, ((), y6, y7, ()), ((), ()), y8, y9, y10, y11, ()))))
def Bzw (N : Nat) : Aaj Aq2 := Bal @Af5 N
def Anb : Aac := ⟨[A5x, Cln, (4, .one (.mp 33)), Clp, (6, .one (.ptr 35)), C0o, B95, Chz], [(32, .cells 63 [(.slf 36), (.slf 37), Aa0]), B15, (34, .cells 63 [(.slf 38), Asp, Aa0]), (35, .cells 68 [(.slf 39)]), Bbe, Bjz, Chw, (39, .row 5 (.int .u8))]⟩
def A3q : Aac := ⟨[Cln, (5, .one (.ptr 33)), (6, .one (.ptr 34))], [C06, C1c, (34, .cells 68 [(.slf 38)]), A77, Bbe, Bjz, (38, .row 5 (.int .u8))]⟩
def Bzx : Ab3 := .cons (.exit 0) A3q (.nil)
abbrev Bkg (R : Type) := d4->d4->Int->Int->Int->d2->d0->Int->d0->d0->d0->d0->(Int->d0->Int->d0->d0->d0->d0->Option R)->Option R
abbrev Bzy (R : Type) := d4->d4->Int->Int->Int->d2->d0->Int->d0->d0->d0->d0->Option R
abbrev A14 := {R : Type} → Nat → Nat → Bkg R
def Bkh (Abb : Ah7) (Af5 : As9) (Aa3 : Afv) {R : Type} (N : Nat) (rc : Bzy R) : Bkg R := fun h c l a m i d e n o b p s => if ((decide (a < l)) = true) then (if (0 ≤ a ∧ a < len c) then (let j := (c.getD a.toNat (0, (0, 0))).1; let f := (c.getD a.toNat (0, (0, 0))).2.1; let g := (c.getD a.toNat (0, (0, 0))).2.2; if ((j == 19) = true) then (rc h c l (wi (a + 1)) m i d e n o b p) else if ((j == 30) = true) then (let q := (Option.getD (Al3 (kt := (.int .i64)) (et := (.int .i64)) g i) 0); if (0 ≤ q ∧ q < len b) then (Abb N b d e h a fun t => Af5 N h a f (wi ((b.getD q.toNat 0) - t)) c l a m i d e j f g n o b p fun u v w x y z A B C D E F => rc u v w (wi (x + 1)) y z A B C D E F) else none) else Aa3 N j f g fun G => if ((decide (G > 0)) = true) then (let r := (Option.getD (Al3 (kt := (.int .i64)) (et := (.int .i64)) f i) 0); if (0 ≤ r ∧ r < len b) then (Abb N b d e h a fun H => Af5 N h a (wi ((b.getD r.toNat 0) - H)) g c l a m i d e j f g n o b p fun I J L M O P Q S T U V W => rc I J L (wi (M + 1)) O P Q S T U V W) else none) else Af5 N h a f g c l a m i d e j f g n o b p fun X Y Z aa ab ac ad ae af ag ah ai => rc X Y Z (wi (aa + 1)) ab ac ad ae af ag ah ai) else none) else s m d e n o b p
def Agx {R : Type} (N : Nat) : Nat → Bkg R
 | 0 => fun _ _ _ _ _ _ _ _ _ _ _ _ _ => none
 | k + 1 => fun a b c d e f g h i j l m n => Bkh @Abb @Af5 @Aa3 N (fun a b c d e f g h i j l m => Agx N k a b c d e f g h i j l m n) a b c d e f g h i j l m n
def Bam (Agx : A14) (N k : Nat) : Aaj Anb := fun R x K => Agx N k x.1.1 x.1.2.2.2.2.2.1 x.1.2.2.2.2.2.2.1 x.1.2.2.2.2.2.2.2.1 x.2.1.2.2.1 x.2.2.1 x.2.2.2.1.2.1 x.2.2.2.1.2.2.1 x.2.2.2.2.2.1 x.2.2.2.2.2.2.1 x.2.2.2.2.2.2.2.1 x.2.2.2.2.2.2.2.2.1 (fun y0 y1 y2 y3 y4 y5 y6 => K (.exit 0) (Aab A3q (((), (), (), ()), (((), (), y0, ()), ((), y1, y2, ()), ((), ()), y3, y4, y5, y6, ()))))
def Bki (N k : Nat) : Aaj Anb := Bam @Agx N k
def Byo : Aac := ⟨C0p, []⟩
def Bc5 : Aac := ⟨[Byg, (1, .agg C07)], [B14, Bdt]⟩
abbrev Cx2 (R : Type) := d4->(d0->Int->d0->d0->Option R)->Option R
abbrev Bch := {R : Type} → Nat → Cx2 R
def Byp (Ajo : Aww) (Ak3 : A0h) (Agx : A14) : Bch := fun {R} N a b => Ajo N a fun c => Ak3 N a c fun d e f g => Agx N N a a (len a) 0 0 f d e ([] : List Int) ([] : List Int) g ([] : List Int) fun m h i n o j l => b h i l j
def Aq3 : Bch := @Byp @Ajo @Ak3 @Agx
def Dcb (N : Nat) : Abg Byo [Bc5] := fun R x C => Aq3 N x.1.1 (fun y0 y1 y2 y3 => C.1 (((), ((), y0, y1, ()), ()), (y2, y3, ())))
def Cc6 (Aq3 : Bch) (N : Nat) : Go.AX.Aai := Acb [true] [] false 1 0 Byo [Bc5] (fun R x C => Aq3 N x.1.1 (fun y0 y1 y2 y3 => C.1 (((), ((), y0, y1, ()), ()), (y2, y3, ()))))
def Cc7 (N : Nat) : Go.AX.Aai := Cc6 @Aq3 N
def Dcc (N : Nat) : List (Nat × Aci) := [(26, Aaa Aq2 (Bzw N)), (11, Aaa Anb (Bki N N))]
def Cx3 (N : Nat) : List (Nat × Go.AX.Aai) := [(90, B7j N), (91, Cc5 N), (92, Bbl N), (46, At7 N), (60, Bhh N), (48, Bbo N), (37, A78 N), (54, A5b N)]
def Bt3 : Aac := ⟨A0u, []⟩
def Ban : Aac := ⟨[Byg, (1, .agg [(.slf 33), (.slf 34), Aa0]), Bcy], [B14, Bdt, Bbd]⟩
def Bao : Aac := ⟨[Byg, (1, .agg C07), Bcy], [B14, Bdt]⟩
abbrev Cv0 (R : Type) := (List UInt8)->d5->d4->d1->Int->Int->(Int->Int->d0->d0->d0->Option R)->(d0->Int->Int->d0->d0->Option R)->Option R
abbrev At8 := {R : Type} → Nat → Cv0 R
def Bt4 (Agl : Asf) (Aq3 : Bch) : At8 := fun {R} N b g c d h i a j => Agl N b g c d h i fun e => if ((e != 0) = true) then (a 0 e ([] : List Int) ([] : List Int) ([] : List Int)) else Aq3 N c fun l m f n => if ((decide ((len f) > 32767)) = true) then (a 0 2 ([] : List Int) ([] : List Int) ([] : List Int)) else if ((decide ((len b) > 255)) = true) then (a 0 2 ([] : List Int) ([] : List Int) ([] : List Int)) else if ((decide ((len d) > 255)) = true) then (a 0 2 ([] : List Int) ([] : List Int) ([] : List Int)) else j l m 0 f n
def Ahs : At8 := @Bt4 @Agl @Aq3
def Dbl (N : Nat) : Abg Bt3 [Ban, Bao] := fun R x C => Ahs N x.1.1.1 x.1.1.2.1 x.1.1.2.2.1 x.1.1.2.2.2.1 x.1.1.2.2.2.2.1 x.1.1.2.2.2.2.2.1 (fun y0 y1 y2 y3 y4 => C.1 (((), ((), (), y0, ()), y1, ()), (y2, y3, y4, ()))) (fun y0 y1 y2 y3 y4 => C.2.1 (((), ((), y0, y1, ()), y2, ()), (y3, y4, ())))
def A8v (Ahs : At8) (N : Nat) : Go.AX.Aai := Acb [true] [] false 1 0 Bt3 [Ban, Bao] (fun R x C => Ahs N x.1.1.1 x.1.1.2.1 x.1.1.2.2.1 x.1.1.2.2.2.1 x.1.1.2.2.2.2.1 x.1.1.2.2.2.2.2.1 (fun y0 y1 y2 y3 y4 => C.1 (((), ((), (), y0, ()), y1, ()), (y2, y3, y4, ()))) (fun y0 y1 y2 y3 y4 => C.2.1 (((), ((), y0, y1, ()), y2, ()), (y3, y4, ()))))
def B7p (N : Nat) : Go.AX.Aai := A8v @Ahs N
def Dbm (N : Nat) : List (Nat × Aci) := []
def Cv1 (N : Nat) : List (Nat × Go.AX.Aai) := [(67, Bow N), (68, Cc7 N)]
def Bms : Code := Try.f47.body.getD .skip
def A8w : Aac := ⟨[Bge, (1, .one (.val .str))], Bwf⟩
def Avx : Aac := ⟨Clr, Bwf⟩
abbrev B7q (R : Type) := (List UInt8)->d0->(d0->Option R)->Option R
abbrev Ak4 := {R : Type} → Nat → B7q R
def A8x (Aam : Aei) : Ak4 := fun {R} N a d e => Aam N (len a) d fun c => if ((((List.length c) + (List.length (List.map (fun b : UInt8 => (((UInt8.toNat b) : Nat) : Int)) a))) * (1 : Nat)) ≤ (70368744177664 : Nat)) then (e (c ++ (List.map (fun b : UInt8 => (((UInt8.toNat b) : Nat) : Int)) a))) else none
def Ach : Ak4 := @A8x @Aam
def C33 (N : Nat) : Abg A8w [Avx] := fun R x C => Ach N x.1.2.1 x.2.2.1 (fun y0 => C.1 (((), ()), (((), ()), y0, ())))
def At9 (Ach : Ak4) (N : Nat) : Go.AX.Aai := Acb [false, true] (List.replicate 32 true) true 2 2 A8w [Avx] (fun R x C => Ach N x.1.2.1 x.2.2.1 (fun y0 => C.1 (((), ()), (((), ()), y0, ()))))
def Bmt (N : Nat) : Go.AX.Aai := At9 @Ach N
def C34 (N : Nat) : List (Nat × Aci) := []
def B7r (N : Nat) : List (Nat × Go.AX.Aai) := [(46, At7 N)]
def Al8 : Aac := ⟨[Alh, Cva, Bbb, C6k, C0x, C0y, (57, .one Asp), (58, .one Aa0), (59, .one Aa0)], Ct7⟩
def A3r : Aac := ⟨[Alh, Cva, Bbb, C6k, C0x, C0y], Ct7⟩
def Bzz : Ab3 := .cons (.exit 2) A3r (.nil)
abbrev Bkj (R : Type) := d5->Int->Int->d0->Int->Int->(List UInt8)->d5->d4->d1->Int->Int->d0->d0->(d5->Int->Int->(List UInt8)->d5->d4->d1->Int->Int->d0->d0->Option R)->Option R
abbrev Bz0 (R : Type) := d5->Int->Int->d0->Int->Int->(List UInt8)->d5->d4->d1->Int->Int->d0->d0->Option R
abbrev Awa := {R : Type} → Nat → Nat → Bkj R
def Bkk (Aau : Af9) {R : Type} (N : Nat) (rc : Bz0 R) : Bkj R := fun c d e b f a g h i j l m n o p => if ((decide (a < f)) = true) then (if (0 ≤ a ∧ a < len b) then (Aau N (b.getD a.toNat 0) 4 o fun q => rc c d e b f (wi (a + 1)) g h i j l m n q) else none) else p c d e g h i j l m n o
def Afs {R : Type} (N : Nat) : Nat → Bkj R
 | 0 => fun _ _ _ _ _ _ _ _ _ _ _ _ _ _ _ => none
 | k + 1 => fun a b c d e f g h i j l m n o p => Bkk @Aau N (fun a b c d e f g h i j l m n o => Afs N k a b c d e f g h i j l m n o p) a b c d e f g h i j l m n o p
def A15 (Afs : Awa) (N k : Nat) : Aaj Al8 := fun R x K => Afs N k x.1.2.2.2.1 x.1.2.2.2.2.1 x.1.2.2.2.2.2.1 x.1.2.2.2.2.2.2.1 x.1.2.2.2.2.2.2.2.1 x.1.2.2.2.2.2.2.2.2.1 x.2.1.1 x.2.1.2.1 x.2.1.2.2.1 x.2.1.2.2.2.1 x.2.1.2.2.2.2.1 x.2.1.2.2.2.2.2.1 x.2.2.1 x.2.2.2.2.1 (fun y0 y1 y2 y3 y4 y5 y6 y7 y8 y9 y10 => K (.exit 2) (Aab A3r (((), (), (), y0, y1, y2, ()), ((y3, y4, y5, y6, y7, y8, ()), y9, ((), ()), y10, ()))))
def Bkl (N k : Nat) : Aaj Al8 := A15 @Afs N k
def Al9 : Aac := ⟨[Alh, Cva, Bbb, C6k, C0x, C0y], Ct7⟩
def A3s : Aac := ⟨[Alh, Cva, Bbb], Ct7⟩
def Bz1 : Ab3 := .cons (.exit 0) A3s (.nil)
abbrev Bkm (R : Type) := d5->Int->Int->(List UInt8)->d5->d4->d1->Int->Int->d0->d0->((List UInt8)->d5->d4->d1->Int->Int->d0->d0->Option R)->Option R
abbrev Bz2 (R : Type) := d5->Int->Int->(List UInt8)->d5->d4->d1->Int->Int->d0->d0->Option R
abbrev Awb := {R : Type} → Nat → Nat → Bkm R
def Bkn (Aam : Aei) (Ach : Ak4) (Aau : Af9) (Afs : Awa) {R : Type} (N : Nat) (rc : Bz2 R) : Bkm R := fun b c a d e f g h i j l n => if ((decide (a < c)) = true) then (if (0 ≤ a ∧ a < len b) then (let m := (b.getD a.toNat (([] : List UInt8), (false, ([] : List Int)))).2.2; if ((b.getD a.toNat (([] : List UInt8), (false, ([] : List Int)))).2.1 = true) then (Aam N 0 l fun o => Ach N ((b.getD a.toNat (([] : List UInt8), (false, ([] : List Int)))).1) o fun p => rc b c (wi (a + 1)) d e f g h i j p) else Aam N 1 l fun q => Aau N (len m) 2 q fun r => Afs N N b c a m (len m) 0 d e f g h i j r fun s t u v w x y z A B C => rc s t (wi (u + 1)) v w x y z A B C) else none) else n d e f g h i j l
def Ae8 {R : Type} (N : Nat) : Nat → Bkm R
 | 0 => fun _ _ _ _ _ _ _ _ _ _ _ _ => none
 | k + 1 => fun a b c d e f g h i j l m => Bkn @Aam @Ach @Aau @Afs N (fun a b c d e f g h i j l => Ae8 N k a b c d e f g h i j l m) a b c d e f g h i j l m
def A16 (Ae8 : Awb) (N k : Nat) : Aaj Al9 := fun R x K => Ae8 N k x.1.2.2.2.1 x.1.2.2.2.2.1 x.1.2.2.2.2.2.1 x.2.1.1 x.2.1.2.1 x.2.1.2.2.1 x.2.1.2.2.2.1 x.2.1.2.2.2.2.1 x.2.1.2.2.2.2.2.1 x.2.2.1 x.2.2.2.2.1 (fun y0 y1 y2 y3 y4 y5 y6 y7 => K (.exit 0) (Aab A3s (((), (), (), ()), ((y0, y1, y2, y3, y4, y5, ()), y6, ((), ()), y7, ()))))
def Bko (N k : Nat) : Aaj Al9 := A16 @Ae8 N k
def Ama : Aac := ⟨[B6x, Cu6, (74, .one (.val z1)), (75, .one Aa0), (76, .one Aa0)], [B14, (33, .cells 68 [(.slf 34)]), C0r]⟩
def A3t : Aac := ⟨[B6x, Cu6], [B14, (33, .cells 68 [(.slf 34)]), C0r]⟩
def Bz3 : Ab3 := .cons (.exit 4) A3t (.nil)
abbrev Bkp (R : Type) := d1->Int->Int->d0->d0->(d0->d0->Option R)->Option R
abbrev Bz4 (R : Type) := d1->Int->Int->d0->d0->Option R
abbrev Awc := {R : Type} → Nat → Nat → Bkp R
def Bkq (Aam : Aei) (Aau : Af9) {R : Type} (N : Nat) (rc : Bz4 R) : Bkp R := fun b c a d e f => if ((decide (a < c)) = true) then (if (0 ≤ a ∧ a < len b) then (Aam N ((b.getD a.toNat (0, 0)).1) e fun g => Aau N ((b.getD a.toNat (0, 0)).2) 2 g fun h => rc b c (wi (a + 1)) d h) else none) else f d e
def Ae9 {R : Type} (N : Nat) : Nat → Bkp R
 | 0 => fun _ _ _ _ _ _ => none
 | k + 1 => fun a b c d e f => Bkq @Aam @Aau N (fun a b c d e => Ae9 N k a b c d e f) a b c d e f
def A17 (Ae9 : Awc) (N k : Nat) : Aaj Ama := fun R x K => Ae9 N k x.1.2.2.1 x.1.2.2.2.1 x.1.2.2.2.2.1 x.2.1 x.2.2.2.1 (fun y0 y1 => K (.exit 4) (Aab A3t (((), (), ()), (y0, ((), ()), y1, ()))))
def Bkr (N k : Nat) : Aaj Ama := A17 @Ae9 N k
def Byq : Aac := ⟨A0u, []⟩
def Bc6 : Aac := ⟨[Byg, Ajl], Chx⟩
abbrev Cx4 (R : Type) := (List UInt8)->d5->d4->d1->Int->Int->(Int->d0->Option R)->Option R
abbrev A5r := {R : Type} → Nat → Cx4 R
def Byr (Ahs : At8) (Aam : Aei) (Ach : Ak4) (Aau : Af9) (Ae8 : Awb) (Ae9 : Awc) (Aeb : Apb) : A5r := fun {R} N b a f g h i c => Ahs N b a f g h i (fun Q o q S T => if ((o != 0) = true) then (c o ([] : List Int)) else Aam N 98 ([] : List Int) fun r => Aam N 98 r fun s => Aam N 1 s fun t => Ach N b t fun u => Aau N (len a) 2 u fun v => Ae8 N N a (len a) 0 b a f g h i q v fun U V W j X Y w x => Aam N (len j) x fun y => Ae9 N N j (len j) 0 w y fun d z => Aau N (len d) 4 z fun l => if ((((List.length l) + (List.length d)) * (1 : Nat)) ≤ (70368744177664 : Nat)) then (Aeb N (l ++ d) fun A => Aau N A 4 (l ++ d) fun B => c 0 B) else none) fun Z aa p C ab => if ((p != 0) = true) then (c p ([] : List Int)) else Aam N 98 ([] : List Int) fun D => Aam N 98 D fun E => Aam N 1 E fun F => Ach N b F fun G => Aau N (len a) 2 G fun H => Ae8 N N a (len a) 0 b a f g h i C H fun ac ad ae m af ag I J => Aam N (len m) J fun L => Ae9 N N m (len m) 0 I L fun e M => Aau N (len e) 4 M fun n => if ((((List.length n) + (List.length e)) * (1 : Nat)) ≤ (70368744177664 : Nat)) then (Aeb N (n ++ e) fun O => Aau N O 4 (n ++ e) fun P => c 0 P) else none
def Anm : A5r := @Byr @Ahs @Aam @Ach @Aau @Ae8 @Ae9 @Aeb
def Dcd (N : Nat) : Abg Byq [Bc6] := fun R x C => Anm N x.1.1.1 x.1.1.2.1 x.1.1.2.2.1 x.1.1.2.2.2.1 x.1.1.2.2.2.2.1 x.1.1.2.2.2.2.2.1 (fun y0 y1 => C.1 (((), y0, ()), (y1, ())))
def Bys (Anm : A5r) (N : Nat) : Go.AX.Aai := Acb [true] [] false 1 0 Byq [Bc6] (fun R x C => Anm N x.1.1.1 x.1.1.2.1 x.1.1.2.2.1 x.1.1.2.2.2.1 x.1.1.2.2.2.2.1 x.1.1.2.2.2.2.2.1 (fun y0 y1 => C.1 (((), y0, ()), (y1, ()))))
def Cc8 (N : Nat) : Go.AX.Aai := Bys @Anm N
def Dce (N : Nat) : List (Nat × Aci) := [(27, Aaa Al8 (Bkl N N)), (15, Aaa Al9 (Bko N N)), (41, Aaa Ama (Bkr N N))]
def Cx5 (N : Nat) : List (Nat × Go.AX.Aai) := [(45, B7p N), (46, At7 N), (47, Bmt N), (48, Bbo N), (31, Brn N)]
def Aka : Code := Try.f77.body.getD .skip
def Agr : Aac := ⟨[Arf, Ctx, Cts, C0u], []⟩
def Apg : Aac := ⟨Bgf, []⟩
def Aph : Aac := ⟨[], []⟩
def A5f : Ab3 := .cons .ret Apg (.cons (.exit 0) Aph (.nil))
abbrev Au8 (R : Type) := d0->d0->Int->Int->(Bool->Option R)->(Option R)->Option R
abbrev A5g (R : Type) := d0->d0->Int->Int->Option R
abbrev Aqc := {R : Type} → Nat → Nat → Au8 R
def Au9 {R : Type} (N : Nat) (rc : A5g R) : Au8 R := fun b c d a e f => if ((decide (a < d)) = true) then (if (0 ≤ a ∧ a < len b) then (if (0 ≤ a ∧ a < len c) then (if (((b.getD a.toNat 0) != (c.getD a.toNat 0)) = true) then (e false) else rc b c d (wi (a + 1))) else none) else none) else f
def Aco {R : Type} (N : Nat) : Nat → Au8 R
 | 0 => fun _ _ _ _ _ _ => none
 | k + 1 => fun a b c d e f => Au9 N (fun a b c d => Aco N k a b c d e f) a b c d e f
def Ava (Aco : Aqc) (N k : Nat) : Aaj Agr := fun R x K => Aco N k x.1.1 x.1.2.1 x.1.2.2.1 x.1.2.2.2.1 (fun y0 => K .ret (Aab Apg ((y0, ()), (())))) (K (.exit 0) (Aab Aph ((()), (()))))
def Avb (N k : Nat) : Aaj Agr := Ava @Aco N k
def Awy : Aac := ⟨[Arf, Ctx], []⟩
def Aqd : Aac := ⟨Ard, []⟩
abbrev Bt5 (R : Type) := d0->d0->(Bool->Option R)->Option R
abbrev Amb := {R : Type} → Nat → Bt5 R
def Awz (Aco : Aqc) : Amb := fun {R} N a c b => if (((len a) != (len c)) = true) then (b false) else Aco N N a c (len a) 0 (fun d => b d) (b true)
def Ad1 : Amb := @Awz @Aco
def Cv2 (N : Nat) : Abg Awy [Aqd] := fun R x C => Ad1 N x.1.1 x.1.2.1 (fun y0 => C.1 ((y0, ()), (())))
def Aw0 (Ad1 : Amb) (N : Nat) : Go.AX.Aai := Acb [true, true] [] false 2 0 Awy [Aqd] (fun R x C => Ad1 N x.1.1 x.1.2.1 (fun y0 => C.1 ((y0, ()), (()))))
def A8y (N : Nat) : Go.AX.Aai := Aw0 @Ad1 N
def Cv3 (N : Nat) : List (Nat × Aci) := [(9, Aaa Agr (Avb N N))]
def Bt6 (N : Nat) : List (Nat × Go.AX.Aai) := []
def Aqp : Aac := ⟨[Ajk, A2z, Avp, Bgg, Cvh], [(32, .cells 34 C7s), (33, .cells 34 C7t), C7o, C6g, Dba, C7p, Dbb, Dbc]⟩
def A8z : Aac := ⟨[Ajk, Ap3, Are, Asq], Cie⟩
def Bt7 : Ab3 := .cons .ret A8z (.nil)
abbrev Cec (R : Type) := Int->Int->Bool->(List UInt8)->Int->Int->(List UInt8)->Int->Int->d5->d4->d1->d5->d4->d1->(Int->Int->Int->(List UInt8)->Int->Int->d5->d4->d1->Option R)->Option R
abbrev Ata := {R : Type} → Nat → Cec R
def Aw1 (Agl : Asf) : Ata := fun {R} N h i j m n o b c d p q r e f g a => if ((!j) = true) then (a 0 0 3 ([] : List UInt8) 0 0 ([] : List (List UInt8 × Bool × List Int)) ([] : List (Int × Int × Int)) ([] : List (Int × Int))) else Agl N b e f g c d fun l => if ((l != 0) = true) then (a 0 0 3 ([] : List UInt8) 0 0 ([] : List (List UInt8 × Bool × List Int)) ([] : List (Int × Int × Int)) ([] : List (Int × Int))) else a h i 0 b c d e f g
def Agg : Ata := @Aw1 @Agl
def Beq (Agg : Ata) (N : Nat) : Aaj Aqp := fun R x K => Agg N x.1.2.2.1 x.1.2.2.2.1 x.1.2.2.2.2.1 x.2.1.1 x.2.1.2.2.2.2.1 x.2.1.2.2.2.2.2.1 x.2.2.1.1 x.2.2.1.2.2.2.2.1 x.2.2.1.2.2.2.2.2.1 x.2.2.2.1 x.2.2.2.2.1 x.2.2.2.2.2.1 x.2.2.2.2.2.2.1 x.2.2.2.2.2.2.2.1 x.2.2.2.2.2.2.2.2.1 (fun y0 y1 y2 y3 y4 y5 y6 y7 y8 => K .ret (Aab A8z (((), y0, y1, y2, ()), ((y3, (), (), (), y4, y5, ()), y6, y7, y8, ()))))
def Bt8 (N : Nat) : Aaj Aqp := Beq @Agg N
def Bo2 : Aac := ⟨A21, []⟩
def A69 : Aac := ⟨[Cia, Ajl, Bcy, Ap3], Cic⟩
abbrev Cqz (R : Type) := d0->((List UInt8)->Int->Int->Int->Int->Int->d5->d4->d1->Option R)->Option R
abbrev Avc := {R : Type} → Nat → Cqz R
def Bo3 (Aag : Adm) (Aeb : Apb) (Ai1 : Aye) (Anm : A5r) (Ad1 : Amb) (Agg : Ata) : Avc := fun {R} N a b => if ((decide ((len a) < 15)) = true) then (b ([] : List UInt8) 0 0 0 0 7 ([] : List (List UInt8 × Bool × List Int)) ([] : List (Int × Int × Int)) ([] : List (Int × Int))) else let c := (wi ((len a) - 4)); Aag N 4 a c false fun n W X Y => if ((0 ≤ c) ∧ (c ≤ (len a))) then (if (((0 :Int) ≤ (0 :Int)) ∧ (0 ≤ c)) then (Aeb N (List.drop (0 : Nat) (List.take (Int.toNat c) a)) fun o => if ((n != o) = true) then (b ([] : List UInt8) 0 0 0 0 8 ([] : List (List UInt8 × Bool × List Int)) ([] : List (Int × Int × Int)) ([] : List (Int × Int))) else Ai1 N a fun d e f j l m g h i => if (m = true) then (Anm N d g h i e f fun p q => if ((p == 0) = true) then (Ad1 N q a fun r => Agg N j l r ([] : List UInt8) 0 0 d e f ([] : List (List UInt8 × Bool × List Int)) ([] : List (Int × Int × Int)) ([] : List (Int × Int)) g h i fun s t u v w x y z A => b v w x s t u y z A) else Agg N j l false ([] : List UInt8) 0 0 d e f ([] : List (List UInt8 × Bool × List Int)) ([] : List (Int × Int × Int)) ([] : List (Int × Int)) g h i fun B C D E F G H I J => b E F G B C D H I J) else Agg N j l m ([] : List UInt8) 0 0 d e f ([] : List (List UInt8 × Bool × List Int)) ([] : List (Int × Int × Int)) ([] : List (Int × Int)) g h i fun L M O P Q S T U V => b P Q S L M O T U V) else none) else none
def Aho : Avc := @Bo3 @Aag @Aeb @Ai1 @Anm @Ad1 @Agg
def C97 (N : Nat) : Abg Bo2 [A69] := fun R x C => Aho N x.1.1 (fun y0 y1 y2 y3 y4 y5 y6 y7 y8 => C.1 (((y0, (), (), (), y1, y2, ()), y3, y4, y5, ()), (y6, y7, y8, ())))
def Bo4 (Aho : Avc) (N : Nat) : Go.AX.Aai := Acb [true] [] false 1 0 Bo2 [A69] (fun R x C => Aho N x.1.1 (fun y0 y1 y2 y3 y4 y5 y6 y7 y8 => C.1 (((y0, (), (), (), y1, y2, ()), y3, y4, y5, ()), (y6, y7, y8, ()))))
def Bo5 (N : Nat) : Go.AX.Aai := Bo4 @Aho N
def C98 (N : Nat) : List (Nat × Aci) := [(18, Aaa Aqp (Bt8 N))]
def Cq0 (N : Nat) : List (Nat × Go.AX.Aai) := [(36, Ar2 N), (31, Brn N), (76, B3p N), (16, Cc8 N), (77, A8y N), (67, Bow N)]
def Bo6 : Aac := ⟨A21, []⟩
def A7a : Aac := ⟨[Cia, Ajl], Cic⟩
abbrev Cq1 (R : Type) := d0->((List UInt8)->Int->Int->Int->d5->d4->d1->Option R)->Option R
abbrev A5h := {R : Type} → Nat → Cq1 R
def Bo7 (Aho : Avc) : A5h := fun {R} N a b => Aho N a fun c d e j l f g h i => b c d e f g h i
def Ao8 : A5h := @Bo7 @Aho
def C99 (N : Nat) : Abg Bo6 [A7a] := fun R x C => Ao8 N x.1.1 (fun y0 y1 y2 y3 y4 y5 y6 => C.1 (((y0, (), (), (), y1, y2, ()), y3, ()), (y4, y5, y6, ())))
def B36 (Ao8 : A5h) (N : Nat) : Go.AX.Aai := Acb [true] [] false 1 0 Bo6 [A7a] (fun R x C => Ao8 N x.1.1 (fun y0 y1 y2 y3 y4 y5 y6 => C.1 (((y0, (), (), (), y1, y2, ()), y3, ()), (y4, y5, y6, ()))))
def B37 (N : Nat) : Go.AX.Aai := B36 @Ao8 N
def Daa (N : Nat) : List (Nat × Aci) := []
def Cq2 (N : Nat) : List (Nat × Go.AX.Aai) := [(62, Bo5 N)]
def Afl : Code := Try.f28.body.getD .skip
def Al1 : Code := Try.f63.body.getD .skip
def Aqq : Code := Try.f43.body.getD .skip
def Ak5 : Aac := ⟨[Arf, Ap3, Are], []⟩
def Avy : Aac := ⟨Ch0, []⟩
def Bmu : Ab3 := .cons (.exit 0) Avy (.nil)
abbrev A80 (R : Type) := d0->Int->Int->(Int->Option R)->Option R
abbrev Bmv (R : Type) := d0->Int->Int->Option R
abbrev Azj := {R : Type} → Nat → Nat → A80 R
def Azk {R : Type} (N : Nat) (rc : Bmv R) : A80 R := fun b c a d => if ((decide (a < (len b))) = true) then (if (0 ≤ a ∧ a < len b) then (rc b (orI .i64 (Avo .i64 c 8) (wi (b.getD a.toNat 0))) (wi (a + 1))) else none) else d c
def Afe {R : Type} (N : Nat) : Nat → A80 R
 | 0 => fun _ _ _ _ => none
 | k + 1 => fun a b c d => Azk N (fun a b c => Afe N k a b c d) a b c d
def A81 (Afe : Azj) (N k : Nat) : Aaj Ak5 := fun R x K => Afe N k x.1.1 x.1.2.1 x.1.2.2.1 (fun y0 => K (.exit 0) (Aab Avy ((y0, ()), (()))))
def A82 (N k : Nat) : Aaj Ak5 := A81 @Afe N k
def Ber : Aac := ⟨A21, []⟩
def Azl : Aac := ⟨Alu, []⟩
abbrev Ced (R : Type) := d0->(Int->Option R)->Option R
abbrev Ahc := {R : Type} → Nat → Ced R
def Bes (Afe : Azj) : Ahc := fun {R} N a b => Afe N N a 0 0 fun c => b c
def Aa9 : Ahc := @Bes @Afe
def C6q (N : Nat) : Abg Ber [Azl] := fun R x C => Aa9 N x.1.1 (fun y0 => C.1 ((y0, ()), (())))
def Aoq (Aa9 : Ahc) (N : Nat) : Go.AX.Aai := Acb [true] [] false 1 0 Ber [Azl] (fun R x C => Aa9 N x.1.1 (fun y0 => C.1 ((y0, ()), (()))))
def Aw2 (N : Nat) : Go.AX.Aai := Aoq @Aa9 N
def C6r (N : Nat) : List (Nat × Aci) := [(7, Aaa Ak5 (A82 N N))]
def Cee (N : Nat) : List (Nat × Go.AX.Aai) := []
def A0i : Code := Try.f32.body.getD .skip
def Aqe : Aac := ⟨[Arf, Ap3, Are], []⟩
def A7b : Aac := ⟨Ch0, []⟩
def B38 : Ab3 := .cons (.exit 0) A7b (.nil)
abbrev Bo8 (R : Type) := d0->Int->Int->(Int->Option R)->Option R
abbrev B39 (R : Type) := d0->Int->Int->Option R
abbrev Bc7 := {R : Type} → Nat → Nat → Bo8 R
def Bo9 {R : Type} (N : Nat) (rc : B39 R) : Bo8 R := fun b c a e => if ((decide (a < (len b))) = true) then (let d := (wi (a + 1)); if (0 ≤ a ∧ a < len b) then (rc b (B6a .i64 (wi (c + (wi (d * (wi (b.getD a.toNat 0)))))) 4294967295) d) else none) else e c
def Ajt {R : Type} (N : Nat) : Nat → Bo8 R
 | 0 => fun _ _ _ _ => none
 | k + 1 => fun a b c d => Bo9 N (fun a b c => Ajt N k a b c d) a b c d
def Bpa (Ajt : Bc7) (N k : Nat) : Aaj Aqe := fun R x K => Ajt N k x.1.1 x.1.2.1 x.1.2.2.1 (fun y0 => K (.exit 0) (Aab A7b ((y0, ()), (()))))
def Bpb (N k : Nat) : Aaj Aqe := Bpa @Ajt N k
def Byt : Aac := ⟨A21, []⟩
def Bc8 : Aac := ⟨Alu, []⟩
abbrev Cx6 (R : Type) := d0->(Int->Option R)->Option R
abbrev Amf := {R : Type} → Nat → Cx6 R
def Byu (Ajt : Bc7) : Amf := fun {R} N a b => Ajt N N a 0 0 fun c => b c
def Ac6 : Amf := @Byu @Ajt
def Dcf (N : Nat) : Abg Byt [Bc8] := fun R x C => Ac6 N x.1.1 (fun y0 => C.1 ((y0, ()), (())))
def Att (Ac6 : Amf) (N : Nat) : Go.AX.Aai := Acb [true] [] false 1 0 Byt [Bc8] (fun R x C => Ac6 N x.1.1 (fun y0 => C.1 ((y0, ()), (()))))
def Bl6 (N : Nat) : Go.AX.Aai := Att @Ac6 N
def Dcg (N : Nat) : List (Nat × Aci) := [(7, Aaa Aqe (Bpb N N))]
def Cx7 (N : Nat) : List (Nat × Go.AX.Aai) := []
def Bjf : Code := Try.f78.body.getD .skip
def A52 : Aac := ⟨Ch4, Ch8⟩
def Aui : Aac := ⟨C6l, [B16, B14]⟩
def Auj : Aac := ⟨A21, Ch8⟩
abbrev B5a (R : Type) := Int->d0->Int->Bool->(d0->Int->Bool->d0->Option R)->(d0->d0->Int->Bool->Option R)->Option R
abbrev Agh := {R : Type} → Nat → B5a R
def Aat : Agh := fun {R} N d a c f g h => if (f = true) then (g a c true ([] : List Int)) else if ((decide (d > (wi ((len a) - c)))) = true) then (g a c true ([] : List Int)) else let b := (wi (c + d)); let e := (wi (b - d)); if ((0 ≤ b) ∧ (b ≤ (len a))) then (if ((0 ≤ e) ∧ (e ≤ b)) then (h (List.drop (Int.toNat e) (List.take (Int.toNat b) a)) a b f) else none) else none
def B5b (N : Nat) : Abg A52 [Aui, Auj] := fun R x C => Aat N x.1.2.1 x.2.1.1 x.2.1.2.1 x.2.1.2.2.1 (fun y0 y1 y2 y3 => C.1 (((), ()), ((y0, y1, y2, ()), y3, ()))) (fun y0 y1 y2 y3 => C.2.1 ((y0, ()), ((y1, y2, y3, ()), ())))
def Alo (Aat : Agh) (N : Nat) : Go.AX.Aai := Acb [false, true] (List.replicate 32 true) true 2 1 A52 [Aui, Auj] (fun R x C => Aat N x.1.2.1 x.2.1.1 x.2.1.2.1 x.2.1.2.2.1 (fun y0 y1 y2 y3 => C.1 (((), ()), ((y0, y1, y2, ()), y3, ()))) (fun y0 y1 y2 y3 => C.2.1 ((y0, ()), ((y1, y2, y3, ()), ()))))
def Axq (N : Nat) : Go.AX.Aai := Alo @Aat N
def B5c (N : Nat) : List (Nat × Aci) := []
def Bjg (N : Nat) : List (Nat × Go.AX.Aai) := []
def Bfz : Code := Try.f79.body.getD .skip
def A18 : Aac := ⟨Ch4, Ch8⟩
def Ass : Aac := ⟨Alu, Ch8⟩
abbrev Bz5 (R : Type) := Int->d0->Int->Bool->(Int->d0->Int->Bool->Option R)->Option R
abbrev Af7 := {R : Type} → Nat → Bz5 R
def A19 (Aat : Agh) (Aa9 : Ahc) : Af7 := fun {R} N b c d e a => Aat N b c d e (fun f g h i => Aa9 N i fun j => a j f g h) fun l m n o => Aa9 N l fun p => a p m n o
def Aal : Af7 := @A19 @Aat @Aa9
def Czm (N : Nat) : Abg A18 [Ass] := fun R x C => Aal N x.1.2.1 x.2.1.1 x.2.1.2.1 x.2.1.2.2.1 (fun y0 y1 y2 y3 => C.1 ((y0, ()), ((y1, y2, y3, ()), ())))
def Amc (Aal : Af7) (N : Nat) : Go.AX.Aai := Acb [false, true] (List.replicate 32 true) true 2 1 A18 [Ass] (fun R x C => Aal N x.1.2.1 x.2.1.1 x.2.1.2.1 x.2.1.2.2.1 (fun y0 y1 y2 y3 => C.1 ((y0, ()), ((y1, y2, y3, ()), ()))))
def A2a (N : Nat) : Go.AX.Aai := Amc @Aal N
def Czn (N : Nat) : List (Nat × Aci) := []
def Bz6 (N : Nat) : List (Nat × Go.AX.Aai) := [(78, Axq N), (43, Aw2 N)]
def Ai3 : Code := Try.f80.body.getD .skip
def Aju : Aac := ⟨[Bge, Ajk], [B16, (32, .cells 73 [(.val .str), (.val .bool), (.slf 33)]), Bdt]⟩
def Aw3 : Aac := ⟨[Ajk], [B16, (32, .cells 73 [(.val .str), (.val .bool), (.slf 33)]), Bdt]⟩
def Bci : Ab3 := .cons .ret Aw3 (.nil)
abbrev Byv (R : Type) := d0->Int->Bool->(List UInt8)->Bool->d0->(d0->Int->Bool->(List UInt8)->Bool->d0->Option R)->Option R
abbrev Anc := {R : Type} → Nat → Byv R
def Ads : Anc := fun {R} N a b d e f g c => c a b true ([] : List UInt8) false ([] : List Int)
def Atu (Ads : Anc) (N : Nat) : Aaj Aju := fun R x K => Ads N x.2.1.1 x.2.1.2.1 x.2.1.2.2.1 x.2.2.1.1 x.2.2.1.2.1 x.2.2.2.1 (fun y0 y1 y2 y3 y4 y5 => K .ret (Aab Aw3 (((), ()), ((y0, y1, y2, ()), (y3, y4, (), ()), y5, ()))))
def Bcj (N : Nat) : Aaj Aju := Atu @Ads N
def Bz7 : Code := Try.f41.body.getD .skip
def Bks : Aac := ⟨A21, []⟩
def A3u : Aac := ⟨Alu, []⟩
abbrev Cl0 (R : Type) := d0->(Int->Option R)->Option R
abbrev Ane := {R : Type} → Nat → Cl0 R
def Bkt (Aa9 : Ahc) : Ane := fun {R} N a b => Aa9 N a fun c => if ((decide ((len a) > 0)) = true) then (if (((0 :Int) ≤ (0 :Int)) ∧ (0 < (len a))) then (if ((decide ((List.getD a (0 : Nat) 0) ≥ 128)) = true) then (let d := (wi (8 * (len a))); if (d < 0) then none else b (wi (c - (Avo .i64 1 d)))) else b c) else none) else b c
def Ac4 : Ane := @Bkt @Aa9
def C8y (N : Nat) : Abg Bks [A3u] := fun R x C => Ac4 N x.1.1 (fun y0 => C.1 ((y0, ()), (())))
def Awd (Ac4 : Ane) (N : Nat) : Go.AX.Aai := Acb [true] [] false 1 0 Bks [A3u] (fun R x C => Ac4 N x.1.1 (fun y0 => C.1 ((y0, ()), (()))))
def Bku (N : Nat) : Go.AX.Aai := Awd @Ac4 N
def C8z (N : Nat) : List (Nat × Aci) := []
def Cl1 (N : Nat) : List (Nat × Go.AX.Aai) := [(43, Aw2 N)]
def Ag8 : Aac := ⟨[Bge, Ajk, A5y, Are, Asq], [B16, (32, .cells 73 [(.val .str), (.val .bool), (.slf 34)]), (33, .cells 73 [(.val .str), (.val .bool), (.slf 35)]), Bbd, A77]⟩
def Arn : Aac := ⟨C01, [B16, (32, .cells 73 [(.val .str), (.val .bool), (.slf 34)]), (33, .cells 73 [(.val .str), (.val .bool), (.slf 35)]), Bbd, A77]⟩
def Bck : Ab3 := .cons (.exit 1) Arn (.nil)
abbrev A0j (R : Type) := Int->Int->d0->Int->Bool->(List UInt8)->Bool->(List UInt8)->Bool->d0->d0->(d0->Int->Bool->(List UInt8)->Bool->(List UInt8)->Bool->d0->d0->Option R)->Option R
abbrev Bcl (R : Type) := Int->Int->d0->Int->Bool->(List UInt8)->Bool->(List UInt8)->Bool->d0->d0->Option R
abbrev Ap8 := {R : Type} → Nat → Nat → A0j R
def Atv (Aat : Agh) (Ac4 : Ane) {R : Type} (N : Nat) (rc : Bcl R) : A0j R := fun h i j l b c d e f g a m => if ((decide (i < h)) = true) then (if ((!b) = true) then (Aat N 4 j l b (fun p q r s => Ac4 N s fun n => if ((((List.length a) + (List.length (n :: ([] : List Int)))) * (8 : Nat)) ≤ (70368744177664 : Nat)) then (rc h (wi (i + 1)) p q r c d e f g (a ++ (n :: ([] : List Int)))) else none) fun t u v w => Ac4 N t fun o => if ((((List.length a) + (List.length (o :: ([] : List Int)))) * (8 : Nat)) ≤ (70368744177664 : Nat)) then (rc h (wi (i + 1)) u v w c d e f g (a ++ (o :: ([] : List Int)))) else none) else m j l b c d e f g a) else m j l b c d e f g a
def Abx {R : Type} (N : Nat) : Nat → A0j R
 | 0 => fun _ _ _ _ _ _ _ _ _ _ _ _ => none
 | k + 1 => fun a b c d e f g h i j l m => Atv @Aat @Ac4 N (fun a b c d e f g h i j l => Abx N k a b c d e f g h i j l m) a b c d e f g h i j l m
def Atw (Abx : Ap8) (N k : Nat) : Aaj Ag8 := fun R x K => Abx N k x.1.2.2.2.1 x.1.2.2.2.2.1 x.2.1.1 x.2.1.2.1 x.2.1.2.2.1 x.2.2.1.1 x.2.2.1.2.1 x.2.2.2.1.1 x.2.2.2.1.2.1 x.2.2.2.2.1 x.2.2.2.2.2.1 (fun y0 y1 y2 y3 y4 y5 y6 y7 y8 => K (.exit 1) (Aab Arn (((), (), ()), ((y0, y1, y2, ()), (y3, y4, (), ()), (y5, y6, (), ()), y7, y8, ()))))
def A0k (N k : Nat) : Aaj Ag8 := Atw @Abx N k
def A53 : Aac := ⟨Clr, Ch8⟩
def Auk : Aac := ⟨[(0, .agg [(.val .str), (.val .bool), (.slf 32)])], [B16, Clv]⟩
abbrev B5d (R : Type) := d0->Int->Bool->((List UInt8)->Bool->d0->Int->Bool->d0->Option R)->Option R
abbrev Anp := {R : Type} → Nat → B5d R
def A54 (Aal : Af7) (Aat : Agh) (Ads : Anc) (Abx : Ap8) : Anp := fun {R} N f g h a => Aal N 1 f g h fun e c d b => if ((e == 0) = true) then (if ((!b) = true) then (Aal N 1 c d b fun i j l m => Aat N i j l m (fun o p q r => a (List.map (fun n : Int => UInt8.ofNat (Int.toNat n)) r) true o p q ([] : List Int)) fun s t u v => a (List.map (fun n : Int => UInt8.ofNat (Int.toNat n)) s) true t u v ([] : List Int)) else Ads N c d b ([] : List UInt8) false ([] : List Int) fun w x y z A B => a z A w x y B) else if ((e == 1) = true) then (Aal N 2 c d b fun C D E F => Abx N N C 0 D E F ([] : List UInt8) false ([] : List UInt8) false ([] : List Int) ([] : List Int) fun G H I V W J L X M => a J L G H I M) else Ads N c d b ([] : List UInt8) false ([] : List Int) fun O P Q S T U => a S T O P Q U
def Ael : Anp := @A54 @Aal @Aat @Ads @Abx
def C3d (N : Nat) : Abg A53 [Auk] := fun R x C => Ael N x.2.1.1 x.2.1.2.1 x.2.1.2.2.1 (fun y0 y1 y2 y3 y4 y5 => C.1 (((y0, y1, (), ()), ()), ((y2, y3, y4, ()), y5, ())))
def Axr (Ael : Anp) (N : Nat) : Go.AX.Aai := Acb [false] (List.replicate 32 true) true 1 1 A53 [Auk] (fun R x C => Ael N x.2.1.1 x.2.1.2.1 x.2.1.2.2.1 (fun y0 y1 y2 y3 y4 y5 => C.1 (((y0, y1, (), ()), ()), ((y2, y3, y4, ()), y5, ()))))
def Bjh (N : Nat) : Go.AX.Aai := Axr @Ael N
def C3e (N : Nat) : List (Nat × Aci) := [(26, Aaa Aju (Bcj N)), (19, Aaa Ag8 (A0k N N))]
def B5e (N : Nat) : List (Nat × Go.AX.Aai) := [(79, A2a N), (78, Axq N), (41, Bku N)]
def Alj : Aac := ⟨[Ajk, A2z, Avp, C0n, A20, Bcz], Ct9⟩
def Azm : Aac := ⟨[Ajk, A2z, Avp, C0n], Ct9⟩
def Bt9 : Ab3 := .cons (.exit 0) Azm (.nil)
abbrev Bet (R : Type) := Int->Int->Int->(List UInt8)->Int->Int->(List UInt8)->Int->Int->d0->Int->Bool->d5->d4->d1->d5->d4->d1->(Int->(List UInt8)->Int->Int->(List UInt8)->Int->Int->d0->Int->Bool->d5->d4->d1->d5->d4->d1->Option R)->Option R
abbrev Bua (R : Type) := Int->Int->Int->(List UInt8)->Int->Int->(List UInt8)->Int->Int->d0->Int->Bool->d5->d4->d1->d5->d4->d1->Option R
abbrev Aw4 := {R : Type} → Nat → Nat → Bet R
def A3v (Ael : Anp) {R : Type} (N : Nat) (rc : Bua R) : Bet R := fun c r s d e f g h i j l a m n o b p q t => if ((decide (s < r)) = true) then (if ((!a) = true) then (Ael N j l a fun u v x y z w => if ((((List.length b) + (List.length ((u, (v, w)) :: ([] : List (List UInt8 × Bool × List Int))))) * (48 : Nat)) ≤ (70368744177664 : Nat)) then (rc c r (wi (s + 1)) d e f g h i x y z m n o (b ++ ((u, (v, w)) :: ([] : List (List UInt8 × Bool × List Int)))) p q) else none) else t c d e f g h i j l a m n o b p q) else t c d e f g h i j l a m n o b p q
def Adu {R : Type} (N : Nat) : Nat → Bet R
 | 0 => fun _ _ _ _ _ _ _ _ _ _ _ _ _ _ _ _ _ _ _ => none
 | k + 1 => fun a b c d e f g h i j l m n o p q r s t => A3v @Ael N (fun a b c d e f g h i j l m n o p q r s => Adu N k a b c d e f g h i j l m n o p q r s t) a b c d e f g h i j l m n o p q r s t
def A3w (Adu : Aw4) (N k : Nat) : Aaj Alj := fun R x K => Adu N k x.1.2.2.1 x.1.2.2.2.2.1 x.1.2.2.2.2.2.1 x.2.1.1 x.2.1.2.2.2.2.1 x.2.1.2.2.2.2.2.1 x.2.2.1.1 x.2.2.1.2.2.2.2.1 x.2.2.1.2.2.2.2.2.1 x.2.2.2.1.1 x.2.2.2.1.2.1 x.2.2.2.1.2.2.1 x.2.2.2.2.1 x.2.2.2.2.2.1 x.2.2.2.2.2.2.1 x.2.2.2.2.2.2.2.1 x.2.2.2.2.2.2.2.2.1 x.2.2.2.2.2.2.2.2.2.1 (fun y0 y1 y2 y3 y4 y5 y6 y7 y8 y9 y10 y11 y12 y13 y14 y15 => K (.exit 0) (Aab Azm (((), (), y0, (), ()), ((y1, (), (), (), y2, y3, ()), (y4, (), (), (), y5, y6, ()), (y7, y8, y9, ()), y10, y11, y12, y13, y14, y15, ()))))
def Beu (N k : Nat) : Aaj Alj := A3w @Adu N k
def Alk : Aac := ⟨[Ajk, A2z, Avp, C0n, A20, B96], Ct9⟩
def Azn : Aac := ⟨[Ajk, A2z, Avp, C0n], Ct9⟩
def Bub : Ab3 := .cons (.exit 2) Azn (.nil)
abbrev Bev (R : Type) := Int->Int->Int->(List UInt8)->Int->Int->(List UInt8)->Int->Int->d0->Int->Bool->d5->d4->d1->d5->d4->d1->(Int->(List UInt8)->Int->Int->(List UInt8)->Int->Int->d0->Int->Bool->d5->d4->d1->d5->d4->d1->Option R)->Option R
abbrev Buc (R : Type) := Int->Int->Int->(List UInt8)->Int->Int->(List UInt8)->Int->Int->d0->Int->Bool->d5->d4->d1->d5->d4->d1->Option R
abbrev Aw5 := {R : Type} → Nat → Nat → Bev R
def A3x (Aal : Af7) {R : Type} (N : Nat) (rc : Buc R) : Bev R := fun c r s d e f g h i j l a m n o p q b t => if ((decide (s < r)) = true) then (if ((!a) = true) then (Aal N 1 j l a fun u w x y => Aal N 2 w x y fun v z A B => if ((((List.length b) + (List.length ((u, v) :: ([] : List (Int × Int))))) * (16 : Nat)) ≤ (70368744177664 : Nat)) then (rc c r (wi (s + 1)) d e f g h i z A B m n o p q (b ++ ((u, v) :: ([] : List (Int × Int))))) else none) else t c d e f g h i j l a m n o p q b) else t c d e f g h i j l a m n o p q b
def Adv {R : Type} (N : Nat) : Nat → Bev R
 | 0 => fun _ _ _ _ _ _ _ _ _ _ _ _ _ _ _ _ _ _ _ => none
 | k + 1 => fun a b c d e f g h i j l m n o p q r s t => A3x @Aal N (fun a b c d e f g h i j l m n o p q r s => Adv N k a b c d e f g h i j l m n o p q r s t) a b c d e f g h i j l m n o p q r s t
def A3y (Adv : Aw5) (N k : Nat) : Aaj Alk := fun R x K => Adv N k x.1.2.2.1 x.1.2.2.2.2.1 x.1.2.2.2.2.2.1 x.2.1.1 x.2.1.2.2.2.2.1 x.2.1.2.2.2.2.2.1 x.2.2.1.1 x.2.2.1.2.2.2.2.1 x.2.2.1.2.2.2.2.2.1 x.2.2.2.1.1 x.2.2.2.1.2.1 x.2.2.2.1.2.2.1 x.2.2.2.2.1 x.2.2.2.2.2.1 x.2.2.2.2.2.2.1 x.2.2.2.2.2.2.2.1 x.2.2.2.2.2.2.2.2.1 x.2.2.2.2.2.2.2.2.2.1 (fun y0 y1 y2 y3 y4 y5 y6 y7 y8 y9 y10 y11 y12 y13 y14 y15 => K (.exit 2) (Aab Azn (((), (), y0, (), ()), ((y1, (), (), (), y2, y3, ()), (y4, (), (), (), y5, y6, ()), (y7, y8, y9, ()), y10, y11, y12, y13, y14, y15, ()))))
def Bew (N k : Nat) : Aaj Alk := A3y @Adv N k
def Bpc : Aac := ⟨A21, []⟩
def A7c : Aac := ⟨[Cia, Ajl, Bcy, Ap3], Cic⟩
abbrev Cq3 (R : Type) := d0->((List UInt8)->Int->Int->Int->Int->Int->d5->d4->d1->Option R)->Option R
abbrev Am3 := {R : Type} → Nat → Cq3 R
end
end Q

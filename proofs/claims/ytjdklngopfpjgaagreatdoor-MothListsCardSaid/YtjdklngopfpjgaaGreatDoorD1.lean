/- Part D1 of the proof. -/
import Derived.Test.YtjdklngopfpjgaaGreatDoorX7
import Derived.Test.YtjdklngopfpjgaaGreatDoorProg
import Derived.KernelRfl
open Go Go.AX Go.Proofs
namespace Q
noncomputable section
set_option maxRecDepth 100000
set_option linter.unusedVariables false
abbrev z0 : Ty := .pair (.int .i64) (.int .i64)
abbrev z1 : Ty := .list z0
abbrev z2 : Ty := .pair (.int .i64) z0
abbrev z3 : Ty := .list (.pair .str (.pair .bool (.list (.int .i64))))
abbrev z4 : Ty := .list z2
abbrev z5 : Ty := .pair (.int .i64) z2
abbrev z6 : Ty := .list (.pair (.int .i64) z5)
abbrev d0 : Type := List (Int)
abbrev d1 : Type := List ((Int × Int))
abbrev d2 : Type := List ((Int × (Int × Int)))
abbrev d3 : Type := List ((List UInt8 × (Bool × d0)))
abbrev d4 : Type := List ((Int × (Int × (Int × (Int × Int)))))
def types : List Nat := [3, 9, 4, 27, 22, 36, 34, 23, 71, 24, 57, 25, 47, 0, 87, 91, 89, 130, 30, 5, 31, 131, 45, 78, 80, 82, 200, 226, 216, 225, 218, 20, 217, 215, 2, 199, 203, 83, 64, 118, 43, 111, 112, 110, 1, 38, 113, 114, 188, 115, 116, 198, 68, 135, 194, 121, 109, 149, 55, 52, 166, 167, 170, 207, 125, 161, 49, 102, 106, 107, 103, 39]
def tt : TT := [(3, (.mk (.int .i64) 1 8 (.some [(.a (.val (.int .i64) ((0 : Int) : Int)))]) false)), (9, (.mk .str 1 16 (.some [(.a (.val .str (([] : List UInt8) : List UInt8)))]) false)), (4, (.mk .bool 1 1 (.some [(.a (.val .bool (false : Bool)))]) false)), (27, (.mk (.struct [(0, (1, 9)), (1, (1, 22)), (2, (1, 23)), (3, (1, 24)), (4, (1, 25))]) 5 112 (.some [(.a (.val .str (([] : List UInt8) : List UInt8))), (.a .nilsl), (.a .nilsl), (.a .nilsl), (.a .nilsl)]) true)), (22, (.mk (.slice 36) 1 24 (.some [(.a .nilsl)]) false)), (36, (.mk (.struct [(0, (1, 9)), (1, (1, 4)), (2, (1, 34))]) 3 48 (.some [(.a (.val .str (([] : List UInt8) : List UInt8))), (.a (.val .bool (false : Bool))), (.a .nilsl)]) true)), (34, (.mk (.slice 3) 1 24 (.some [(.a .nilsl)]) false)), (23, (.mk (.slice 71) 1 24 (.some [(.a .nilsl)]) false)), (71, (.mk (.struct [(0, (1, 3)), (1, (1, 3))]) 2 16 (.some [(.a (.val (.int .i64) ((0 : Int) : Int))), (.a (.val (.int .i64) ((0 : Int) : Int)))]) true)), (24, (.mk (.slice 57) 1 24 (.some [(.a .nilsl)]) false)), (57, (.mk (.struct [(0, (1, 3)), (1, (1, 3)), (2, (1, 3))]) 3 24 (.some [(.a (.val (.int .i64) ((0 : Int) : Int))), (.a (.val (.int .i64) ((0 : Int) : Int))), (.a (.val (.int .i64) ((0 : Int) : Int)))]) true)), (25, (.mk (.slice 47) 1 24 (.some [(.a .nilsl)]) false)), (47, (.mk (.struct [(0, (1, 3)), (1, (1, 3)), (2, (1, 3)), (3, (1, 3)), (4, (1, 3))]) 5 40 (.some [(.a (.val (.int .i64) ((0 : Int) : Int))), (.a (.val (.int .i64) ((0 : Int) : Int))), (.a (.val (.int .i64) ((0 : Int) : Int))), (.a (.val (.int .i64) ((0 : Int) : Int))), (.a (.val (.int .i64) ((0 : Int) : Int)))]) true)), (0, (.mk .other 1 0 (.some [(.a .undef)]) false)), (87, (.mk (.slice 91) 1 24 (.some [(.a .nilsl)]) false)), (91, (.mk (.struct [(0, (1, 3)), (1, (1, 3)), (2, (1, 3))]) 3 24 (.some [(.a (.val (.int .i64) ((0 : Int) : Int))), (.a (.val (.int .i64) ((0 : Int) : Int))), (.a (.val (.int .i64) ((0 : Int) : Int)))]) true)), (89, (.mk (.struct [(0, (1, 9)), (1, (1, 22)), (2, (1, 87)), (3, (1, 23)), (4, (1, 3)), (5, (1, 3))]) 6 104 (.some [(.a (.val .str (([] : List UInt8) : List UInt8))), (.a .nilsl), (.a .nilsl), (.a .nilsl), (.a (.val (.int .i64) ((0 : Int) : Int))), (.a (.val (.int .i64) ((0 : Int) : Int)))]) true)), (130, (.mk (.struct [(0, (1, 34)), (1, (1, 34))]) 2 48 (.some [(.a .nilsl), (.a .nilsl)]) true)), (30, (.mk (.int .i64) 1 8 (.some [(.a (.val (.int .i64) ((0 : Int) : Int)))]) false)), (5, (.mk (.int .u8) 1 1 (.some [(.a (.val (.int .u8) ((0 : Int) : Int)))]) false)), (31, (.mk .other 1 0 (.some [(.a .undef)]) false)), (131, (.mk .other 1 0 (.some [(.a .undef)]) false)), (45, (.mk (.slice 5) 1 24 (.some [(.a .nilsl)]) false)), (78, (.mk (.ptr 80) 1 8 (.some [(.a .nilptr)]) false)), (80, (.mk (.struct [(0, (1, 78)), (1, (1, 45))]) 2 32 (.some [(.a .nilptr), (.a .nilsl)]) true)), (82, (.mk .iface 1 16 (.some [(.a .nilif)]) false)), (200, (.mk (.int .u64) 1 8 (.some [(.a (.val (.int .u64) ((0 : Int) : Int)))]) false)), (226, (.mk (.arr 64 5) 64 64 (.some [(.a (.val (.int .u8) ((0 : Int) : Int))), (.a (.val (.int .u8) ((0 : Int) : Int))), (.a (.val (.int .u8) ((0 : Int) : Int))), (.a (.val (.int .u8) ((0 : Int) : Int))), (.a (.val (.int .u8) ((0 : Int) : Int))), (.a (.val (.int .u8) ((0 : Int) : Int))), (.a (.val (.int .u8) ((0 : Int) : Int))), (.a (.val (.int .u8) ((0 : Int) : Int))), (.a (.val (.int .u8) ((0 : Int) : Int))), (.a (.val (.int .u8) ((0 : Int) : Int))), (.a (.val (.int .u8) ((0 : Int) : Int))), (.a (.val (.int .u8) ((0 : Int) : Int))), (.a (.val (.int .u8) ((0 : Int) : Int))), (.a (.val (.int .u8) ((0 : Int) : Int))), (.a (.val (.int .u8) ((0 : Int) : Int))), (.a (.val (.int .u8) ((0 : Int) : Int))), (.a (.val (.int .u8) ((0 : Int) : Int))), (.a (.val (.int .u8) ((0 : Int) : Int))), (.a (.val (.int .u8) ((0 : Int) : Int))), (.a (.val (.int .u8) ((0 : Int) : Int))), (.a (.val (.int .u8) ((0 : Int) : Int))), (.a (.val (.int .u8) ((0 : Int) : Int))), (.a (.val (.int .u8) ((0 : Int) : Int))), (.a (.val (.int .u8) ((0 : Int) : Int))), (.a (.val (.int .u8) ((0 : Int) : Int))), (.a (.val (.int .u8) ((0 : Int) : Int))), (.a (.val (.int .u8) ((0 : Int) : Int))), (.a (.val (.int .u8) ((0 : Int) : Int))), (.a (.val (.int .u8) ((0 : Int) : Int))), (.a (.val (.int .u8) ((0 : Int) : Int))), (.a (.val (.int .u8) ((0 : Int) : Int))), (.a (.val (.int .u8) ((0 : Int) : Int))), (.a (.val (.int .u8) ((0 : Int) : Int))), (.a (.val (.int .u8) ((0 : Int) : Int))), (.a (.val (.int .u8) ((0 : Int) : Int))), (.a (.val (.int .u8) ((0 : Int) : Int))), (.a (.val (.int .u8) ((0 : Int) : Int))), (.a (.val (.int .u8) ((0 : Int) : Int))), (.a (.val (.int .u8) ((0 : Int) : Int))), (.a (.val (.int .u8) ((0 : Int) : Int))), (.a (.val (.int .u8) ((0 : Int) : Int))), (.a (.val (.int .u8) ((0 : Int) : Int))), (.a (.val (.int .u8) ((0 : Int) : Int))), (.a (.val (.int .u8) ((0 : Int) : Int))), (.a (.val (.int .u8) ((0 : Int) : Int))), (.a (.val (.int .u8) ((0 : Int) : Int))), (.a (.val (.int .u8) ((0 : Int) : Int))), (.a (.val (.int .u8) ((0 : Int) : Int))), (.a (.val (.int .u8) ((0 : Int) : Int))), (.a (.val (.int .u8) ((0 : Int) : Int))), (.a (.val (.int .u8) ((0 : Int) : Int))), (.a (.val (.int .u8) ((0 : Int) : Int))), (.a (.val (.int .u8) ((0 : Int) : Int))), (.a (.val (.int .u8) ((0 : Int) : Int))), (.a (.val (.int .u8) ((0 : Int) : Int))), (.a (.val (.int .u8) ((0 : Int) : Int))), (.a (.val (.int .u8) ((0 : Int) : Int))), (.a (.val (.int .u8) ((0 : Int) : Int))), (.a (.val (.int .u8) ((0 : Int) : Int))), (.a (.val (.int .u8) ((0 : Int) : Int))), (.a (.val (.int .u8) ((0 : Int) : Int))), (.a (.val (.int .u8) ((0 : Int) : Int))), (.a (.val (.int .u8) ((0 : Int) : Int))), (.a (.val (.int .u8) ((0 : Int) : Int)))]) false)), (216, (.mk (.int .u32) 1 4 (.some [(.a (.val (.int .u32) ((0 : Int) : Int)))]) false)), (225, (.mk (.arr 32 5) 32 32 (.some [(.a (.val (.int .u8) ((0 : Int) : Int))), (.a (.val (.int .u8) ((0 : Int) : Int))), (.a (.val (.int .u8) ((0 : Int) : Int))), (.a (.val (.int .u8) ((0 : Int) : Int))), (.a (.val (.int .u8) ((0 : Int) : Int))), (.a (.val (.int .u8) ((0 : Int) : Int))), (.a (.val (.int .u8) ((0 : Int) : Int))), (.a (.val (.int .u8) ((0 : Int) : Int))), (.a (.val (.int .u8) ((0 : Int) : Int))), (.a (.val (.int .u8) ((0 : Int) : Int))), (.a (.val (.int .u8) ((0 : Int) : Int))), (.a (.val (.int .u8) ((0 : Int) : Int))), (.a (.val (.int .u8) ((0 : Int) : Int))), (.a (.val (.int .u8) ((0 : Int) : Int))), (.a (.val (.int .u8) ((0 : Int) : Int))), (.a (.val (.int .u8) ((0 : Int) : Int))), (.a (.val (.int .u8) ((0 : Int) : Int))), (.a (.val (.int .u8) ((0 : Int) : Int))), (.a (.val (.int .u8) ((0 : Int) : Int))), (.a (.val (.int .u8) ((0 : Int) : Int))), (.a (.val (.int .u8) ((0 : Int) : Int))), (.a (.val (.int .u8) ((0 : Int) : Int))), (.a (.val (.int .u8) ((0 : Int) : Int))), (.a (.val (.int .u8) ((0 : Int) : Int))), (.a (.val (.int .u8) ((0 : Int) : Int))), (.a (.val (.int .u8) ((0 : Int) : Int))), (.a (.val (.int .u8) ((0 : Int) : Int))), (.a (.val (.int .u8) ((0 : Int) : Int))), (.a (.val (.int .u8) ((0 : Int) : Int))), (.a (.val (.int .u8) ((0 : Int) : Int))), (.a (.val (.int .u8) ((0 : Int) : Int))), (.a (.val (.int .u8) ((0 : Int) : Int)))]) false)), (218, (.mk (.int .u64) 1 8 (.some [(.a (.val (.int .u64) ((0 : Int) : Int)))]) false)), (20, (.mk .iface 1 16 (.some [(.a .nilif)]) false)), (217, (.mk (.arr 65 5) 65 65 (.some [(.a (.val (.int .u8) ((0 : Int) : Int))), (.a (.val (.int .u8) ((0 : Int) : Int))), (.a (.val (.int .u8) ((0 : Int) : Int))), (.a (.val (.int .u8) ((0 : Int) : Int))), (.a (.val (.int .u8) ((0 : Int) : Int))), (.a (.val (.int .u8) ((0 : Int) : Int))), (.a (.val (.int .u8) ((0 : Int) : Int))), (.a (.val (.int .u8) ((0 : Int) : Int))), (.a (.val (.int .u8) ((0 : Int) : Int))), (.a (.val (.int .u8) ((0 : Int) : Int))), (.a (.val (.int .u8) ((0 : Int) : Int))), (.a (.val (.int .u8) ((0 : Int) : Int))), (.a (.val (.int .u8) ((0 : Int) : Int))), (.a (.val (.int .u8) ((0 : Int) : Int))), (.a (.val (.int .u8) ((0 : Int) : Int))), (.a (.val (.int .u8) ((0 : Int) : Int))), (.a (.val (.int .u8) ((0 : Int) : Int))), (.a (.val (.int .u8) ((0 : Int) : Int))), (.a (.val (.int .u8) ((0 : Int) : Int))), (.a (.val (.int .u8) ((0 : Int) : Int))), (.a (.val (.int .u8) ((0 : Int) : Int))), (.a (.val (.int .u8) ((0 : Int) : Int))), (.a (.val (.int .u8) ((0 : Int) : Int))), (.a (.val (.int .u8) ((0 : Int) : Int))), (.a (.val (.int .u8) ((0 : Int) : Int))), (.a (.val (.int .u8) ((0 : Int) : Int))), (.a (.val (.int .u8) ((0 : Int) : Int))), (.a (.val (.int .u8) ((0 : Int) : Int))), (.a (.val (.int .u8) ((0 : Int) : Int))), (.a (.val (.int .u8) ((0 : Int) : Int))), (.a (.val (.int .u8) ((0 : Int) : Int))), (.a (.val (.int .u8) ((0 : Int) : Int))), (.a (.val (.int .u8) ((0 : Int) : Int))), (.a (.val (.int .u8) ((0 : Int) : Int))), (.a (.val (.int .u8) ((0 : Int) : Int))), (.a (.val (.int .u8) ((0 : Int) : Int))), (.a (.val (.int .u8) ((0 : Int) : Int))), (.a (.val (.int .u8) ((0 : Int) : Int))), (.a (.val (.int .u8) ((0 : Int) : Int))), (.a (.val (.int .u8) ((0 : Int) : Int))), (.a (.val (.int .u8) ((0 : Int) : Int))), (.a (.val (.int .u8) ((0 : Int) : Int))), (.a (.val (.int .u8) ((0 : Int) : Int))), (.a (.val (.int .u8) ((0 : Int) : Int))), (.a (.val (.int .u8) ((0 : Int) : Int))), (.a (.val (.int .u8) ((0 : Int) : Int))), (.a (.val (.int .u8) ((0 : Int) : Int))), (.a (.val (.int .u8) ((0 : Int) : Int))), (.a (.val (.int .u8) ((0 : Int) : Int))), (.a (.val (.int .u8) ((0 : Int) : Int))), (.a (.val (.int .u8) ((0 : Int) : Int))), (.a (.val (.int .u8) ((0 : Int) : Int))), (.a (.val (.int .u8) ((0 : Int) : Int))), (.a (.val (.int .u8) ((0 : Int) : Int))), (.a (.val (.int .u8) ((0 : Int) : Int))), (.a (.val (.int .u8) ((0 : Int) : Int))), (.a (.val (.int .u8) ((0 : Int) : Int))), (.a (.val (.int .u8) ((0 : Int) : Int))), (.a (.val (.int .u8) ((0 : Int) : Int))), (.a (.val (.int .u8) ((0 : Int) : Int))), (.a (.val (.int .u8) ((0 : Int) : Int))), (.a (.val (.int .u8) ((0 : Int) : Int))), (.a (.val (.int .u8) ((0 : Int) : Int))), (.a (.val (.int .u8) ((0 : Int) : Int))), (.a (.val (.int .u8) ((0 : Int) : Int)))]) false)), (215, (.mk (.arr 20 200) 20 160 (.some [(.a (.val (.int .u64) ((0 : Int) : Int))), (.a (.val (.int .u64) ((0 : Int) : Int))), (.a (.val (.int .u64) ((0 : Int) : Int))), (.a (.val (.int .u64) ((0 : Int) : Int))), (.a (.val (.int .u64) ((0 : Int) : Int))), (.a (.val (.int .u64) ((0 : Int) : Int))), (.a (.val (.int .u64) ((0 : Int) : Int))), (.a (.val (.int .u64) ((0 : Int) : Int))), (.a (.val (.int .u64) ((0 : Int) : Int))), (.a (.val (.int .u64) ((0 : Int) : Int))), (.a (.val (.int .u64) ((0 : Int) : Int))), (.a (.val (.int .u64) ((0 : Int) : Int))), (.a (.val (.int .u64) ((0 : Int) : Int))), (.a (.val (.int .u64) ((0 : Int) : Int))), (.a (.val (.int .u64) ((0 : Int) : Int))), (.a (.val (.int .u64) ((0 : Int) : Int))), (.a (.val (.int .u64) ((0 : Int) : Int))), (.a (.val (.int .u64) ((0 : Int) : Int))), (.a (.val (.int .u64) ((0 : Int) : Int))), (.a (.val (.int .u64) ((0 : Int) : Int)))]) false)), (2, (.mk (.int .i64) 1 8 (.some [(.a (.val (.int .i64) ((0 : Int) : Int)))]) false)), (199, (.mk (.arr 24 5) 24 24 (.some [(.a (.val (.int .u8) ((0 : Int) : Int))), (.a (.val (.int .u8) ((0 : Int) : Int))), (.a (.val (.int .u8) ((0 : Int) : Int))), (.a (.val (.int .u8) ((0 : Int) : Int))), (.a (.val (.int .u8) ((0 : Int) : Int))), (.a (.val (.int .u8) ((0 : Int) : Int))), (.a (.val (.int .u8) ((0 : Int) : Int))), (.a (.val (.int .u8) ((0 : Int) : Int))), (.a (.val (.int .u8) ((0 : Int) : Int))), (.a (.val (.int .u8) ((0 : Int) : Int))), (.a (.val (.int .u8) ((0 : Int) : Int))), (.a (.val (.int .u8) ((0 : Int) : Int))), (.a (.val (.int .u8) ((0 : Int) : Int))), (.a (.val (.int .u8) ((0 : Int) : Int))), (.a (.val (.int .u8) ((0 : Int) : Int))), (.a (.val (.int .u8) ((0 : Int) : Int))), (.a (.val (.int .u8) ((0 : Int) : Int))), (.a (.val (.int .u8) ((0 : Int) : Int))), (.a (.val (.int .u8) ((0 : Int) : Int))), (.a (.val (.int .u8) ((0 : Int) : Int))), (.a (.val (.int .u8) ((0 : Int) : Int))), (.a (.val (.int .u8) ((0 : Int) : Int))), (.a (.val (.int .u8) ((0 : Int) : Int))), (.a (.val (.int .u8) ((0 : Int) : Int)))]) false)), (203, (.mk .other 1 0 (.some [(.a .undef)]) false)), (83, (.mk .other 1 0 (.some [(.a .undef)]) false)), (64, (.mk (.ptr 118) 1 8 (.some [(.a .nilptr)]) false)), (118, (.mk (.struct [(0, (2, 43)), (2, (1, 111)), (3, (1, 3)), (4, (1, 3)), (5, (1, 24)), (6, (1, 112)), (7, (1, 110)), (8, (1, 1)), (9, (1, 45)), (10, (1, 4)), (11, (5, 38)), (16, (1, 3)), (17, (1, 34)), (18, (1, 113)), (19, (1, 9)), (20, (1, 3)), (21, (1, 114)), (22, (1, 115)), (23, (1, 116)), (24, (1, 34))]) 25 296 (.some [(.a (.val (.int .i64) ((0 : Int) : Int))), (.a (.val .bool (false : Bool))), (.a .nilptr), (.a (.val (.int .i64) ((0 : Int) : Int))), (.a (.val (.int .i64) ((0 : Int) : Int))), (.a .nilsl), (.a .nilfn), (.a .nilfn), (.a .nilfn), (.a .nilsl), (.a (.val .bool (false : Bool))), (.a (.val .str (([] : List UInt8) : List UInt8))), (.a (.val (.int .i64) ((0 : Int) : Int))), (.a (.val (.int .i64) ((0 : Int) : Int))), (.a (.val (.int .i64) ((0 : Int) : Int))), (.a (.val (.int .i64) ((0 : Int) : Int))), (.a (.val (.int .i64) ((0 : Int) : Int))), (.a .nilsl), (.a .nilmap), (.a (.val .str (([] : List UInt8) : List UInt8))), (.a (.val (.int .i64) ((0 : Int) : Int))), (.a .nilptr), (.a .nilmap), (.a .nilsl), (.a .nilsl)]) true)), (43, (.mk (.struct [(0, (1, 3)), (1, (1, 4))]) 2 16 (.some [(.a (.val (.int .i64) ((0 : Int) : Int))), (.a (.val .bool (false : Bool)))]) true)), (111, (.mk (.ptr 197) 1 8 (.some [(.a .nilptr)]) false)), (112, (.mk .func 1 8 (.some [(.a .nilfn)]) false)), (110, (.mk .func 1 8 (.some [(.a .nilfn)]) false)), (1, (.mk .func 1 8 (.some [(.a .nilfn)]) false)), (38, (.mk (.struct [(0, (1, 9)), (1, (1, 3)), (2, (1, 3)), (3, (1, 30)), (4, (1, 3))]) 5 48 (.some [(.a (.val .str (([] : List UInt8) : List UInt8))), (.a (.val (.int .i64) ((0 : Int) : Int))), (.a (.val (.int .i64) ((0 : Int) : Int))), (.a (.val (.int .i64) ((0 : Int) : Int))), (.a (.val (.int .i64) ((0 : Int) : Int)))]) true)), (113, (.mk (.map 3 3) 1 8 (.some [(.a .nilmap)]) false)), (114, (.mk (.ptr 188) 1 8 (.some [(.a .nilptr)]) false)), (188, (.mk (.struct [(0, (1, 3)), (1, (1, 3)), (2, (1, 3)), (3, (1, 4)), (4, (1, 4)), (5, (1, 3)), (6, (1, 3)), (7, (1, 3)), (8, (1, 114))]) 9 64 (.some [(.a (.val (.int .i64) ((0 : Int) : Int))), (.a (.val (.int .i64) ((0 : Int) : Int))), (.a (.val (.int .i64) ((0 : Int) : Int))), (.a (.val .bool (false : Bool))), (.a (.val .bool (false : Bool))), (.a (.val (.int .i64) ((0 : Int) : Int))), (.a (.val (.int .i64) ((0 : Int) : Int))), (.a (.val (.int .i64) ((0 : Int) : Int))), (.a .nilptr)]) true)), (115, (.mk (.map 3 114) 1 8 (.some [(.a .nilmap)]) false)), (116, (.mk (.slice 198) 1 24 (.some [(.a .nilsl)]) false)), (198, (.mk .func 1 8 (.some [(.a .nilfn)]) false)), (68, (.mk .func 1 8 (.some [(.a .nilfn)]) false)), (135, (.mk .func 1 8 (.some [(.a .nilfn)]) false)), (194, (.mk .other 1 0 (.some [(.a .undef)]) false)), (121, (.mk .other 1 0 (.some [(.a .undef)]) false)), (109, (.mk .func 1 8 (.some [(.a .nilfn)]) false)), (149, (.mk .other 1 0 (.some [(.a .undef)]) false)), (55, (.mk .func 1 8 (.some [(.a .nilfn)]) false)), (52, (.mk .func 1 8 (.some [(.a .nilfn)]) false)), (166, (.mk (.struct [(0, (1, 9)), (1, (1, 3)), (2, (1, 3)), (3, (1, 3))]) 4 40 (.some [(.a (.val .str (([] : List UInt8) : List UInt8))), (.a (.val (.int .i64) ((0 : Int) : Int))), (.a (.val (.int .i64) ((0 : Int) : Int))), (.a (.val (.int .i64) ((0 : Int) : Int)))]) true)), (167, (.mk (.arr 31 166) 124 1240 (.some [(.a (.val .str (([] : List UInt8) : List UInt8))), (.a (.val (.int .i64) ((0 : Int) : Int))), (.a (.val (.int .i64) ((0 : Int) : Int))), (.a (.val (.int .i64) ((0 : Int) : Int))), (.a (.val .str (([] : List UInt8) : List UInt8))), (.a (.val (.int .i64) ((0 : Int) : Int))), (.a (.val (.int .i64) ((0 : Int) : Int))), (.a (.val (.int .i64) ((0 : Int) : Int))), (.a (.val .str (([] : List UInt8) : List UInt8))), (.a (.val (.int .i64) ((0 : Int) : Int))), (.a (.val (.int .i64) ((0 : Int) : Int))), (.a (.val (.int .i64) ((0 : Int) : Int))), (.a (.val .str (([] : List UInt8) : List UInt8))), (.a (.val (.int .i64) ((0 : Int) : Int))), (.a (.val (.int .i64) ((0 : Int) : Int))), (.a (.val (.int .i64) ((0 : Int) : Int))), (.a (.val .str (([] : List UInt8) : List UInt8))), (.a (.val (.int .i64) ((0 : Int) : Int))), (.a (.val (.int .i64) ((0 : Int) : Int))), (.a (.val (.int .i64) ((0 : Int) : Int))), (.a (.val .str (([] : List UInt8) : List UInt8))), (.a (.val (.int .i64) ((0 : Int) : Int))), (.a (.val (.int .i64) ((0 : Int) : Int))), (.a (.val (.int .i64) ((0 : Int) : Int))), (.a (.val .str (([] : List UInt8) : List UInt8))), (.a (.val (.int .i64) ((0 : Int) : Int))), (.a (.val (.int .i64) ((0 : Int) : Int))), (.a (.val (.int .i64) ((0 : Int) : Int))), (.a (.val .str (([] : List UInt8) : List UInt8))), (.a (.val (.int .i64) ((0 : Int) : Int))), (.a (.val (.int .i64) ((0 : Int) : Int))), (.a (.val (.int .i64) ((0 : Int) : Int))), (.a (.val .str (([] : List UInt8) : List UInt8))), (.a (.val (.int .i64) ((0 : Int) : Int))), (.a (.val (.int .i64) ((0 : Int) : Int))), (.a (.val (.int .i64) ((0 : Int) : Int))), (.a (.val .str (([] : List UInt8) : List UInt8))), (.a (.val (.int .i64) ((0 : Int) : Int))), (.a (.val (.int .i64) ((0 : Int) : Int))), (.a (.val (.int .i64) ((0 : Int) : Int))), (.a (.val .str (([] : List UInt8) : List UInt8))), (.a (.val (.int .i64) ((0 : Int) : Int))), (.a (.val (.int .i64) ((0 : Int) : Int))), (.a (.val (.int .i64) ((0 : Int) : Int))), (.a (.val .str (([] : List UInt8) : List UInt8))), (.a (.val (.int .i64) ((0 : Int) : Int))), (.a (.val (.int .i64) ((0 : Int) : Int))), (.a (.val (.int .i64) ((0 : Int) : Int))), (.a (.val .str (([] : List UInt8) : List UInt8))), (.a (.val (.int .i64) ((0 : Int) : Int))), (.a (.val (.int .i64) ((0 : Int) : Int))), (.a (.val (.int .i64) ((0 : Int) : Int))), (.a (.val .str (([] : List UInt8) : List UInt8))), (.a (.val (.int .i64) ((0 : Int) : Int))), (.a (.val (.int .i64) ((0 : Int) : Int))), (.a (.val (.int .i64) ((0 : Int) : Int))), (.a (.val .str (([] : List UInt8) : List UInt8))), (.a (.val (.int .i64) ((0 : Int) : Int))), (.a (.val (.int .i64) ((0 : Int) : Int))), (.a (.val (.int .i64) ((0 : Int) : Int))), (.a (.val .str (([] : List UInt8) : List UInt8))), (.a (.val (.int .i64) ((0 : Int) : Int))), (.a (.val (.int .i64) ((0 : Int) : Int))), (.a (.val (.int .i64) ((0 : Int) : Int))), (.a (.val .str (([] : List UInt8) : List UInt8))), (.a (.val (.int .i64) ((0 : Int) : Int))), (.a (.val (.int .i64) ((0 : Int) : Int))), (.a (.val (.int .i64) ((0 : Int) : Int))), (.a (.val .str (([] : List UInt8) : List UInt8))), (.a (.val (.int .i64) ((0 : Int) : Int))), (.a (.val (.int .i64) ((0 : Int) : Int))), (.a (.val (.int .i64) ((0 : Int) : Int))), (.a (.val .str (([] : List UInt8) : List UInt8))), (.a (.val (.int .i64) ((0 : Int) : Int))), (.a (.val (.int .i64) ((0 : Int) : Int))), (.a (.val (.int .i64) ((0 : Int) : Int))), (.a (.val .str (([] : List UInt8) : List UInt8))), (.a (.val (.int .i64) ((0 : Int) : Int))), (.a (.val (.int .i64) ((0 : Int) : Int))), (.a (.val (.int .i64) ((0 : Int) : Int))), (.a (.val .str (([] : List UInt8) : List UInt8))), (.a (.val (.int .i64) ((0 : Int) : Int))), (.a (.val (.int .i64) ((0 : Int) : Int))), (.a (.val (.int .i64) ((0 : Int) : Int))), (.a (.val .str (([] : List UInt8) : List UInt8))), (.a (.val (.int .i64) ((0 : Int) : Int))), (.a (.val (.int .i64) ((0 : Int) : Int))), (.a (.val (.int .i64) ((0 : Int) : Int))), (.a (.val .str (([] : List UInt8) : List UInt8))), (.a (.val (.int .i64) ((0 : Int) : Int))), (.a (.val (.int .i64) ((0 : Int) : Int))), (.a (.val (.int .i64) ((0 : Int) : Int))), (.a (.val .str (([] : List UInt8) : List UInt8))), (.a (.val (.int .i64) ((0 : Int) : Int))), (.a (.val (.int .i64) ((0 : Int) : Int))), (.a (.val (.int .i64) ((0 : Int) : Int))), (.a (.val .str (([] : List UInt8) : List UInt8))), (.a (.val (.int .i64) ((0 : Int) : Int))), (.a (.val (.int .i64) ((0 : Int) : Int))), (.a (.val (.int .i64) ((0 : Int) : Int))), (.a (.val .str (([] : List UInt8) : List UInt8))), (.a (.val (.int .i64) ((0 : Int) : Int))), (.a (.val (.int .i64) ((0 : Int) : Int))), (.a (.val (.int .i64) ((0 : Int) : Int))), (.a (.val .str (([] : List UInt8) : List UInt8))), (.a (.val (.int .i64) ((0 : Int) : Int))), (.a (.val (.int .i64) ((0 : Int) : Int))), (.a (.val (.int .i64) ((0 : Int) : Int))), (.a (.val .str (([] : List UInt8) : List UInt8))), (.a (.val (.int .i64) ((0 : Int) : Int))), (.a (.val (.int .i64) ((0 : Int) : Int))), (.a (.val (.int .i64) ((0 : Int) : Int))), (.a (.val .str (([] : List UInt8) : List UInt8))), (.a (.val (.int .i64) ((0 : Int) : Int))), (.a (.val (.int .i64) ((0 : Int) : Int))), (.a (.val (.int .i64) ((0 : Int) : Int))), (.a (.val .str (([] : List UInt8) : List UInt8))), (.a (.val (.int .i64) ((0 : Int) : Int))), (.a (.val (.int .i64) ((0 : Int) : Int))), (.a (.val (.int .i64) ((0 : Int) : Int))), (.a (.val .str (([] : List UInt8) : List UInt8))), (.a (.val (.int .i64) ((0 : Int) : Int))), (.a (.val (.int .i64) ((0 : Int) : Int))), (.a (.val (.int .i64) ((0 : Int) : Int)))]) false)), (170, (.mk .other 1 0 (.some [(.a .undef)]) false)), (207, (.mk (.map 3 4) 1 8 (.some [(.a .nilmap)]) false)), (125, (.mk (.ptr 5) 1 8 (.some [(.a .nilptr)]) false)), (161, (.mk .other 1 8 (.some [(.a .nilptr)]) false)), (49, (.mk .other 1 0 (.some [(.a .undef)]) false)), (102, (.mk (.ptr 106) 1 8 (.some [(.a .nilptr)]) false)), (106, (.mk (.struct [(0, (1, 64)), (1, (1, 25))]) 2 32 (.some [(.a .nilptr), (.a .nilsl)]) true)), (107, (.mk .other 1 0 (.some [(.a .undef)]) false)), (103, (.mk .other 1 0 (.some [(.a .undef)]) false)), (39, (.mk .other 1 0 (.some [(.a .undef)]) false))]
abbrev nK (R : Type) : ASt → (Ex → ASt → Option R) → Option R := fun _ _ => none
abbrev wq0 : Amn := (.val (.int .i64))
abbrev wq1 : Nat × Ab1 := (0, .one (.ptr 0))
abbrev wq2 : Nat × Ab1 := (3, .one (.fn 78))
abbrev wq3 : Nat × Ab1 := (1, .one (.ptr 32))
abbrev wq4 : Nat × Ab1 := (3, .one (.ptr 32))
abbrev wq5 : Nat × Ab1 := (4, .one (.ptr 32))
abbrev wq6 : Nat × Ab1 := (0, .one (.val z4))
abbrev wq7 : Nat × Ab1 := (6, .one (.ptr 33))
abbrev wq8 : Nat × Ab1 := (5, .one (.ptr 32))
abbrev wq9 : Nat × Ab1 := (0, .one (.val z6))
abbrev A1j : Nat × Ab1 := (2, .one (.ptr 32))
abbrev Bko : Nat × Ab1 := (3, .one (.ptr 33))
abbrev Cdt : Nat × Ab1 := (2, .one (.ptr 33))
abbrev Cdu : Nat × Ab1 := (4, .one (.ptr 34))
abbrev Cnm : Nat × Ab1 := (5, .one (.slf 33))
abbrev Ct8 : List Amn := [(.ptr 0), (.slf 1)]
abbrev Cnn : Nat × Ab1 := (80, .one (.val z4))
abbrev Csa : Nat × Ab1 := (10, .one (.val z6))
abbrev B4f : Nat × Ab1 := (0, .one (.val .str))
abbrev Cdv : List (Nat × Ab1) := [wq3]
abbrev Bw1 : List (Nat × Ab1) := [wq4]
abbrev Cno : List (Nat × Ab1) := [wq8]
abbrev Csb : Nat × Ab1 := (0, .one (.val .bool))
abbrev Cnp : Nat × Afh := (1, .row 5 (.int .u8))
abbrev Ct9 : List Amn := [(.ptr 32), (.slf 33)]
abbrev Bn7 : Nat × Ab1 := (7, .one (.val .bool))
abbrev Cnq : Nat × Ab1 := (6, .one (.val .bool))
abbrev Csc : Nat × Ab1 := (2, .one (.val .bool))
abbrev Cnr : Nat × Ab1 := (4, .one (.val .bool))
abbrev Cdw : Nat × Ab1 := (5, .one (.val .bool))
abbrev Cns : Nat × Ab1 := (3, .one (.val .bool))
abbrev B4g : Nat × Ab1 := (8, .one (.val .bool))
abbrev Cnt : Nat × Ab1 := (9, .one (.val .bool))
abbrev Cua : List Amn := [(.slf 35), (.slf 36)]
abbrev Cub : List Amn := [(.slf 37), (.slf 38)]
abbrev Cuc : List Amn := [(.slf 33), (.slf 34)]
abbrev Ci0 : Nat × Ab1 := (1, .one (.fnp 75 [0]))
abbrev Ci1 : Nat × Ab1 := (2, .one (.fnp 74 [0]))
abbrev Ci2 : Nat × Afh := (33, .row 5 (.int .u8))
abbrev Cnu : List (Nat × Ab1) := [B4f]
abbrev Aip : List (Nat × Ab1) := [Csb]
abbrev Cdx : List (Nat × Ab1) := [Cnq]
abbrev A1k : List (Nat × Ab1) := [Csc]
abbrev B4h : Nat × Afh := (33, .row 3 (.int .i64))
abbrev Cdy : Nat × Afh := (34, .row 3 (.int .i64))
abbrev Csd : Nat × Afh := (32, .row 3 (.int .i64))
abbrev Ay5 : List (Nat × Ab1) := [Cnr]
abbrev Brq : List (Nat × Ab1) := [B4g]
abbrev Cse : Nat × Afh := (35, .row 3 (.int .i64))
abbrev Csf : Nat × Afh := (36, .row 3 (.int .i64))
abbrev Csg : Nat × Afh := (37, .row 3 (.int .i64))
abbrev Cud : Nat × Afh := (38, .row 3 (.int .i64))
abbrev Bw2 : Amn := (.val (.list (.int .i64)))
abbrev A1l : Nat × Ab1 := (3, .one wq0)
abbrev A1m : Nat × Ab1 := (4, .one wq0)
abbrev Alp : Nat × Ab1 := (1, .one wq0)
abbrev Cdz : Nat × Ab1 := (0, .one wq0)
abbrev A3a : Nat × Ab1 := (2, .one wq0)
abbrev Bbn : Nat × Ab1 := (5, .one wq0)
abbrev Axb : Nat × Ab1 := (6, .one wq0)
abbrev B4i : Nat × Ab1 := (9, .one wq0)
abbrev Brr : Nat × Ab1 := (7, .one wq0)
abbrev Ci3 : Nat × Ab1 := (8, .one wq0)
abbrev Cd0 : Nat × Ab1 := (10, .one wq0)
abbrev B4j : Nat × Ab1 := (11, .one wq0)
abbrev Cnv : Nat × Ab1 := (37, .one wq0)
abbrev Cnw : Nat × Ab1 := (12, .one wq0)
abbrev Ci4 : Nat × Ab1 := (13, .one wq0)
abbrev Cnx : Nat × Ab1 := (81, .one wq0)
abbrev Cny : Nat × Ab1 := (82, .one wq0)
abbrev Ci5 : Nat × Ab1 := (40, .one wq0)
abbrev Cnz : List (Nat × Ab1) := [A1l]
abbrev Ay6 : List (Nat × Ab1) := [Cdz]
abbrev Ci6 : List (Nat × Ab1) := [A1m]
abbrev Bbo : List (Nat × Ab1) := [A3a]
abbrev Ci7 : List (Nat × Ab1) := [Alp]
abbrev Cue : Nat × Afh := (0, .cells 80 Ct8)
abbrev Cn0 : Nat × Ab1 := (0, .one Bw2)
abbrev Cuf : Nat × Afh := (32, .cells 80 Ct9)
abbrev Cug : Nat × Afh := (33, .cells 130 Cua)
abbrev Cuh : Nat × Afh := (34, .cells 130 Cub)
abbrev Cui : Nat × Afh := (32, .cells 130 Cuc)
abbrev Ci8 : List (Nat × Ab1) := [A1j, Bko]
abbrev Cn1 : List (Nat × Ab1) := [A1j, Cns]
abbrev Cn2 : List (Nat × Ab1) := [Cdz, (1, .one (.ptr 0))]
abbrev Cn3 : List (Nat × Ab1) := [wq6, A1l]
abbrev B4k : List (Nat × Ab1) := [wq6, Alp]
abbrev Cn4 : List (Nat × Ab1) := [wq3, A1l]
abbrev Cn5 : List (Nat × Ab1) := [wq3, Ci3]
abbrev Cd1 : List (Nat × Afh) := [Csd, B4h]
abbrev Ci9 : List (Nat × Ab1) := [B4f, Alp]
abbrev Cja : List Amn := [(.val .str), (.val z3), (.val z1), (.val z4), (.val z6)]
abbrev Cd2 : List Amn := [wq0, wq0, wq0]
abbrev B4l : List (Nat × Afh) := [Cue, Cnp]
abbrev Bw3 : List (Nat × Afh) := [Cuf, Ci2]
abbrev Bw4 : Nat × Ab1 := (0, .agg Cja)
abbrev B4m : List (Nat × Ab1) := [Bw4]
abbrev Cjb : List (Nat × Ab1) := [wq8, Bn7, B4g]
abbrev B4n : Nat × Ab1 := (0, .agg Cd2)
abbrev Cjc : Nat × Afh := (0, .cells 27 Cja)
abbrev Cbt : List (Nat × Ab1) := [B4n]
abbrev Beg : Nat × Afh := (32, .cells 27 Cja)
abbrev Cjd : List Amn := [(.val .str), wq0, wq0, wq0]
abbrev A90 : List (Nat × Afh) := [Cjc]
abbrev Axn : List (Nat × Afh) := [Beg]
abbrev Cje : Nat × Afh := (32, .cells 91 Cd2)
abbrev Ctr : Nat × Afh := (33, .cells 91 Cd2)
abbrev A2l : List (Nat × Afh) := [Cje]
abbrev Cjf : Nat × Ab1 := (2, .agg Cjd)
abbrev Cts : List Amn := [(.val .str), (.val z3), (.slf 34), (.val z1), wq0, wq0]
abbrev Cbu : List Amn := [(.val .str), (.val z3), (.val z4), (.val z1), wq0, wq0]
abbrev Cbv : List (Nat × Ab1) := [Cdz, Alp, A3a]
abbrev Ctt : Nat × Afh := (33, .cells 166 Cjd)
abbrev Cjg : List (Nat × Afh) := [Cui, B4h, Cdy]
abbrev Cjh : Nat × Ab1 := (0, .agg Cbu)
abbrev A50 : List (Nat × Ab1) := [Cjh]
abbrev Cbw : List Amn := [wq0, wq0, wq0, wq0, wq0]
abbrev Cji : Nat × Afh := (33, .cells 89 Cts)
abbrev A51 : Nat × Afh := (32, .cells 89 Cbu)
abbrev Atd : List (Nat × Afh) := [A51]
abbrev Cor : Nat × Afh := (32, .cells 47 Cbw)
abbrev Ctu : Nat × Afh := (33, .cells 47 Cbw)
abbrev B1b : List (Nat × Afh) := [Cor]
abbrev Cjj : List (Nat × Ab1) := [wq3, Cdt, Cdu, Axb, Brr]
abbrev Cjk : List (Nat × Ab1) := [wq3, Cnm, Axb, (8, .one (.slf 34)), B4i]
abbrev Cjl : List (Nat × Afh) := [Beg, Ci2, Cdy]
abbrev Cbx : List (Nat × Ab1) := [Bw4, Alp, A3a]
abbrev Cjm : List (Nat × Ab1) := [Alp, wq8, Csa, B4j, Cnw]
abbrev Cjn : List (Nat × Ab1) := [wq3, A1l, A1m, Bbn, Axb]
abbrev Cjo : List (Nat × Afh) := [Cje, Ctt]
abbrev Btu : List (Nat × Afh) := [A51, Ctr]
abbrev Beh : List (Nat × Afh) := [Beg, Ctu]
abbrev Bn8 : List (Nat × Afh) := [A51, Cug, Cuh, Cse, Csf, Csg, Cud]
def Bdu : Code := Tryz.f5.body.getD .skip
def Ao3 : Code := Tryz.f16.body.getD .skip
def Ais : Aac := ⟨[wq3, A1l, A1m], Axn⟩
def Aro : Aac := ⟨Cnz, []⟩
def Bfi : Acn := .cons (.exit 0) Aro (.nil)
abbrev A3b (R : Type) := Int->Int->(List UInt8)->d3->d1->d2->d4->(Int->Option R)->Option R
abbrev Bfj (R : Type) := Int->Int->(List UInt8)->d3->d1->d2->d4->Option R
abbrev Au0 := {R : Type} → Nat → Nat → A3b R
def Au1 {R : Type} (N : Nat) (rc : Bfj R) : A3b R := fun c a d b e f g h => if ((decide (a < (len b))) = true) then (if (0 ≤ a ∧ a < len b) then (if (0 ≤ a ∧ a < len b) then (rc (wi (c + (wi ((((List.length (b.getD a.toNat (([] : List UInt8), (false, ([] : List Int)))).2.2) : Nat) : Int) + (((List.length (b.getD a.toNat (([] : List UInt8), (false, ([] : List Int)))).1) : Nat) : Int))))) (wi (a + 1)) d b e f g) else none) else none) else h c
def Aef {R : Type} (N : Nat) : Nat → A3b R
 | 0 => fun _ _ _ _ _ _ _ _ => none
 | k + 1 => fun a b c d e f g h => Au1 N (fun a b c d e f g => Aef N k a b c d e f g h) a b c d e f g h
def A3c (Aef : Au0) (N k : Nat) : Aan Ais := fun R x K => Aef N k x.1.2.1 x.1.2.2.1 x.2.1.1 x.2.1.2.1 x.2.1.2.2.1 x.2.1.2.2.2.1 x.2.1.2.2.2.2.1 (fun y0 => K (.exit 0) (Aab Aro ((y0, ()), (()))))
def A3d (N k : Nat) : Aan Ais := A3c @Aef N k
def Bbp : Aac := ⟨B4m, []⟩
def Axo : Aac := ⟨Aip, []⟩
abbrev B8p (R : Type) := (List UInt8)->d3->d1->d2->d4->(Bool->Option R)->Option R
abbrev Awg := {R : Type} → Nat → B8p R
def Bbq (Aef : Au0) : Awg := fun {R} N b c d e f a => if ((decide ((len f) > 33000)) = true) then (a true) else if ((decide ((len e) > 300)) = true) then (a true) else if ((decide ((len c) > 2100)) = true) then (a true) else if ((decide ((len d) > 300)) = true) then (a true) else if ((decide ((len b) > 1000)) = true) then (a true) else Aef N N 0 0 b c d e f fun g => a (decide (g > 20000))
def Ajm : Awg := @Bbq @Aef
def Cqj (N : Nat) : Abs Bbp [Axo] := fun R x C => Ajm N x.1.1.1 x.1.1.2.1 x.1.1.2.2.1 x.1.1.2.2.2.1 x.1.1.2.2.2.2.1 (fun y0 => C.1 ((y0, ()), (())))
def Boo (Ajm : Awg) (N : Nat) : Go.AX.Aaj := Ac6 [true] [] false 1 0 Bbp [Axo] (fun R x C => Ajm N x.1.1.1 x.1.1.2.1 x.1.1.2.2.1 x.1.1.2.2.2.1 x.1.1.2.2.2.2.1 (fun y0 => C.1 ((y0, ()), (()))))
def Bop (N : Nat) : Go.AX.Aaj := Boo @Ajm N
def Cqk (N : Nat) : List (Nat × Ac0) := [(11, Aaa Ais (A3d N N))]
def B8q (N : Nat) : List (Nat × Go.AX.Aaj) := []
def Bbr (N : Nat) : Go.AX.Aaj := Bnt
def Bv1 : Code := Tryz.f18.body.getD .skip
def Ap8 : Code := Tryz.f43.body.getD .skip
def Ajb : Code := Tryz.f27.body.getD .skip
def Aij : Aac := ⟨[Ci0, Ci1, wq4, (8, .one (.ptr 33)), (34, .one wq0), (35, .one wq0)], [Cjc, Beg, Cji, (34, .row 91 z2)]⟩
def Ate : Aac := ⟨[Ci0, Ci1, wq4, (8, .one (.ptr 33))], [Cjc, Beg, Cji, (34, .row 91 z2)]⟩
def Biq : Acn := .cons (.exit 0) Ate (.nil)
abbrev A52 (R : Type) := Int->Int->(List UInt8)->d3->d1->d2->d4->(List UInt8)->d3->d1->d2->d4->(List UInt8)->d3->d1->Int->Int->d2->((List UInt8)->d3->d1->d2->d4->(List UInt8)->d3->d1->d2->d4->(List UInt8)->d3->d1->Int->Int->d2->Option R)->Option R
abbrev Bir (R : Type) := Int->Int->(List UInt8)->d3->d1->d2->d4->(List UInt8)->d3->d1->d2->d4->(List UInt8)->d3->d1->Int->Int->d2->Option R
abbrev Arp := {R : Type} → Nat → Nat → A52 R
def Axp {R : Type} (N : Nat) (rc : Bir R) : A52 R := fun c d e f g h i j l m n o p q r s t a u => if ((decide (d < c)) = true) then (let b := (wi (d + 1)); if ((((List.length a) + (List.length ((24, (b, 0)) :: [(26, (0, 0))]))) * (24 : Nat)) ≤ (70368744177664 : Nat)) then (rc c b e f g h i j l m n o p q r s t (a ++ ((24, (b, 0)) :: [(26, (0, 0))]))) else none) else u e f g h i j l m n o p q r s t a
def Ad0 {R : Type} (N : Nat) : Nat → A52 R
 | 0 => fun _ _ _ _ _ _ _ _ _ _ _ _ _ _ _ _ _ _ _ => none
 | k + 1 => fun a b c d e f g h i j l m n o p q r s t => Axp N (fun a b c d e f g h i j l m n o p q r s => Ad0 N k a b c d e f g h i j l m n o p q r s t) a b c d e f g h i j l m n o p q r s t
def Axq (Ad0 : Arp) (N k : Nat) : Aan Aij := fun R x K => Ad0 N k x.1.2.2.2.2.1 x.1.2.2.2.2.2.1 x.2.1.1 x.2.1.2.1 x.2.1.2.2.1 x.2.1.2.2.2.1 x.2.1.2.2.2.2.1 x.2.2.1.1 x.2.2.1.2.1 x.2.2.1.2.2.1 x.2.2.1.2.2.2.1 x.2.2.1.2.2.2.2.1 x.2.2.2.1.1 x.2.2.2.1.2.1 x.2.2.2.1.2.2.2.1 x.2.2.2.1.2.2.2.2.1 x.2.2.2.1.2.2.2.2.2.1 x.2.2.2.2.1 (fun y0 y1 y2 y3 y4 y5 y6 y7 y8 y9 y10 y11 y12 y13 y14 y15 => K (.exit 0) (Aab Ate (((), (), (), (), ()), ((y0, y1, y2, y3, y4, ()), (y5, y6, y7, y8, y9, ()), (y10, y11, (), y12, y13, y14, ()), y15, ()))))
def A53 (N k : Nat) : Aan Aij := Axq @Ad0 N k
def Boq : Code := Tryz.f62.body.getD .skip
def Ao4 : Code := Tryz.f103.body.getD .skip
def Ait : Aac := ⟨[A1l, (27, .one (.val z3)), (28, .one wq0), (29, .one wq0)], []⟩
def Arq : Aac := ⟨Cnz, []⟩
def Bfk : Acn := .cons (.exit 0) Arq (.nil)
abbrev A3e (R : Type) := Int->d3->Int->Int->(Int->Option R)->Option R
abbrev Bfl (R : Type) := Int->d3->Int->Int->Option R
abbrev Au2 := {R : Type} → Nat → Nat → A3e R
def Au3 {R : Type} (N : Nat) (rc : Bfl R) : A3e R := fun d b c a f => if ((decide (a < c)) = true) then (if (0 ≤ a ∧ a < len b) then (let e := (wi (d + (((List.length (b.getD a.toNat (([] : List UInt8), (false, ([] : List Int)))).2.2) : Nat) : Int))); if ((b.getD a.toNat (([] : List UInt8), (false, ([] : List Int)))).2.1 = true) then (rc (wi (e + (wi (Int.tdiv (wi ((((List.length (b.getD a.toNat (([] : List UInt8), (false, ([] : List Int)))).1) : Nat) : Int) + 2)) 2)))) b c (wi (a + 1))) else rc e b c (wi (a + 1))) else none) else f d
def Aeg {R : Type} (N : Nat) : Nat → A3e R
 | 0 => fun _ _ _ _ _ => none
 | k + 1 => fun a b c d e => Au3 N (fun a b c d => Aeg N k a b c d e) a b c d e
def A3f (Aeg : Au2) (N k : Nat) : Aan Ait := fun R x K => Aeg N k x.1.1 x.1.2.1 x.1.2.2.1 x.1.2.2.2.1 (fun y0 => K (.exit 0) (Aab Arq ((y0, ()), (()))))
def A3g (N k : Nat) : Aan Ait := A3f @Aeg N k
def Bbs : Aac := ⟨A50, []⟩
def Axr : Aac := ⟨Aip, []⟩
abbrev B8r (R : Type) := (List UInt8)->d3->d2->d1->Int->Int->(Bool->Option R)->Option R
abbrev Awh := {R : Type} → Nat → B8r R
def Bbt (Aeg : Au2) : Awh := fun {R} N g b c h d e a => if ((decide ((len c) > 40000)) = true) then (a true) else if ((decide ((len b) > 2000)) = true) then (a true) else if ((decide (d > 200)) = true) then (a true) else if ((decide (e > 20000)) = true) then (a true) else Aeg N N 0 b (len b) 0 fun f => a (decide (f > 7800))
def Ajn : Awh := @Bbt @Aeg
def Cql (N : Nat) : Abs Bbs [Axr] := fun R x C => Ajn N x.1.1.1 x.1.1.2.1 x.1.1.2.2.1 x.1.1.2.2.2.1 x.1.1.2.2.2.2.1 x.1.1.2.2.2.2.2.1 (fun y0 => C.1 ((y0, ()), (())))
def Bor (Ajn : Awh) (N : Nat) : Go.AX.Aaj := Ac6 [true] [] false 1 0 Bbs [Axr] (fun R x C => Ajn N x.1.1.1 x.1.1.2.1 x.1.1.2.2.1 x.1.1.2.2.2.1 x.1.1.2.2.2.2.1 x.1.1.2.2.2.2.2.1 (fun y0 => C.1 ((y0, ()), (()))))
def Bos (N : Nat) : Go.AX.Aaj := Bor @Ajn N
def Cqm (N : Nat) : List (Nat × Ac0) := [(11, Aaa Ait (A3g N N))]
def B8s (N : Nat) : List (Nat × Go.AX.Aaj) := []
def Af8 : Code := Tryz.f104.body.getD .skip
def As6 : Code := Tryz.f160.body.getD .skip
def Alk : Code := Tryz.f56.body.getD .skip
def Aiq (N : Nat) : Go.AX.Aaj := Bbm 80 5
def Aha : Aac := ⟨[wq1, (1, .one (.val (.int .u8)))], [(0, .cells 80 [(.same .nilptr), (.slf 1)]), Cnp]⟩
def Aj8 : Aac := ⟨[(0, .one (.same .nilif))], B4l⟩
abbrev Bag (R : Type) := Int->d0->(d0->Option R)->Option R
abbrev Air := {R : Type} → Nat → Bag R
def Abl : Air := fun {R} N a b c => if ((((List.length b) + (List.length (a :: ([] : List Int)))) * (1 : Nat)) ≤ (70368744177664 : Nat)) then (c (b ++ (a :: ([] : List Int)))) else none
def Bah (N : Nat) : Abs Aha [Aj8] := fun R x C => Abl N x.1.2.1 x.2.2.1 (fun y0 => C.1 (((), ()), (((), (), ()), y0, ())))
def Aoi (Abl : Air) (N : Nat) : Go.AX.Aaj := Ac6 [false, true] (List.replicate 32 true) true 2 2 Aha [Aj8] (fun R x C => Abl N x.1.2.1 x.2.2.1 (fun y0 => C.1 (((), ()), (((), (), ()), y0, ()))))
def Aut (N : Nat) : Go.AX.Aaj := Aoi @Abl N
def Bai (N : Nat) : List (Nat × Ac0) := []
def Auu (N : Nat) : List (Nat × Go.AX.Aaj) := [(100, Aiq N)]
def Aqu (N : Nat) : Go.AX.Aaj := Bbl
def Amr : Aac := ⟨[wq1, (1, .one (.val (.int .u8)))], B4l⟩
def Aiu : Aac := ⟨[(0, .one (.same .nilif))], B4l⟩
abbrev A54 (R : Type) := Int->d0->(d0->Option R)->Option R
abbrev Ab8 := {R : Type} → Nat → A54 R
def Aad : Ab8 := fun {R} N a b c => if ((((List.length b) + (List.length (a :: ([] : List Int)))) * (1 : Nat)) ≤ (70368744177664 : Nat)) then (c (b ++ (a :: ([] : List Int)))) else none
def A55 (N : Nat) : Abs Amr [Aiu] := fun R x C => Aad N x.1.2.1 x.2.2.1 (fun y0 => C.1 (((), ()), (((), (), ()), y0, ())))
def Ae2 (Aad : Ab8) (N : Nat) : Go.AX.Aaj := Ac6 [false, true] (List.replicate 32 true) true 2 2 Amr [Aiu] (fun R x C => Aad N x.1.2.1 x.2.2.1 (fun y0 => C.1 (((), ()), (((), (), ()), y0, ()))))
def Ams (N : Nat) : Go.AX.Aaj := Ae2 @Aad N
def A56 (N : Nat) : List (Nat × Ac0) := []
def Arr (N : Nat) : List (Nat × Go.AX.Aaj) := [(100, Aiq N)]
def Als : Aac := ⟨[B4f, wq5, Cd0, B4j], Bw3⟩
def Axs : Aac := ⟨[(2, .one (.val .str)), A1l], []⟩
def Axt : Aac := ⟨[B4f, wq5], Bw3⟩
def Bot : Acn := .cons .ret Axs (.cons (.exit 0) Axt (.nil))
abbrev Bbu (R : Type) := (List UInt8)->Int->Int->d0->((List UInt8)->Int->Option R)->((List UInt8)->d0->Option R)->Option R
abbrev Bou (R : Type) := (List UInt8)->Int->Int->d0->Option R
abbrev A2m := {R : Type} → Nat → Nat → Bbu R
def A2n (Aad : Ab8) {R : Type} (N : Nat) (rc : Bou R) : Bbu R := fun b e a f g h => if ((decide (a < e)) = true) then (if (0 ≤ a ∧ a < len b) then (let c := (((UInt8.toNat (b.getD a.toNat (0 : UInt8))) : Nat) : Int); let d := (Bll [(10 : UInt8), (9 : UInt8), (42 : UInt8), (34 : UInt8)] c); if ((decide (d ≥ 0)) = true) then (Aad N 42 f fun i => if ((0 ≤ d) ∧ (d < 4)) then (Aad N (((UInt8.toNat (List.getD [(110 : UInt8), (116 : UInt8), (42 : UInt8), (34 : UInt8)] (Int.toNat d) (0 : UInt8))) : Nat) : Int) i fun j => rc b e (wi (a + 1)) j) else none) else if ((decide (c < 32)) = true) then (g ([] : List UInt8) 3) else if ((decide (c > 126)) = true) then (g ([] : List UInt8) 3) else Aad N c f fun l => rc b e (wi (a + 1)) l) else none) else h b f
def Af6 {R : Type} (N : Nat) : Nat → Bbu R
 | 0 => fun _ _ _ _ _ _ => none
 | k + 1 => fun a b c d e f => A2n @Aad N (fun a b c d => Af6 N k a b c d e f) a b c d e f
def Bbv (Af6 : A2m) (N k : Nat) : Aan Als := fun R x K => Af6 N k x.1.1 x.1.2.2.1 x.1.2.2.2.1 x.2.2.1 (fun y0 y1 => K .ret (Aab Axs ((y0, y1, ()), (())))) (fun y0 y1 => K (.exit 0) (Aab Axt ((y0, (), ()), (((), (), ()), y1, ()))))
def Bbw (N k : Nat) : Aan Als := Bbv @Af6 N k
def Ae3 (N : Nat) : Go.AX.Aaj := Beb 80 5
def Bkp : Aac := ⟨Cnu, []⟩
def A2o : Aac := ⟨Ci9, []⟩
abbrev Cfo (R : Type) := (List UInt8)->((List UInt8)->Int->Option R)->Option R
abbrev Aku := {R : Type} → Nat → Cfo R
def Bkq (Abl : Air) (Af6 : A2m) (Aad : Ab8) : Aku := fun {R} N c b => Abl N 34 ([] : List Int) fun d => Af6 N N c (len c) 0 d (fun e f => b e f) fun g h => if ((decide ((len g) > 100)) = true) then (b ([] : List UInt8) 2) else Aad N 34 h fun a => if (((0 : Nat) < (List.length a)) ∧ (((List.length a) ≤ (70368744177664 : Nat)) ∧ ((Amp a) = true))) then (b (Axi a) 0) else none
def Ada : Aku := @Bkq @Abl @Af6 @Aad
def Cs4 (N : Nat) : Abs Bkp [A2o] := fun R x C => Ada N x.1.1 (fun y0 y1 => C.1 ((y0, y1, ()), (())))
def Apw (Ada : Aku) (N : Nat) : Go.AX.Aaj := Ac6 [true] [] false 1 0 Bkp [A2o] (fun R x C => Ada N x.1.1 (fun y0 y1 => C.1 ((y0, y1, ()), (()))))
def Bkr (N : Nat) : Go.AX.Aaj := Apw @Ada N
def Cs5 (N : Nat) : List (Nat × Ac0) := [(9, Aaa Als (Bbw N N))]
def Cfp (N : Nat) : List (Nat × Go.AX.Aaj) := [(56, Aub 2 Aha (Aut N) (Ams N)), (222, Aqu N), (57, Ae3 N)]
def Bov : Code := Tryz.f161.body.getD .skip
def Bbx : Aac := ⟨[], []⟩
def Axu : Aac := ⟨[(0, .agg [(.val .str), wq0, wq0, wq0, (.val .str), wq0, wq0, wq0, (.val .str), wq0, wq0, wq0, (.val .str), wq0, wq0, wq0, (.val .str), wq0, wq0, wq0, (.val .str), wq0, wq0, wq0, (.val .str), wq0, wq0, wq0, (.val .str), wq0, wq0, wq0, (.val .str), wq0, wq0, wq0, (.val .str), wq0, wq0, wq0, (.val .str), wq0, wq0, wq0, (.val .str), wq0, wq0, wq0, (.val .str), wq0, wq0, wq0, (.val .str), wq0, wq0, wq0, (.val .str), wq0, wq0, wq0, (.val .str), wq0, wq0, wq0, (.val .str), wq0, wq0, wq0, (.val .str), wq0, wq0, wq0, (.val .str), wq0, wq0, wq0, (.val .str), wq0, wq0, wq0, (.val .str), wq0, wq0, wq0, (.val .str), wq0, wq0, wq0, (.val .str), wq0, wq0, wq0, (.val .str), wq0, wq0, wq0, (.val .str), wq0, wq0, wq0, (.val .str), wq0, wq0, wq0, (.val .str), wq0, wq0, wq0, (.val .str), wq0, wq0, wq0, (.val .str), wq0, wq0, wq0, (.val .str), wq0, wq0, wq0, (.val .str), wq0, wq0, wq0])], []⟩
abbrev B8t (R : Type) := ((List UInt8)->Int->Int->Int->(List UInt8)->Int->Int->Int->(List UInt8)->Int->Int->Int->(List UInt8)->Int->Int->Int->(List UInt8)->Int->Int->Int->(List UInt8)->Int->Int->Int->(List UInt8)->Int->Int->Int->(List UInt8)->Int->Int->Int->(List UInt8)->Int->Int->Int->(List UInt8)->Int->Int->Int->(List UInt8)->Int->Int->Int->(List UInt8)->Int->Int->Int->(List UInt8)->Int->Int->Int->(List UInt8)->Int->Int->Int->(List UInt8)->Int->Int->Int->(List UInt8)->Int->Int->Int->(List UInt8)->Int->Int->Int->(List UInt8)->Int->Int->Int->(List UInt8)->Int->Int->Int->(List UInt8)->Int->Int->Int->(List UInt8)->Int->Int->Int->(List UInt8)->Int->Int->Int->(List UInt8)->Int->Int->Int->(List UInt8)->Int->Int->Int->(List UInt8)->Int->Int->Int->(List UInt8)->Int->Int->Int->(List UInt8)->Int->Int->Int->(List UInt8)->Int->Int->Int->(List UInt8)->Int->Int->Int->(List UInt8)->Int->Int->Int->(List UInt8)->Int->Int->Int->Option R)->Option R
abbrev Akv := {R : Type} → Nat → B8t R
def Acj : Akv := fun {R} N a => a ([] : List UInt8) 0 0 0 ([(110 : UInt8), (117 : UInt8), (109 : UInt8)]) 1 0 1 ([(108 : UInt8), (111 : UInt8), (99 : UInt8), (97 : UInt8), (108 : UInt8)]) 2 0 1 ([(112 : UInt8), (117 : UInt8), (116 : UInt8), (108 : UInt8)]) 2 1 0 ([(97 : UInt8), (100 : UInt8), (100 : UInt8), (114 : UInt8), (108 : UInt8)]) 2 0 1 ([(103 : UInt8), (108 : UInt8), (111 : UInt8), (98 : UInt8), (97 : UInt8), (108 : UInt8)]) 3 0 1 ([(112 : UInt8), (117 : UInt8), (116 : UInt8), (103 : UInt8)]) 3 1 0 ([(97 : UInt8), (100 : UInt8), (100 : UInt8), (114 : UInt8), (103 : UInt8)]) 3 0 1 ([(115 : UInt8), (116 : UInt8), (97 : UInt8), (116 : UInt8), (105 : UInt8), (99 : UInt8)]) 4 0 1 ([(112 : UInt8), (117 : UInt8), (116 : UInt8), (115 : UInt8)]) 4 1 0 ([(97 : UInt8), (100 : UInt8), (100 : UInt8), (114 : UInt8), (115 : UInt8)]) 4 0 1 ([(112 : UInt8), (114 : UInt8), (111 : UInt8), (99 : UInt8)]) 5 0 1 ([(108 : UInt8), (111 : UInt8), (97 : UInt8), (100 : UInt8)]) 0 1 1 ([(115 : UInt8), (116 : UInt8), (111 : UInt8), (114 : UInt8), (101 : UInt8)]) 0 2 0 ([(103 : UInt8), (101 : UInt8), (116 : UInt8), (98 : UInt8)]) 0 2 1 ([(112 : UInt8), (117 : UInt8), (116 : UInt8), (98 : UInt8)]) 0 3 0 ([(98 : UInt8), (105 : UInt8), (110 : UInt8)]) 7 2 1 ([(117 : UInt8), (110 : UInt8)]) 8 1 1 ([(115 : UInt8), (116 : UInt8), (97 : UInt8), (99 : UInt8), (107 : UInt8)]) 2 0 0 ([(108 : UInt8), (97 : UInt8), (98 : UInt8), (101 : UInt8), (108 : UInt8)]) 6 0 0 ([(106 : UInt8), (117 : UInt8), (109 : UInt8), (112 : UInt8)]) 6 0 0 ([(116 : UInt8), (114 : UInt8), (117 : UInt8), (101 : UInt8)]) 6 1 0 ([(102 : UInt8), (97 : UInt8), (108 : UInt8), (115 : UInt8), (101 : UInt8)]) 6 1 0 ([(99 : UInt8), (97 : UInt8), (108 : UInt8), (108 : UInt8)]) 2 0 0 ([(101 : UInt8), (110 : UInt8), (116 : UInt8), (101 : UInt8), (114 : UInt8)]) 5 0 0 ([(114 : UInt8), (101 : UInt8), (116 : UInt8), (117 : UInt8), (114 : UInt8), (110 : UInt8)]) 0 1 0 ([(98 : UInt8), (97 : UInt8), (99 : UInt8), (107 : UInt8)]) 0 0 0 ([(114 : UInt8), (101 : UInt8), (115 : UInt8), (117 : UInt8), (108 : UInt8), (116 : UInt8)]) 6 1 0 ([(116 : UInt8), (97 : UInt8), (107 : UInt8), (101 : UInt8)]) 2 0 0 ([(115 : UInt8), (119 : UInt8), (105 : UInt8), (116 : UInt8), (99 : UInt8), (104 : UInt8)]) 6 1 0 ([(99 : UInt8), (97 : UInt8), (115 : UInt8), (101 : UInt8)]) 1 0 0
def B8u (N : Nat) : Abs Bbx [Axu] := fun R x C => Acj N  (fun y0 y1 y2 y3 y4 y5 y6 y7 y8 y9 y10 y11 y12 y13 y14 y15 y16 y17 y18 y19 y20 y21 y22 y23 y24 y25 y26 y27 y28 y29 y30 y31 y32 y33 y34 y35 y36 y37 y38 y39 y40 y41 y42 y43 y44 y45 y46 y47 y48 y49 y50 y51 y52 y53 y54 y55 y56 y57 y58 y59 y60 y61 y62 y63 y64 y65 y66 y67 y68 y69 y70 y71 y72 y73 y74 y75 y76 y77 y78 y79 y80 y81 y82 y83 y84 y85 y86 y87 y88 y89 y90 y91 y92 y93 y94 y95 y96 y97 y98 y99 y100 y101 y102 y103 y104 y105 y106 y107 y108 y109 y110 y111 y112 y113 y114 y115 y116 y117 y118 y119 y120 y121 y122 y123 => C.1 (((y0, y1, y2, y3, y4, y5, y6, y7, y8, y9, y10, y11, y12, y13, y14, y15, y16, y17, y18, y19, y20, y21, y22, y23, y24, y25, y26, y27, y28, y29, y30, y31, y32, y33, y34, y35, y36, y37, y38, y39, y40, y41, y42, y43, y44, y45, y46, y47, y48, y49, y50, y51, y52, y53, y54, y55, y56, y57, y58, y59, y60, y61, y62, y63, y64, y65, y66, y67, y68, y69, y70, y71, y72, y73, y74, y75, y76, y77, y78, y79, y80, y81, y82, y83, y84, y85, y86, y87, y88, y89, y90, y91, y92, y93, y94, y95, y96, y97, y98, y99, y100, y101, y102, y103, y104, y105, y106, y107, y108, y109, y110, y111, y112, y113, y114, y115, y116, y117, y118, y119, y120, y121, y122, y123, ()), ()), (())))
def Ao5 (Acj : Akv) (N : Nat) : Go.AX.Aaj := Ac6 [] [] false 0 0 Bbx [Axu] (fun R x C => Acj N  (fun y0 y1 y2 y3 y4 y5 y6 y7 y8 y9 y10 y11 y12 y13 y14 y15 y16 y17 y18 y19 y20 y21 y22 y23 y24 y25 y26 y27 y28 y29 y30 y31 y32 y33 y34 y35 y36 y37 y38 y39 y40 y41 y42 y43 y44 y45 y46 y47 y48 y49 y50 y51 y52 y53 y54 y55 y56 y57 y58 y59 y60 y61 y62 y63 y64 y65 y66 y67 y68 y69 y70 y71 y72 y73 y74 y75 y76 y77 y78 y79 y80 y81 y82 y83 y84 y85 y86 y87 y88 y89 y90 y91 y92 y93 y94 y95 y96 y97 y98 y99 y100 y101 y102 y103 y104 y105 y106 y107 y108 y109 y110 y111 y112 y113 y114 y115 y116 y117 y118 y119 y120 y121 y122 y123 => C.1 (((y0, y1, y2, y3, y4, y5, y6, y7, y8, y9, y10, y11, y12, y13, y14, y15, y16, y17, y18, y19, y20, y21, y22, y23, y24, y25, y26, y27, y28, y29, y30, y31, y32, y33, y34, y35, y36, y37, y38, y39, y40, y41, y42, y43, y44, y45, y46, y47, y48, y49, y50, y51, y52, y53, y54, y55, y56, y57, y58, y59, y60, y61, y62, y63, y64, y65, y66, y67, y68, y69, y70, y71, y72, y73, y74, y75, y76, y77, y78, y79, y80, y81, y82, y83, y84, y85, y86, y87, y88, y89, y90, y91, y92, y93, y94, y95, y96, y97, y98, y99, y100, y101, y102, y103, y104, y105, y106, y107, y108, y109, y110, y111, y112, y113, y114, y115, y116, y117, y118, y119, y120, y121, y122, y123, ()), ()), (()))))
def Bby (N : Nat) : Go.AX.Aaj := Ao5 @Acj N
def B8v (N : Nat) : List (Nat × Ac0) := []
def Bow (N : Nat) : List (Nat × Go.AX.Aaj) := []
def Ars : Code := Tryz.f162.body.getD .skip
def B1c : Code := Tryz.f224.body.getD .skip
def Bn9 : Aac := ⟨Cbv, []⟩
def A57 : Aac := ⟨Aip, []⟩
abbrev Cjp (R : Type) := Int->Int->Int->(Bool->Option R)->Option R
abbrev Ah7 := {R : Type} → Nat → Cjp R
def Aa5 : Ah7 := fun {R} N a c d b => if ((decide (a ≥ c)) = true) then (b (decide (a ≤ d))) else b false
def Cjq (N : Nat) : Abs Bn9 [A57] := fun R x C => Aa5 N x.1.1 x.1.2.1 x.1.2.2.1 (fun y0 => C.1 ((y0, ()), (())))
def Aoc (Aa5 : Ah7) (N : Nat) : Go.AX.Aaj := Ac6 [true, true, true] [] false 3 0 Bn9 [A57] (fun R x C => Aa5 N x.1.1 x.1.2.1 x.1.2.2.1 (fun y0 => C.1 ((y0, ()), (()))))
def A58 (N : Nat) : Go.AX.Aaj := Aoc @Aa5 N
def Cjr (N : Nat) : List (Nat × Ac0) := []
def B1d (N : Nat) : List (Nat × Go.AX.Aaj) := []
def Akd : Aac := ⟨[wq4, (4, .one (.ptr 33)), Bn7], [Cje, (33, .cells 89 Cbu)]⟩
def Au4 : Aac := ⟨Cdx, []⟩
def Baj : Acn := .cons .ret Au4 (.nil)
abbrev Brs (R : Type) := Bool->Int->Int->Int->(List UInt8)->d3->d2->d1->Int->Int->(Bool->Option R)->Option R
abbrev Al8 := {R : Type} → Nat → Brs R
def Ay7 (Aa5 : Ah7) : Al8 := fun {R} N b d i c j l m n o e a => if ((d == 24) = true) then (if (b = true) then (Aa5 N c 0 8 fun f => a f) else a false) else if ((d == 29) = true) then (if (b = true) then (Aa5 N c 0 1000 fun g => a g) else a false) else if ((d == 30) = true) then (if (b = true) then (Aa5 N c 1 e fun h => a h) else a false) else if (b = true) then (a (c == 0)) else a false
def Abr : Al8 := @Ay7 @Aa5
def Ay8 (Abr : Al8) (N : Nat) : Aan Akd := fun R x K => Abr N x.1.2.2.1 x.2.1.1 x.2.1.2.1 x.2.1.2.2.1 x.2.2.1.1 x.2.2.1.2.1 x.2.2.1.2.2.1 x.2.2.1.2.2.2.1 x.2.2.1.2.2.2.2.1 x.2.2.1.2.2.2.2.2.1 (fun y0 => K .ret (Aab Au4 ((y0, ()), (()))))
def Bak (N : Nat) : Aan Akd := Ay8 @Abr N
def Brt : Code := Tryz.f223.body.getD .skip
def Bfm : Aac := ⟨Ay6, []⟩
def A02 : Aac := ⟨Aip, []⟩
abbrev Cd3 (R : Type) := Int->(Bool->Option R)->Option R
abbrev Aoj := {R : Type} → Nat → Cd3 R
def Bfn (Aa5 : Ah7) : Aoj := fun {R} N a b => Aa5 N a (-2147483648) 2147483647 fun c => b c
def Ae4 : Aoj := @Bfn @Aa5
def Csh (N : Nat) : Abs Bfm [A02] := fun R x C => Ae4 N x.1.1 (fun y0 => C.1 ((y0, ()), (())))
def A59 (Ae4 : Aoj) (N : Nat) : Go.AX.Aaj := Ac6 [true] [] false 1 0 Bfm [A02] (fun R x C => Ae4 N x.1.1 (fun y0 => C.1 ((y0, ()), (()))))
def Bfo (N : Nat) : Go.AX.Aaj := A59 @Ae4 N
def Csi (N : Nat) : List (Nat × Ac0) := []
def Cd4 (N : Nat) : List (Nat × Go.AX.Aaj) := [(224, A58 N)]
def A6a : Aac := ⟨[B4n, (1, .agg Cbu), Cjf], []⟩
def Atf : Aac := ⟨Aip, []⟩
abbrev B1e (R : Type) := Int->Int->Int->(List UInt8)->d3->d2->d1->Int->Int->(List UInt8)->Int->Int->Int->(Bool->Option R)->Option R
abbrev Alm := {R : Type} → Nat → B1e R
def A6b (Abr : Al8) (Ae4 : Aoj) (Aa5 : Ah7) : Alm := fun {R} N e a f g b h i c d E l F G j => if ((l == 0) = true) then (Abr N (a == 0) e a f g b h i c d fun m => j m) else if ((l == 1) = true) then (Ae4 N a fun n => Abr N n e a f g b h i c d fun o => j o) else if ((l == 2) = true) then (Aa5 N a 0 4000 fun p => Abr N p e a f g b h i c d fun q => j q) else if ((l == 3) = true) then (Aa5 N a 0 199 fun r => Abr N r e a f g b h i c d fun s => j s) else if ((l == 4) = true) then (Aa5 N a 0 (wi ((len b) - 1)) fun t => Abr N t e a f g b h i c d fun u => j u) else if ((l == 5) = true) then (Aa5 N a 1 c fun v => Abr N v e a f g b h i c d fun w => j w) else if ((l == 6) = true) then (Aa5 N a 1 d fun x => Abr N x e a f g b h i c d fun y => j y) else if ((l == 7) = true) then (Aa5 N a 1 17 fun z => Abr N z e a f g b h i c d fun A => j A) else if ((l == 8) = true) then (if ((a == 18) = true) then (Abr N true e a f g b h i c d fun B => j B) else Abr N (a == 19) e a f g b h i c d fun C => j C) else Abr N false e a f g b h i c d fun D => j D
def Ads : Alm := @A6b @Abr @Ae4 @Aa5
def Cos (N : Nat) : Abs A6a [Atf] := fun R x C => Ads N x.1.1.1 x.1.1.2.1 x.1.1.2.2.1 x.1.2.1.1 x.1.2.1.2.1 x.1.2.1.2.2.1 x.1.2.1.2.2.2.1 x.1.2.1.2.2.2.2.1 x.1.2.1.2.2.2.2.2.1 x.1.2.2.1.1 x.1.2.2.1.2.1 x.1.2.2.1.2.2.1 x.1.2.2.1.2.2.2.1 (fun y0 => C.1 ((y0, ()), (())))
def Art (Ads : Alm) (N : Nat) : Go.AX.Aaj := Ac6 [true, true, true] [] false 3 0 A6a [Atf] (fun R x C => Ads N x.1.1.1 x.1.1.2.1 x.1.1.2.2.1 x.1.2.1.1 x.1.2.1.2.1 x.1.2.1.2.2.1 x.1.2.1.2.2.2.1 x.1.2.1.2.2.2.2.1 x.1.2.1.2.2.2.2.2.1 x.1.2.2.1.1 x.1.2.2.1.2.1 x.1.2.2.1.2.2.1 x.1.2.2.1.2.2.2.1 (fun y0 => C.1 ((y0, ()), (()))))
def Bis (N : Nat) : Go.AX.Aaj := Art @Ads N
def Cot (N : Nat) : List (Nat × Ac0) := [(42, Aaa Akd (Bak N))]
def B1f (N : Nat) : List (Nat × Go.AX.Aaj) := [(224, A58 N), (223, Bfo N)]
def Ag1 : Aac := ⟨[wq3, (5, .one (.ptr 1000)), (35, .one (.val z4)), (36, .one wq0), Cnv], [A51, (1000, .row 167 (.pair .str z2))]⟩
def Aru : Aac := ⟨A1k, []⟩
def Arv : Aac := ⟨Cdv, Atd⟩
def Bfp : Acn := .cons .ret Aru (.cons (.exit 0) Arv (.nil))
abbrev A3h (R : Type) := d2->Int->Int->(List UInt8)->d3->d2->d1->Int->Int->(List ((List UInt8 × (Int × (Int × Int)))))->(Bool->Option R)->((List UInt8)->d3->d2->d1->Int->Int->Option R)->Option R
abbrev Bfq (R : Type) := d2->Int->Int->(List UInt8)->d3->d2->d1->Int->Int->(List ((List UInt8 × (Int × (Int × Int)))))->Option R
abbrev Anh := {R : Type} → Nat → Nat → A3h R
def A3i (Ads : Alm) {R : Type} (N : Nat) (rc : Bfq R) : A3h R := fun d m b e f g h i j c l n => if ((decide (b < m)) = true) then (if (0 ≤ b ∧ b < len d) then (let a := (d.getD b.toNat (0, (0, 0))).1; if ((decide (a < 1)) = true) then (l false) else if ((decide (a ≥ 31)) = true) then (l false) else if ((0 ≤ a) ∧ (a < 31)) then (if (a < (len c)) then (Ads N a ((d.getD b.toNat (0, (0, 0))).2.1) ((d.getD b.toNat (0, (0, 0))).2.2) e f g h i j ((c.getD a.toNat (([] : List UInt8), (0, (0, 0)))).1) ((c.getD a.toNat (([] : List UInt8), (0, (0, 0)))).2.1) ((c.getD a.toNat (([] : List UInt8), (0, (0, 0)))).2.2.1) ((c.getD a.toNat (([] : List UInt8), (0, (0, 0)))).2.2.2) fun o => if ((!o) = true) then (l false) else rc d m (wi (b + 1)) e f g h i j c) else none) else none) else none) else n e f g h i j
def Ac9 {R : Type} (N : Nat) : Nat → A3h R
 | 0 => fun _ _ _ _ _ _ _ _ _ _ _ _ => none
 | k + 1 => fun a b c d e f g h i j l m => A3i @Ads N (fun a b c d e f g h i j => Ac9 N k a b c d e f g h i j l m) a b c d e f g h i j l m
def Ap9 (Ac9 : Anh) (N k : Nat) : Aan Ag1 := fun R x K => Ac9 N k x.1.2.2.1 x.1.2.2.2.1 x.1.2.2.2.2.1 x.2.1.1 x.2.1.2.1 x.2.1.2.2.1 x.2.1.2.2.2.1 x.2.1.2.2.2.2.1 x.2.1.2.2.2.2.2.1 x.2.2.1 (fun y0 => K .ret (Aab Aru ((y0, ()), (())))) (fun y0 y1 y2 y3 y4 y5 => K (.exit 0) (Aab Arv (((), ()), ((y0, y1, y2, y3, y4, y5, ()), ()))))
def A3j (N k : Nat) : Aan Ag1 := Ap9 @Ac9 N k
def Ani : Code := Tryz.f163.body.getD .skip
def Aiv : Aac := ⟨[wq3, (2, .one (.slf 33)), (3, .one (.slf 34)), Bbn, Axb, (18, .one (.val z4)), (19, .one wq0), (20, .one wq0)], [A51, B4h, Cdy]⟩
def Arw : Aac := ⟨[(2, .one (.slf 32)), (3, .one (.slf 33)), Cnr], Cd1⟩
def Arx : Aac := ⟨[wq3, (2, .one (.slf 33)), (3, .one (.slf 34)), Bbn, Axb], [A51, B4h, Cdy]⟩
def Bfr : Acn := .cons .ret Arw (.cons (.exit 0) Arx (.nil))
abbrev A3k (R : Type) := Int->Int->d2->Int->Int->(List UInt8)->d3->d2->d1->Int->Int->d0->d0->(Bool->d0->d0->Option R)->(Int->Int->(List UInt8)->d3->d2->d1->Int->Int->d0->d0->Option R)->Option R
abbrev Bfs (R : Type) := Int->Int->d2->Int->Int->(List UInt8)->d3->d2->d1->Int->Int->d0->d0->Option R
abbrev Au5 := {R : Type} → Nat → Nat → A3k R
def A3l {R : Type} (N : Nat) (rc : Bfs R) : A3k R := fun d f e h b i j l m n o g c p s => if ((decide (b < h)) = true) then (if (0 ≤ b ∧ b < len e) then (let q := (e.getD b.toNat (0, (0, 0))).1; let a := (e.getD b.toNat (0, (0, 0))).2.1; if ((q == 24) = true) then (let r := (wi (d + 1)); if ((a != r) = true) then (p false ([] : List Int) ([] : List Int)) else rc r f e h (wi (b + 1)) i j l m n o g c) else if ((q == 19) = true) then (if (0 ≤ a ∧ a < len c) then (if (((c.getD a.toNat 0) != 0) = true) then (p false ([] : List Int) ([] : List Int)) else if ((d == 0) = true) then (p false ([] : List Int) ([] : List Int)) else if (0 ≤ a ∧ a < len g) then (if (0 ≤ a ∧ a < len c) then (rc d (if (a > f) then a else f) e h (wi (b + 1)) i j l m n o (g.set a.toNat b) (c.set a.toNat d)) else none) else none) else none) else rc d f e h (wi (b + 1)) i j l m n o g c) else none) else s d f i j l m n o g c
def Aev {R : Type} (N : Nat) : Nat → A3k R
 | 0 => fun _ _ _ _ _ _ _ _ _ _ _ _ _ _ _ => none
 | k + 1 => fun a b c d e f g h i j l m n o p => A3l N (fun a b c d e f g h i j l m n => Aev N k a b c d e f g h i j l m n o p) a b c d e f g h i j l m n o p
def A3m (Aev : Au5) (N k : Nat) : Aan Aiv := fun R x K => Aev N k x.1.2.2.2.1 x.1.2.2.2.2.1 x.1.2.2.2.2.2.1 x.1.2.2.2.2.2.2.1 x.1.2.2.2.2.2.2.2.1 x.2.1.1 x.2.1.2.1 x.2.1.2.2.1 x.2.1.2.2.2.1 x.2.1.2.2.2.2.1 x.2.1.2.2.2.2.2.1 x.2.2.1 x.2.2.2.1 (fun y0 y1 y2 => K .ret (Aab Arw (((), (), y0, ()), (y1, y2, ())))) (fun y0 y1 y2 y3 y4 y5 y6 y7 y8 y9 => K (.exit 0) (Aab Arx (((), (), (), y0, y1, ()), ((y2, y3, y4, y5, y6, y7, ()), y8, y9, ()))))
def A3n (N k : Nat) : Aan Aiv := A3m @Aev N k
def A8w : Aac := ⟨A50, []⟩
def Au6 : Aac := ⟨[(0, .one (.slf 32)), (1, .one (.slf 33)), Csc], Cd1⟩
abbrev B4o (R : Type) := (List UInt8)->d3->d2->d1->Int->Int->(Bool->d0->d0->Option R)->Option R
abbrev Aih := {R : Type} → Nat → B4o R
def A8x (Aev : Au5) : Aih := fun {R} N h i b j l d c => let a := (wi (d + 1)); if ((0 ≤ a) ∧ ((a ≤ a) ∧ ((a * 8) ≤ 70368744177664))) then (let e := (List.replicate (Int.toNat a) 0); if ((0 ≤ a) ∧ ((a ≤ a) ∧ ((a * 8) ≤ 70368744177664))) then (Aev N N 0 0 b (len b) 0 h i b j l d e e (fun m n o => c m n o) fun p q t u v w r s f g => if ((p == r) = true) then (c (q == s) f g) else c false f g) else none) else none
def Abv : Aih := @A8x @Aev
def Cp1 (N : Nat) : Abs A8w [Au6] := fun R x C => Abv N x.1.1.1 x.1.1.2.1 x.1.1.2.2.1 x.1.1.2.2.2.1 x.1.1.2.2.2.2.1 x.1.1.2.2.2.2.2.1 (fun y0 y1 y2 => C.1 (((), (), y0, ()), (y1, y2, ())))
def Anj (Abv : Aih) (N : Nat) : Go.AX.Aaj := Ac6 [true] [] false 1 0 A8w [Au6] (fun R x C => Abv N x.1.1.1 x.1.1.2.1 x.1.1.2.2.1 x.1.1.2.2.2.1 x.1.1.2.2.2.2.1 x.1.1.2.2.2.2.2.1 (fun y0 y1 y2 => C.1 (((), (), y0, ()), (y1, y2, ()))))
def A8y (N : Nat) : Go.AX.Aaj := Anj @Abv N
def Cp2 (N : Nat) : List (Nat × Ac0) := [(9, Aaa Aiv (A3n N N))]
def B4p (N : Nat) : List (Nat × Go.AX.Aaj) := []
def Af9 : Code := Tryz.f164.body.getD .skip
def Ag2 : Aac := ⟨[wq6, A1l, (28, .one wq0), (29, .one wq0)], []⟩
def Ary : Aac := ⟨A1k, []⟩
def Arz : Aac := ⟨Cn3, []⟩
def Bft : Acn := .cons .ret Ary (.cons (.exit 3) Arz (.nil))
abbrev A3o (R : Type) := d2->Int->Int->Int->(Bool->Option R)->(d2->Int->Option R)->Option R
abbrev Bfu (R : Type) := d2->Int->Int->Int->Option R
abbrev Ank := {R : Type} → Nat → Nat → A3o R
def Au7 {R : Type} (N : Nat) (rc : Bfu R) : A3o R := fun a c e d f g => if ((decide (d < e)) = true) then (let b := (wi ((wi (c + 1)) + d)); if ((decide (b ≥ (len a))) = true) then (f false) else if (0 ≤ b ∧ b < len a) then (if (((a.getD b.toNat (0, (0, 0))).1 != 30) = true) then (f false) else rc a c e (wi (d + 1))) else none) else g a c
def Acu {R : Type} (N : Nat) : Nat → A3o R
 | 0 => fun _ _ _ _ _ _ => none
 | k + 1 => fun a b c d e f => Au7 N (fun a b c d => Acu N k a b c d e f) a b c d e f
def Aqa (Acu : Ank) (N k : Nat) : Aan Ag2 := fun R x K => Acu N k x.1.1 x.1.2.1 x.1.2.2.1 x.1.2.2.2.1 (fun y0 => K .ret (Aab Ary ((y0, ()), (())))) (fun y0 y1 => K (.exit 3) (Aab Arz ((y0, y1, ()), (()))))
def A3p (N k : Nat) : Aan Ag2 := Aqa @Acu N k
def Ay9 : Code := Tryz.f170.body.getD .skip
def Amt : Aac := ⟨[wq6, Alp, B4i, (10, .one (.val .bool))], []⟩
def A1n : Aac := ⟨Ay5, []⟩
def A1o : Aac := ⟨[], []⟩
def Bit : Acn := .cons .ret A1n (.cons .normal A1o (.nil))
abbrev B1g (R : Type) := d2->Int->Int->Bool->(Bool->Option R)->(Option R)->Option R
abbrev Ar0 := {R : Type} → Nat → B1g R
def Aex : Ar0 := fun {R} N a b e f c g => if (f = true) then (c true) else if ((e == 29) = true) then (if (0 ≤ b ∧ b < len a) then (c ((a.getD b.toNat (0, (0, 0))).2.2 == 0)) else none) else if ((e == 30) = true) then (let d := (wi (b + 1)); if ((d == (len a)) = true) then (c true) else if (0 ≤ d ∧ d < len a) then (c ((a.getD d.toNat (0, (0, 0))).1 != 30)) else none) else g
def A6c (Aex : Ar0) (N : Nat) : Aan Amt := fun R x K => Aex N x.1.1 x.1.2.1 x.1.2.2.1 x.1.2.2.2.1 (fun y0 => K .ret (Aab A1n ((y0, ()), (())))) (K .normal (Aab A1o ((()), (()))))
def Biu (N : Nat) : Aan Amt := A6c @Aex N
def Bfv : Aac := ⟨B4k, []⟩
def A03 : Aac := ⟨Aip, []⟩
abbrev Cd5 (R : Type) := d2->Int->(Bool->Option R)->Option R
abbrev Ake := {R : Type} → Nat → Cd5 R
def Bfw (Aex : Ar0) : Ake := fun {R} N d c b => if (0 ≤ c ∧ c < len d) then (let a := (d.getD c.toNat (0, (0, 0))).1; if ((a == 20) = true) then (Aex N d c a (a == 20) (fun e => b e) (b false)) else if ((a == 25) = true) then (Aex N d c a (a == 25) (fun f => b f) (b false)) else if ((a == 26) = true) then (Aex N d c a (a == 26) (fun g => b g) (b false)) else Aex N d c a (a == 27) (fun h => b h) (b false)) else none
def Abu : Ake := @Bfw @Aex
def Csj (N : Nat) : Abs Bfv [A03] := fun R x C => Abu N x.1.1 x.1.2.1 (fun y0 => C.1 ((y0, ()), (())))
def Aqb (Abu : Ake) (N : Nat) : Go.AX.Aaj := Ac6 [true, true] [] false 2 0 Bfv [A03] (fun R x C => Abu N x.1.1 x.1.2.1 (fun y0 => C.1 ((y0, ()), (()))))
def Bfx (N : Nat) : Go.AX.Aaj := Aqb @Abu N
def Csk (N : Nat) : List (Nat × Ac0) := [(12, Aaa Amt (Biu N))]
def Cd6 (N : Nat) : List (Nat × Go.AX.Aaj) := []
def Aiw : Aac := ⟨[wq6, A1l, Cnr], []⟩
def Aza : Aac := ⟨A1k, []⟩
def Azb : Aac := ⟨Cn3, []⟩
def Bfy : Acn := .cons .ret Aza (.cons .normal Azb (.nil))
abbrev Bw5 (R : Type) := d2->Int->Bool->(Bool->Option R)->(d2->Int->Option R)->Option R
abbrev Akf := {R : Type} → Nat → Bw5 R
def A3q (Abu : Ake) : Akf := fun {R} N a b f e c => if (f = true) then (Abu N a b fun g => if ((!g) = true) then (e false) else c a b) else let d := (wi (b + 1)); if (0 ≤ d ∧ d < len a) then (if (((a.getD d.toNat (0, (0, 0))).1 == 24) = true) then (Abu N a b fun h => if ((!h) = true) then (e false) else c a b) else c a b) else none
def Abj : Akf := @A3q @Abu
def Aqc (Abj : Akf) (N : Nat) : Aan Aiw := fun R x K => Abj N x.1.1 x.1.2.1 x.1.2.2.1 (fun y0 => K .ret (Aab Aza ((y0, ()), (())))) (fun y0 y1 => K .normal (Aab Azb ((y0, y1, ()), (()))))
def Bfz (N : Nat) : Aan Aiw := Aqc @Abj N
def Ahn : Aac := ⟨Cn3, []⟩
def Atg : Aac := ⟨A1k, []⟩
def Ath : Aac := ⟨[wq6], []⟩
def Biv : Acn := .cons .ret Atg (.cons (.exit 0) Ath (.nil))
abbrev A6d (R : Type) := d2->Int->(Bool->Option R)->(d2->Option R)->Option R
abbrev Biw (R : Type) := d2->Int->Option R
abbrev Aoo := {R : Type} → Nat → Nat → A6d R
def A6e (Acu : Ank) (Abj : Akf) {R : Type} (N : Nat) (rc : Biw R) : A6d R := fun a b d l => if ((decide (b < (len a))) = true) then (let c := (wi (b + 1)); if (0 ≤ b ∧ b < len a) then (let h := (a.getD b.toNat (0, (0, 0))).1; if ((h == 29) = true) then (if (0 ≤ b ∧ b < len a) then (Acu N N a b ((a.getD b.toNat (0, (0, 0))).2.2) 0 (fun m => d m) fun e g => if (0 ≤ g ∧ g < len e) then (let i := (wi (g + (e.getD g.toNat (0, (0, 0))).2.2)); let f := (wi (i + 1)); if ((!(f == (len e))) = true) then (if (0 ≤ f ∧ f < len e) then (if (((e.getD f.toNat (0, (0, 0))).1 == 30) = true) then (d false) else Abj N e i (f == (len e)) (fun n => d n) fun o p => rc o (wi (p + 1))) else none) else Abj N e i (f == (len e)) (fun q => d q) fun r s => rc r (wi (s + 1))) else none) else none) else if ((h == 30) = true) then (d false) else if ((h == 19) = true) then (if ((c == (len a)) = true) then (d false) else if (0 ≤ c ∧ c < len a) then (let j := (a.getD c.toNat (0, (0, 0))).1; if ((j != 18) = true) then (if (0 ≤ c ∧ c < len a) then (if ((j != 28) = true) then (if (0 ≤ c ∧ c < len a) then (if ((j != 19) = true) then (d false) else Abj N a b (c == (len a)) (fun t => d t) fun u v => rc u (wi (v + 1))) else none) else Abj N a b (c == (len a)) (fun w => d w) fun x y => rc x (wi (y + 1))) else none) else Abj N a b (c == (len a)) (fun z => d z) fun A B => rc A (wi (B + 1))) else none) else Abj N a b (c == (len a)) (fun C => d C) fun D E => rc D (wi (E + 1))) else none) else l a
def Acf {R : Type} (N : Nat) : Nat → A6d R
 | 0 => fun _ _ _ _ => none
 | k + 1 => fun a b c d => A6e @Acu @Abj N (fun a b => Acf N k a b c d) a b c d
def Ar1 (Acf : Aoo) (N k : Nat) : Aan Ahn := fun R x K => Acf N k x.1.1 x.1.2.1 (fun y0 => K .ret (Aab Atg ((y0, ()), (())))) (fun y0 => K (.exit 0) (Aab Ath ((y0, ()), (()))))
def A6f (N k : Nat) : Aan Ahn := Ar1 @Acf N k
def Bbz : Aac := ⟨[wq6], []⟩
def Axv : Aac := ⟨Aip, []⟩
abbrev B8w (R : Type) := d2->(Bool->Option R)->Option R
abbrev Am2 := {R : Type} → Nat → B8w R
def Bb0 (Acf : Aoo) : Am2 := fun {R} N c a => Acf N N c 0 (fun d => a d) fun b => if (((len b) == 0) = true) then (a true) else if (((0 :Int) ≤ (0 :Int)) ∧ (0 < (len b))) then (a ((List.getD b (0 : Nat) (0, (0, 0))).1 == 24)) else none
def Aej : Am2 := @Bb0 @Acf
def Cqn (N : Nat) : Abs Bbz [Axv] := fun R x C => Aej N x.1.1 (fun y0 => C.1 ((y0, ()), (())))
def Awi (Aej : Am2) (N : Nat) : Go.AX.Aaj := Ac6 [true] [] false 1 0 Bbz [Axv] (fun R x C => Aej N x.1.1 (fun y0 => C.1 ((y0, ()), (()))))
def Box (N : Nat) : Go.AX.Aaj := Awi @Aej N
def Cqo (N : Nat) : List (Nat × Ac0) := [(17, Aaa Ag2 (A3p N N)), (44, Aaa Aiw (Bfz N)), (5, Aaa Ahn (A6f N N))]
def B8x (N : Nat) : List (Nat × Go.AX.Aaj) := [(170, Bfx N)]
def Aic : Code := Tryz.f165.body.getD .skip
def As9 : Code := Tryz.f225.body.getD .skip
def Aga : Code := Tryz.f240.body.getD .skip
def Bix : Code := Tryz.f226.body.getD .skip
def A6g : Aac := ⟨Ay6, []⟩
def Ati : Aac := ⟨Aip, []⟩
abbrev B1h (R : Type) := Int->(Bool->Option R)->Option R
abbrev Aop := {R : Type} → Nat → B1h R
def A6h (Ae4 : Aoj) : Aop := fun {R} N a b => Ae4 N a fun c => b (!c)
def Afo : Aop := @A6h @Ae4
def Cou (N : Nat) : Abs A6g [Ati] := fun R x C => Afo N x.1.1 (fun y0 => C.1 ((y0, ()), (())))
def A6i (Afo : Aop) (N : Nat) : Go.AX.Aaj := Ac6 [true] [] false 1 0 A6g [Ati] (fun R x C => Afo N x.1.1 (fun y0 => C.1 ((y0, ()), (()))))
def Biy (N : Nat) : Go.AX.Aaj := A6i @Afo N
def Cov (N : Nat) : List (Nat × Ac0) := []
def B1i (N : Nat) : List (Nat × Go.AX.Aaj) := [(223, Bfo N)]
def Ad6 : Aac := ⟨[Cn0, (1, .one (.fn 226)), Brr, Ci3], []⟩
def Aj0 : Aac := ⟨Ci6, []⟩
def Aj1 : Aac := ⟨[], []⟩
def Aue : Acn := .cons .ret Aj0 (.cons (.exit 0) Aj1 (.nil))
abbrev Anl (R : Type) := d0->Int->Int->(Int->Option R)->(Option R)->Option R
abbrev Auf (R : Type) := d0->Int->Int->Option R
abbrev Akz := {R : Type} → Nat → Nat → Anl R
def Ak0 (Afo : Aop) {R : Type} (N : Nat) (rc : Auf R) : Anl R := fun b c a d e => if ((decide (a < c)) = true) then (if (0 ≤ a ∧ a < len b) then (Afo N (b.getD a.toNat 0) fun f => if (f = true) then (d a) else rc b c (wi (a + 1))) else none) else e
def Aa7 {R : Type} (N : Nat) : Nat → Anl R
 | 0 => fun _ _ _ _ _ => none
 | k + 1 => fun a b c d e => Ak0 @Afo N (fun a b c => Aa7 N k a b c d e) a b c d e
def Anm (Aa7 : Akz) (N k : Nat) : Aan Ad6 := fun R x K => Aa7 N k x.1.1 x.1.2.2.1 x.1.2.2.2.1 (fun y0 => K .ret (Aab Aj0 ((y0, ()), (())))) (K (.exit 0) (Aab Aj1 ((()), (()))))
def Ann (N k : Nat) : Aan Ad6 := Anm @Aa7 N k
def Ao6 : Aac := ⟨[Cn0, (1, .one (.fn 226))], []⟩
def Ak1 : Aac := ⟨Ay6, []⟩
abbrev Bb1 (R : Type) := d0->(Int->Option R)->Option R
abbrev Ajc := {R : Type} → Nat → Bb1 R
def Ao7 (Aa7 : Akz) : Ajc := fun {R} N a b => Aa7 N N a (len a) 0 (fun c => b c) (b (-1))
def Adl : Ajc := @Ao7 @Aa7
def B8y (N : Nat) : Abs Ao6 [Ak1] := fun R x C => Adl N x.1.1 (fun y0 => C.1 ((y0, ()), (())))
def Awj (Adl : Ajc) (N : Nat) : Go.AX.Aaj := Ac6 [true, true] [] false 2 0 Ao6 [Ak1] (fun R x C => Adl N x.1.1 (fun y0 => C.1 ((y0, ()), (()))))
def Awk (N : Nat) : Go.AX.Aaj := Awj @Adl N
def B8z (N : Nat) : List (Nat × Ac0) := [(5, Aaa Ad6 (Ann N N))]
def Bb2 (N : Nat) : List (Nat × Go.AX.Aaj) := [(226, Biy N)]
def Anb : Aac := ⟨[Cn0, (1, .one (.fn 226))], []⟩
def Aji : Aac := ⟨Aip, []⟩
abbrev A79 (R : Type) := d0->(Bool->Option R)->Option R
abbrev Afb := {R : Type} → Nat → A79 R
def Anc (Adl : Ajc) : Afb := fun {R} N a b => Adl N a fun c => b (decide (c ≥ 0))
def Aa0 : Afb := @Anc @Adl
def B3j (N : Nat) : Abs Anb [Aji] := fun R x C => Aa0 N x.1.1 (fun y0 => C.1 ((y0, ()), (())))
def Aj9 (Aa0 : Afb) (N : Nat) : Go.AX.Aaj := Ac6 [true, true] [] false 2 0 Anb [Aji] (fun R x C => Aa0 N x.1.1 (fun y0 => C.1 ((y0, ()), (()))))
def Ata (N : Nat) : Go.AX.Aaj := Aj9 @Aa0 N
def B3k (N : Nat) : List (Nat × Ac0) := []
def A8a (N : Nat) : List (Nat × Go.AX.Aaj) := [(240, Awk N)]
def Aik : Aac := ⟨[wq3, (11, .one (.val z3)), Cnw, Ci4], Atd⟩
def Atj : Aac := ⟨A1k, []⟩
def Atk : Aac := ⟨Cdv, Atd⟩
def Biz : Acn := .cons .ret Atj (.cons (.exit 0) Atk (.nil))
abbrev A6j (R : Type) := d3->Int->Int->(List UInt8)->d3->d2->d1->Int->Int->(Bool->Option R)->((List UInt8)->d3->d2->d1->Int->Int->Option R)->Option R
abbrev Bi0 (R : Type) := d3->Int->Int->(List UInt8)->d3->d2->d1->Int->Int->Option R
abbrev Ar2 := {R : Type} → Nat → Nat → A6j R
def Axw (Ada : Aku) (Aa0 : Afb) {R : Type} (N : Nat) (rc : Bi0 R) : A6j R := fun b d a e f g h i j c n => if ((decide (a < d)) = true) then (if (0 ≤ a ∧ a < len b) then (let m := (b.getD a.toNat (([] : List UInt8), (false, ([] : List Int)))).1; let l := (b.getD a.toNat (([] : List UInt8), (false, ([] : List Int)))).2.2; if ((b.getD a.toNat (([] : List UInt8), (false, ([] : List Int)))).2.1 = true) then (Ada N m fun q o => if ((o != 0) = true) then (c false) else if ((decide ((len l) > 0)) = true) then (c false) else rc b d (wi (a + 1)) e f g h i j) else if ((!(m == ([] : List UInt8))) = true) then (c false) else if (((len l) == 0) = true) then (c false) else Aa0 N l fun p => if (p = true) then (c false) else rc b d (wi (a + 1)) e f g h i j) else none) else n e f g h i j
def Ad1 {R : Type} (N : Nat) : Nat → A6j R
 | 0 => fun _ _ _ _ _ _ _ _ _ _ _ => none
 | k + 1 => fun a b c d e f g h i j l => Axw @Ada @Aa0 N (fun a b c d e f g h i => Ad1 N k a b c d e f g h i j l) a b c d e f g h i j l
def Axx (Ad1 : Ar2) (N k : Nat) : Aan Aik := fun R x K => Ad1 N k x.1.2.1 x.1.2.2.1 x.1.2.2.2.1 x.2.1.1 x.2.1.2.1 x.2.1.2.2.1 x.2.1.2.2.2.1 x.2.1.2.2.2.2.1 x.2.1.2.2.2.2.2.1 (fun y0 => K .ret (Aab Atj ((y0, ()), (())))) (fun y0 y1 y2 y3 y4 y5 => K (.exit 0) (Aab Atk (((), ()), ((y0, y1, y2, y3, y4, y5, ()), ()))))
def A6k (N k : Nat) : Aan Aik := Axx @Ad1 N k
def Ahy : Aac := ⟨[wq3, (7, .one (.mp 33)), (50, .one (.val z1)), (51, .one wq0), (52, .one wq0)], [A51, (33, .amap 207 (.int .i64) .bool)]⟩
def Ar3 : Aac := ⟨A1k, []⟩
def Ar4 : Aac := ⟨[], []⟩
def Bf0 : Acn := .cons .ret Ar3 (.cons (.exit 2) Ar4 (.nil))
abbrev A3r (R : Type) := d1->Int->Int->(List UInt8)->d3->d2->d1->Int->Int->(List (Int × Bool))->(Bool->Option R)->(Option R)->Option R
abbrev Bf1 (R : Type) := d1->Int->Int->(List UInt8)->d3->d2->d1->Int->Int->(List (Int × Bool))->Option R
abbrev Aqd := {R : Type} → Nat → Nat → A3r R
def Au8 (Aa5 : Ah7) {R : Type} (N : Nat) (rc : Bf1 R) : A3r R := fun b e a h i j l f m g c n => if ((decide (a < e)) = true) then (if (0 ≤ a ∧ a < len b) then (let d := (b.getD a.toNat (0, 0)).1; Aa5 N d 1 199 fun o => if ((!o) = true) then (c false) else if ((Option.getD (A1i (kt := (.int .i64)) (et := .bool) d g) false) = true) then (c false) else Aa5 N ((b.getD a.toNat (0, 0)).2) 1 f fun p => if ((!p) = true) then (c false) else rc b e (wi (a + 1)) h i j l f m (A25 (kt := (.int .i64)) (et := .bool) d true g)) else none) else n
def Ade {R : Type} (N : Nat) : Nat → A3r R
 | 0 => fun _ _ _ _ _ _ _ _ _ _ _ _ => none
 | k + 1 => fun a b c d e f g h i j l m => Au8 @Aa5 N (fun a b c d e f g h i j => Ade N k a b c d e f g h i j l m) a b c d e f g h i j l m
def Au9 (Ade : Aqd) (N k : Nat) : Aan Ahy := fun R x K => Ade N k x.1.2.2.1 x.1.2.2.2.1 x.1.2.2.2.2.1 x.2.1.1 x.2.1.2.1 x.2.1.2.2.1 x.2.1.2.2.2.1 x.2.1.2.2.2.2.1 x.2.1.2.2.2.2.2.1 x.2.2.1 (fun y0 => K .ret (Aab Ar3 ((y0, ()), (())))) (K (.exit 2) (Aab Ar4 ((()), (()))))
def A3s (N k : Nat) : Aan Ahy := Au9 @Ade N k
def Bb3 : Aac := ⟨A50, []⟩
def Axy : Aac := ⟨Aip, []⟩
abbrev B80 (R : Type) := (List UInt8)->d3->d2->d1->Int->Int->(Bool->Option R)->Option R
abbrev Am3 := {R : Type} → Nat → B80 R
def Bb4 (Ad1 : Ar2) (Ade : Aqd) : Am3 := fun {R} N d a e f g h b => Ad1 N N a (len a) 0 d a e f g h (fun i => b i) fun j l m c n o => Ade N N c (len c) 0 j l m c n o ([] : List (Int × Bool)) (fun p => b p) (b true)
def Aek : Am3 := @Bb4 @Ad1 @Ade
def Cqp (N : Nat) : Abs Bb3 [Axy] := fun R x C => Aek N x.1.1.1 x.1.1.2.1 x.1.1.2.2.1 x.1.1.2.2.2.1 x.1.1.2.2.2.2.1 x.1.1.2.2.2.2.2.1 (fun y0 => C.1 ((y0, ()), (())))
def Awl (Aek : Am3) (N : Nat) : Go.AX.Aaj := Ac6 [true] [] false 1 0 Bb3 [Axy] (fun R x C => Aek N x.1.1.1 x.1.1.2.1 x.1.1.2.2.1 x.1.1.2.2.2.1 x.1.1.2.2.2.2.1 x.1.1.2.2.2.2.2.1 (fun y0 => C.1 ((y0, ()), (()))))
def Boy (N : Nat) : Go.AX.Aaj := Awl @Aek N
def Cqq (N : Nat) : List (Nat × Ac0) := [(5, Aaa Aik (A6k N N)), (27, Aaa Ahy (A3s N N))]
def B81 (N : Nat) : List (Nat × Go.AX.Aaj) := [(160, Bkr N), (225, Ata N), (224, A58 N)]
def Awm : Code := Tryz.f166.body.getD .skip
def Alx : Aac := ⟨[wq3, A1m, Cdw], A2l⟩
def Azc : Aac := ⟨Bbo, []⟩
def Azd : Aac := ⟨[], []⟩
def Bf2 : Acn := .cons .ret Azc (.cons .normal Azd (.nil))
abbrev Bw6 (R : Type) := Int->Bool->Int->Int->Int->(Int->Option R)->(Option R)->Option R
abbrev Aqe := {R : Type} → Nat → Bw6 R
def Ad7 : Aqe := fun {R} N b c g d e a f => if (c = true) then (a d) else if ((b == 30) = true) then (a e) else f
def A3t (Ad7 : Aqe) (N : Nat) : Aan Alx := fun R x K => Ad7 N x.1.2.1 x.1.2.2.1 x.2.1.1 x.2.1.2.1 x.2.1.2.2.1 (fun y0 => K .ret (Aab Azc ((y0, ()), (())))) (K .normal (Aab Azd ((()), (()))))
def Bf3 (N : Nat) : Aan Alx := A3t @Ad7 N
def Bb5 : Aac := ⟨Cbt, []⟩
def Axz : Aac := ⟨Ay6, []⟩
abbrev B82 (R : Type) := Int->Int->Int->(Int->Option R)->Option R
abbrev Ajd := {R : Type} → Nat → B82 R
def Bb6 (Ad7 : Aqe) : Ajd := fun {R} N a c d b => if ((a == 20) = true) then (Ad7 N a (a == 20) a c d (fun e => b e) (b 0)) else if ((a == 21) = true) then (Ad7 N a (a == 21) a c d (fun f => b f) (b 0)) else if ((a == 22) = true) then (Ad7 N a (a == 22) a c d (fun g => b g) (b 0)) else if ((a == 27) = true) then (Ad7 N a (a == 27) a c d (fun h => b h) (b 0)) else Ad7 N a (a == 29) a c d (fun i => b i) (b 0)
def Ab0 : Ajd := @Bb6 @Ad7
def Cqr (N : Nat) : Abs Bb5 [Axz] := fun R x C => Ab0 N x.1.1.1 x.1.1.2.1 x.1.1.2.2.1 (fun y0 => C.1 ((y0, ()), (())))
def Ao8 (Ab0 : Ajd) (N : Nat) : Go.AX.Aaj := Ac6 [true] [] false 1 0 Bb5 [Axz] (fun R x C => Ab0 N x.1.1.1 x.1.1.2.1 x.1.1.2.2.1 (fun y0 => C.1 ((y0, ()), (()))))
def Bb7 (N : Nat) : Go.AX.Aaj := Ao8 @Ab0 N
def Cqs (N : Nat) : List (Nat × Ac0) := [(14, Aaa Alx (Bf3 N))]
def B83 (N : Nat) : List (Nat × Go.AX.Aaj) := []
def Aix : Aac := ⟨[(8, .one (.slf 32)), (9, .one (.slf 33)), B4j, (13, .one (.ptr 34)), Cnn, Cnx, Cny], [Csd, B4h, (34, .cells 91 Cd2)]⟩
def Aze : Aac := ⟨A1k, []⟩
def Azf : Aac := ⟨[(8, .one (.slf 32)), (9, .one (.slf 33)), B4j, Cnn, Cnx, Cny], Cd1⟩
def Bf4 : Acn := .cons .ret Aze (.cons .normal Azf (.nil))
abbrev Bw7 (R : Type) := Int->d2->Int->Int->d0->d0->Int->Int->Int->(Bool->Option R)->(Int->d2->Int->Int->d0->d0->Option R)->Option R
abbrev Akg := {R : Type} → Nat → Bw7 R
def A3u (Ab0 : Ajd) : Akg := fun {R} N d e f g b c j l m h i => Ab0 N j l m fun a => if ((decide (a > 0)) = true) then (if (0 ≤ a ∧ a < len c) then (if (((c.getD a.toNat 0) != d) = true) then (h false) else if (0 ≤ a ∧ a < len b) then (if (((b.getD a.toNat 0) == 0) = true) then (h false) else i d e f g b c) else none) else none) else i d e f g b c
def Adf : Akg := @A3u @Ab0
def Aqf (Adf : Akg) (N : Nat) : Aan Aix := fun R x K => Adf N x.1.2.2.1 x.1.2.2.2.2.1 x.1.2.2.2.2.2.1 x.1.2.2.2.2.2.2.1 x.2.1 x.2.2.1 x.2.2.2.1.1 x.2.2.2.1.2.1 x.2.2.2.1.2.2.1 (fun y0 => K .ret (Aab Aze ((y0, ()), (())))) (fun y0 y1 y2 y3 y4 y5 => K .normal (Aab Azf (((), (), y0, y1, y2, y3, ()), (y4, y5, ()))))
def Bf5 (N : Nat) : Aan Aix := Aqf @Adf N
def Ag3 : Aac := ⟨[(8, .one (.slf 32)), (9, .one (.slf 33)), B4j, Cnn, Cnx, Cny], Cd1⟩
def Ar5 : Aac := ⟨A1k, []⟩
def Ar6 : Aac := ⟨[], []⟩
def Bf6 : Acn := .cons .ret Ar5 (.cons (.exit 2) Ar6 (.nil))
abbrev A3v (R : Type) := Int->d2->Int->Int->d0->d0->(Bool->Option R)->(Option R)->Option R
abbrev Bf7 (R : Type) := Int->d2->Int->Int->d0->d0->Option R
abbrev Ano := {R : Type} → Nat → Nat → A3v R
def A3w (Adf : Akg) {R : Type} (N : Nat) (rc : Bf7 R) : A3v R := fun j b c a f g h l => if ((decide (a < c)) = true) then (if (0 ≤ a ∧ a < len b) then (let d := (b.getD a.toNat (0, (0, 0))).1; let e := (b.getD a.toNat (0, (0, 0))).2.1; let i := (b.getD a.toNat (0, (0, 0))).2.2; if ((d == 24) = true) then (Adf N e b c a f g d e i (fun m => h m) fun n o p q r s => rc n o p (wi (q + 1)) r s) else Adf N j b c a f g d e i (fun t => h t) fun u v w x y z => rc u v w (wi (x + 1)) y z) else none) else l
def Acv {R : Type} (N : Nat) : Nat → A3v R
 | 0 => fun _ _ _ _ _ _ _ _ => none
 | k + 1 => fun a b c d e f g h => A3w @Adf N (fun a b c d e f => Acv N k a b c d e f g h) a b c d e f g h
def Aqg (Acv : Ano) (N k : Nat) : Aan Ag3 := fun R x K => Acv N k x.1.2.2.1 x.1.2.2.2.1 x.1.2.2.2.2.1 x.1.2.2.2.2.2.1 x.2.1 x.2.2.1 (fun y0 => K .ret (Aab Ar5 ((y0, ()), (())))) (K (.exit 2) (Aab Ar6 ((()), (()))))
def A3x (N k : Nat) : Aan Ag3 := Aqg @Acv N k
def Bb8 : Aac := ⟨A50, []⟩
def Ax0 : Aac := ⟨Aip, []⟩
abbrev B84 (R : Type) := (List UInt8)->d3->d2->d1->Int->Int->(Bool->Option R)->Option R
abbrev Awn := {R : Type} → Nat → B84 R
def Bb9 (Ada : Aku) (Acj : Akv) (Ac9 : Anh) (Abv : Aih) (Aej : Am2) (Aek : Am3) (Acv : Ano) : Awn := fun {R} N d m c n e f a => Ada N d fun y0 o => if ((o != 0) = true) then (a false) else if ((decide (e < 0)) = true) then (a false) else if ((decide (f < 0)) = true) then (a false) else Acj N fun p q r s t u v w x y z A B C D E F G H I J L M O P Q S T U V W X Y Z aa ab ac ad ae af ag ah ai aj ak al am an ao ap aq ar au av aw ax ay az ba bb bc bd be bf bg bh bi bj bk bl bm bn bo bp bq br bs bt bu bv bw bx bz ca cb cc cd ce cf cg ch ci cj ck cl cm cn co cp cq cr cs ct cu cv cw cx cy cz da db dc dd de df dg dh di dj dk dl dm dn dp => Ac9 N N c (len c) 0 d m c n e f ((p, (q, (r, s))) :: ((t, (u, (v, w))) :: ((x, (y, (z, A))) :: ((B, (C, (D, E))) :: ((F, (G, (H, I))) :: ((J, (L, (M, O))) :: ((P, (Q, (S, T))) :: ((U, (V, (W, X))) :: ((Y, (Z, (aa, ab))) :: ((ac, (ad, (ae, af))) :: ((ag, (ah, (ai, aj))) :: ((ak, (al, (am, an))) :: ((ao, (ap, (aq, ar))) :: ((au, (av, (aw, ax))) :: ((ay, (az, (ba, bb))) :: ((bc, (bd, (be, bf))) :: ((bg, (bh, (bi, bj))) :: ((bk, (bl, (bm, bn))) :: ((bo, (bp, (bq, br))) :: ((bs, (bt, (bu, bv))) :: ((bw, (bx, (bz, ca))) :: ((cb, (cc, (cd, ce))) :: ((cf, (cg, (ch, ci))) :: ((cj, (ck, (cl, cm))) :: ((cn, (co, (cp, cq))) :: ((cr, (cs, (ct, cu))) :: ((cv, (cw, (cx, cy))) :: ((cz, (da, (db, dc))) :: ((dd, (de, (df, dg))) :: ((dh, (di, (dj, dk))) :: ((dl, (dm, (dn, dp))) :: ([] : List (List UInt8 × Int × Int × Int))))))))))))))))))))))))))))))))) (fun dq => a dq) fun g h b i j l => Abv N g h b i j l fun dr ds dt => if ((!dr) = true) then (a false) else Aej N b fun du => if ((!du) = true) then (a false) else Aek N g h b i j l fun dv => if ((!dv) = true) then (a false) else Acv N N 0 b (len b) 0 ds dt (fun dw => a dw) (a true)
def Ajo : Awn := @Bb9 @Ada @Acj @Ac9 @Abv @Aej @Aek @Acv
def Cqt (N : Nat) : Abs Bb8 [Ax0] := fun R x C => Ajo N x.1.1.1 x.1.1.2.1 x.1.1.2.2.1 x.1.1.2.2.2.1 x.1.1.2.2.2.2.1 x.1.1.2.2.2.2.2.1 (fun y0 => C.1 ((y0, ()), (())))
def Boz (Ajo : Awn) (N : Nat) : Go.AX.Aaj := Ac6 [true] [] false 1 0 Bb8 [Ax0] (fun R x C => Ajo N x.1.1.1 x.1.1.2.1 x.1.1.2.2.1 x.1.1.2.2.2.1 x.1.1.2.2.2.2.1 x.1.1.2.2.2.2.2.1 (fun y0 => C.1 ((y0, ()), (()))))
def Bo0 (N : Nat) : Go.AX.Aaj := Boz @Ajo N
def Cqu (N : Nat) : List (Nat × Ac0) := [(13, Aaa Ag1 (A3j N N)), (40, Aaa Aix (Bf5 N)), (33, Aaa Ag3 (A3x N N))]
def B85 (N : Nat) : List (Nat × Go.AX.Aaj) := [(160, Bkr N), (161, Bby N), (162, Bis N), (163, A8y N), (164, Box N), (165, Boy N), (166, Bb7 N)]
def Amu : Code := Tryz.f105.body.getD .skip
def Aok : Code := Tryz.f167.body.getD .skip
def Al9 : Aac := ⟨[Alp, Cns, wq5, wq7, Cd0, (11, .one (.val .bool))], Cjo⟩
def A3y : Aac := ⟨Brq, []⟩
def A3z : Aac := ⟨[Alp, wq5, wq7], Cjo⟩
def Bl2 : Acn := .cons .ret A3y (.cons .normal A3z (.nil))
abbrev B4q (R : Type) := Int->Bool->Int->Bool->Int->Int->Int->(List UInt8)->Int->Int->Int->(Bool->Option R)->(Int->Int->Int->Int->(List UInt8)->Int->Int->Int->Option R)->Option R
abbrev Anp := {R : Type} → Nat → B4q R
def A8z (Aa5 : Ah7) : Anp := fun {R} N b m l n c a d e f g h j i => if (n = true) then (Aa5 N a 2 (wi (b - 1)) fun o => if ((!o) = true) then (j false) else i b c a d e f g h) else if ((l == 4) = true) then (if ((decide (a < 2)) = true) then (j false) else i b c a d e f g h) else if ((l == 23) = true) then (Aa5 N a 2 (wi (b - 3)) fun p => if ((!p) = true) then (j false) else i b c a d e f g h) else if ((l == 18) = true) then (if ((!m) = true) then (if ((decide (a > (wi ((wi (b + 2000)) + 2)))) = true) then (j false) else i b c a d e f g h) else i b c a d e f g h) else i b c a d e f g h
def Afj : Anp := @A8z @Aa5
def A04 (Afj : Anp) (N : Nat) : Aan Al9 := fun R x K => Afj N x.1.1 x.1.2.1 x.1.2.2.2.2.1 x.1.2.2.2.2.2.1 x.2.1.1 x.2.1.2.1 x.2.1.2.2.1 x.2.2.1.1 x.2.2.1.2.1 x.2.2.1.2.2.1 x.2.2.1.2.2.2.1 (fun y0 => K .ret (Aab A3y ((y0, ()), (())))) (fun y0 y1 y2 y3 y4 y5 y6 y7 => K .normal (Aab A3z ((y0, (), (), ()), ((y1, y2, y3, ()), (y4, y5, y6, y7, ()), ()))))
def Bl3 (N : Nat) : Aan Al9 := A04 @Afj N
def Aln : Aac := ⟨[Alp, wq5, wq7], Cjo⟩
def A1p : Aac := ⟨Brq, []⟩
def Bi1 : Acn := .cons .ret A1p (.nil)
abbrev B1j (R : Type) := Int->Int->Int->Int->(List UInt8)->Int->Int->Int->(Bool->Option R)->Option R
abbrev Aoq := {R : Type} → Nat → B1j R
def Aep : Aoq := fun {R} N b c e f g h d i a => if ((c == 24) = true) then (a true) else a (decide ((wi (b - d)) ≥ 2))
def Ax1 (Aep : Aoq) (N : Nat) : Aan Aln := fun R x K => Aep N x.1.1 x.2.1.1 x.2.1.2.1 x.2.1.2.2.1 x.2.2.1.1 x.2.2.1.2.1 x.2.2.1.2.2.1 x.2.2.1.2.2.2.1 (fun y0 => K .ret (Aab A1p ((y0, ()), (()))))
def Bi2 (N : Nat) : Aan Aln := Ax1 @Aep N
def Bf8 : Aac := ⟨[B4n, Alp, Cjf, Cns], []⟩
def A05 : Aac := ⟨Aip, []⟩
abbrev Cd7 (R : Type) := Int->Int->Int->Int->(List UInt8)->Int->Int->Int->Bool->(Bool->Option R)->Option R
abbrev Aug := {R : Type} → Nat → Cd7 R
def Bf9 (Afj : Anp) (Aep : Aoq) : Aug := fun {R} N a c d e f g h i j b => if ((a == 2) = true) then (Afj N e j a (a == 2) a c d f g h i (fun l => b l) fun m n o p q r s t => Aep N m n o p q r s t fun u => b u) else Afj N e j a (a == 3) a c d f g h i (fun v => b v) fun w x y z A B C D => Aep N w x y z A B C D fun E => b E
def Af5 : Aug := @Bf9 @Afj @Aep
def Csl (N : Nat) : Abs Bf8 [A05] := fun R x C => Af5 N x.1.1.1 x.1.1.2.1 x.1.1.2.2.1 x.1.2.1 x.1.2.2.1.1 x.1.2.2.1.2.1 x.1.2.2.1.2.2.1 x.1.2.2.1.2.2.2.1 x.1.2.2.2.1 (fun y0 => C.1 ((y0, ()), (())))
def Bga (Af5 : Aug) (N : Nat) : Go.AX.Aaj := Ac6 [true, true, true, true] [] false 4 0 Bf8 [A05] (fun R x C => Af5 N x.1.1.1 x.1.1.2.1 x.1.1.2.2.1 x.1.2.1 x.1.2.2.1.1 x.1.2.2.1.2.1 x.1.2.2.1.2.2.1 x.1.2.2.1.2.2.2.1 x.1.2.2.2.1 (fun y0 => C.1 ((y0, ()), (()))))
def Bru (N : Nat) : Go.AX.Aaj := Bga @Af5 N
def Csm (N : Nat) : List (Nat × Ac0) := [(8, Aaa Al9 (Bl3 N)), (30, Aaa Aln (Bi2 N))]
def Cd8 (N : Nat) : List (Nat × Go.AX.Aaj) := [(224, A58 N)]
def Am4 : Code := Tryz.f168.body.getD .skip
def Akh : Aac := ⟨Bw1, A2l⟩
def Azg : Aac := ⟨[Axb], []⟩
def Bgb : Acn := .cons .ret Azg (.nil)
abbrev Bw8 (R : Type) := Int->Int->Int->(Int->Option R)->Option R
abbrev Anq := {R : Type} → Nat → Bw8 R
def Ad8 : Anq := fun {R} N c a d b => b (wi (a + 1))
def Ava (Ad8 : Anq) (N : Nat) : Aan Akh := fun R x K => Ad8 N x.2.1.1 x.2.1.2.1 x.2.1.2.2.1 (fun y0 => K .ret (Aab Azg ((y0, ()), (()))))
def Bgc (N : Nat) : Aan Akh := Ava @Ad8 N
def Aki : Aac := ⟨[Alp, wq8], [(32, .cells 166 Cjd)]⟩
def Azh : Aac := ⟨[Axb], []⟩
def Bgd : Acn := .cons .ret Azh (.nil)
abbrev Bw9 (R : Type) := Int->(List UInt8)->Int->Int->Int->(Int->Option R)->Option R
abbrev Anr := {R : Type} → Nat → Bw9 R
def Aeh : Anr := fun {R} N a e f b c d => d (wi ((wi (a - b)) + c))
def Avb (Aeh : Anr) (N : Nat) : Aan Aki := fun R x K => Aeh N x.1.1 x.2.1.1 x.2.1.2.1 x.2.1.2.2.1 x.2.1.2.2.2.1 (fun y0 => K .ret (Aab Azh ((y0, ()), (()))))
def Bge (N : Nat) : Aan Aki := Avb @Aeh N
def Bca : Aac := ⟨[B4n, Alp, Cjf], []⟩
def Ax2 : Aac := ⟨Ay6, []⟩
abbrev B86 (R : Type) := Int->Int->Int->Int->(List UInt8)->Int->Int->Int->(Int->Option R)->Option R
abbrev Aq4 := {R : Type} → Nat → B86 R
def Bcb (Ad8 : Anq) (Aeh : Anr) : Aq4 := fun {R} N a c d e f g h i b => if ((a == 18) = true) then (b c) else if ((a == 24) = true) then (b (wi (2 + d))) else if ((a == 23) = true) then (Ad8 N a c d fun j => b j) else if ((a == 28) = true) then (Ad8 N a c d fun l => b l) else Aeh N e f g h i fun m => b m
def Aft : Aq4 := @Bcb @Ad8 @Aeh
def Cqv (N : Nat) : Abs Bca [Ax2] := fun R x C => Aft N x.1.1.1 x.1.1.2.1 x.1.1.2.2.1 x.1.2.1 x.1.2.2.1.1 x.1.2.2.1.2.1 x.1.2.2.1.2.2.1 x.1.2.2.1.2.2.2.1 (fun y0 => C.1 ((y0, ()), (())))
def Bcc (Aft : Aq4) (N : Nat) : Go.AX.Aaj := Ac6 [true, true, true] [] false 3 0 Bca [Ax2] (fun R x C => Aft N x.1.1.1 x.1.1.2.1 x.1.1.2.2.1 x.1.2.1 x.1.2.2.1.1 x.1.2.2.1.2.1 x.1.2.2.1.2.2.1 x.1.2.2.1.2.2.2.1 (fun y0 => C.1 ((y0, ()), (()))))
def Bo1 (N : Nat) : Go.AX.Aaj := Bcc @Aft N
def Cqw (N : Nat) : List (Nat × Ac0) := [(16, Aaa Akh (Bgc N)), (18, Aaa Aki (Bge N))]
def B87 (N : Nat) : List (Nat × Go.AX.Aaj) := []
def Ao9 : Code := Tryz.f169.body.getD .skip
def Aj2 : Aac := ⟨B4k, []⟩
def Atl : Aac := ⟨Ci7, []⟩
def Bi3 : Acn := .cons (.exit 0) Atl (.nil)
abbrev A6l (R : Type) := d2->Int->(Int->Option R)->Option R
abbrev Bi4 (R : Type) := d2->Int->Option R
abbrev Ax3 := {R : Type} → Nat → Nat → A6l R
def A6m {R : Type} (N : Nat) (rc : Bi4 R) : A6l R := fun b a c => if (0 ≤ a ∧ a < len b) then (if (((b.getD a.toNat (0, (0, 0))).1 == 19) = true) then (rc b (wi (a + 1))) else c a) else none
def Ae6 {R : Type} (N : Nat) : Nat → A6l R
 | 0 => fun _ _ _ => none
 | k + 1 => fun a b c => A6m N (fun a b => Ae6 N k a b c) a b c
def A6n (Ae6 : Ax3) (N k : Nat) : Aan Aj2 := fun R x K => Ae6 N k x.1.1 x.1.2.1 (fun y0 => K (.exit 0) (Aab Atl ((y0, ()), (()))))
def A6o (N k : Nat) : Aan Aj2 := A6n @Ae6 N k
def Bcd : Aac := ⟨B4k, []⟩
def Ax4 : Aac := ⟨Ay6, []⟩
abbrev B88 (R : Type) := d2->Int->(Int->Option R)->Option R
abbrev Aq5 := {R : Type} → Nat → B88 R
def Bce (Ae6 : Ax3) : Aq5 := fun {R} N a b c => Ae6 N N a b fun d => c d
def Adu : Aq5 := @Bce @Ae6
def Cqx (N : Nat) : Abs Bcd [Ax4] := fun R x C => Adu N x.1.1 x.1.2.1 (fun y0 => C.1 ((y0, ()), (())))
def Bcf (Adu : Aq5) (N : Nat) : Go.AX.Aaj := Ac6 [true, true] [] false 2 0 Bcd [Ax4] (fun R x C => Adu N x.1.1 x.1.2.1 (fun y0 => C.1 ((y0, ()), (()))))
def Bo2 (N : Nat) : Go.AX.Aaj := Bcf @Adu N
def Cqy (N : Nat) : List (Nat × Ac0) := [(3, Aaa Aj2 (A6o N N))]
def B89 (N : Nat) : List (Nat × Go.AX.Aaj) := []
def Aho : Aac := ⟨[wq3, (3, .one (.ptr 1000)), (4, .one (.slf 33)), Brr, (19, .one (.val z4)), (20, .one wq0), (21, .one wq0)], [A51, B4h, (1000, .row 167 (.pair .str z2))]⟩
def Apo : Aac := ⟨A1k, []⟩
def App : Aac := ⟨[], []⟩
def Bal : Acn := .cons .ret Apo (.cons (.exit 0) App (.nil))
abbrev Azi (R : Type) := Int->d2->Int->Int->(List UInt8)->d3->d2->d1->Int->Int->d0->(List ((List UInt8 × (Int × (Int × Int)))))->(Bool->Option R)->(Option R)->Option R
abbrev Aol (R : Type) := Int->d2->Int->Int->(List UInt8)->d3->d2->d1->Int->Int->d0->(List ((List UInt8 × (Int × (Int × Int)))))->Option R
abbrev Ar7 := {R : Type} → Nat → Nat → Azi R
def Azj (Af5 : Aug) (Aft : Aq4) (Ab0 : Ajd) (Adu : Aq5) (Abu : Ake) {R : Type} (N : Nat) (rc : Aol R) : Azi R := fun s e g c h i a j l m f d n L => if ((decide (c < g)) = true) then (if (0 ≤ c ∧ c < len e) then (let b := (e.getD c.toNat (0, (0, 0))).1; let q := (e.getD c.toNat (0, (0, 0))).2.1; let r := (e.getD c.toNat (0, (0, 0))).2.2; if ((0 ≤ b) ∧ (b < 31)) then (if (b < (len d)) then (let t := (d.getD b.toNat (([] : List UInt8), (0, (0, 0)))).1; let u := (d.getD b.toNat (([] : List UInt8), (0, (0, 0)))).2.1; let v := (d.getD b.toNat (([] : List UInt8), (0, (0, 0)))).2.2.1; let w := (d.getD b.toNat (([] : List UInt8), (0, (0, 0)))).2.2.2; if ((decide (c > 0)) = true) then (let D := (wi (c - 1)); if (0 ≤ D ∧ D < len a) then (Af5 N b q r s t u v w ((a.getD D.toNat (0, (0, 0))).1 == 19) fun M => if ((!M) = true) then (n false) else if ((0 ≤ b) ∧ (b < 31)) then (if (b < (len d)) then (Aft N b q r s t u v w fun o => if ((decide (o < 2)) = true) then (n false) else if ((decide (o > 4000)) = true) then (n false) else Ab0 N b q r fun x => if ((decide (x > 0)) = true) then (if (0 ≤ x ∧ x < len f) then (Adu N a (f.getD x.toNat 0) fun E => if (0 ≤ E ∧ E < len a) then (if ((!(((a.getD E.toNat (0, (0, 0))).1 == 28) == (b == 27))) = true) then (n false) else if ((b != 19) = true) then (Abu N a c fun O => if ((!O) = true) then (let y := (wi (c + 1)); if ((decide (y < (len a))) = true) then (Adu N a y fun F => if (0 ≤ F ∧ F < len a) then (if (((a.getD F.toNat (0, (0, 0))).1 == 28) = true) then (n false) else rc o e g y h i a j l m f d) else none) else rc o e g y h i a j l m f d) else rc o e g (wi (c + 1)) h i a j l m f d) else rc o e g (wi (c + 1)) h i a j l m f d) else none) else none) else if ((b != 19) = true) then (Abu N a c fun P => if ((!P) = true) then (let z := (wi (c + 1)); if ((decide (z < (len a))) = true) then (Adu N a z fun G => if (0 ≤ G ∧ G < len a) then (if (((a.getD G.toNat (0, (0, 0))).1 == 28) = true) then (n false) else rc o e g z h i a j l m f d) else none) else rc o e g z h i a j l m f d) else rc o e g (wi (c + 1)) h i a j l m f d) else rc o e g (wi (c + 1)) h i a j l m f d) else none) else none) else none) else Af5 N b q r s t u v w false fun Q => if ((!Q) = true) then (n false) else if ((0 ≤ b) ∧ (b < 31)) then (if (b < (len d)) then (Aft N b q r s t u v w fun p => if ((decide (p < 2)) = true) then (n false) else if ((decide (p > 4000)) = true) then (n false) else Ab0 N b q r fun A => if ((decide (A > 0)) = true) then (if (0 ≤ A ∧ A < len f) then (Adu N a (f.getD A.toNat 0) fun H => if (0 ≤ H ∧ H < len a) then (if ((!(((a.getD H.toNat (0, (0, 0))).1 == 28) == (b == 27))) = true) then (n false) else if ((b != 19) = true) then (Abu N a c fun S => if ((!S) = true) then (let B := (wi (c + 1)); if ((decide (B < (len a))) = true) then (Adu N a B fun I => if (0 ≤ I ∧ I < len a) then (if (((a.getD I.toNat (0, (0, 0))).1 == 28) = true) then (n false) else rc p e g B h i a j l m f d) else none) else rc p e g B h i a j l m f d) else rc p e g (wi (c + 1)) h i a j l m f d) else rc p e g (wi (c + 1)) h i a j l m f d) else none) else none) else if ((b != 19) = true) then (Abu N a c fun T => if ((!T) = true) then (let C := (wi (c + 1)); if ((decide (C < (len a))) = true) then (Adu N a C fun J => if (0 ≤ J ∧ J < len a) then (if (((a.getD J.toNat (0, (0, 0))).1 == 28) = true) then (n false) else rc p e g C h i a j l m f d) else none) else rc p e g C h i a j l m f d) else rc p e g (wi (c + 1)) h i a j l m f d) else rc p e g (wi (c + 1)) h i a j l m f d) else none) else none) else none) else none) else none) else L
def Adk {R : Type} (N : Nat) : Nat → Azi R
 | 0 => fun _ _ _ _ _ _ _ _ _ _ _ _ _ _ => none
 | k + 1 => fun a b c d e f g h i j l m n o => Azj @Af5 @Aft @Ab0 @Adu @Abu N (fun a b c d e f g h i j l m => Adk N k a b c d e f g h i j l m n o) a b c d e f g h i j l m n o
def Azk (Adk : Ar7) (N k : Nat) : Aan Aho := fun R x K => Adk N k x.1.2.2.2.1 x.1.2.2.2.2.1 x.1.2.2.2.2.2.1 x.1.2.2.2.2.2.2.1 x.2.1.1 x.2.1.2.1 x.2.1.2.2.1 x.2.1.2.2.2.1 x.2.1.2.2.2.2.1 x.2.1.2.2.2.2.2.1 x.2.2.1 x.2.2.2.1 (fun y0 => K .ret (Aab Apo ((y0, ()), (())))) (K (.exit 0) (Aab App ((()), (()))))
def Azl (N k : Nat) : Aan Aho := Azk @Adk N k
def A6p : Aac := ⟨A50, []⟩
def Atm : Aac := ⟨Aip, []⟩
abbrev B1k (R : Type) := (List UInt8)->d3->d2->d1->Int->Int->(Bool->Option R)->Option R
abbrev Ar8 := {R : Type} → Nat → B1k R
def A6q (Acj : Akv) (Abv : Aih) (Adk : Ar7) : Ar8 := fun {R} N b c a d e f g => Acj N fun h i j l m n o p q r s t u v w x y z A B C D E F G H I J L M O P Q S T U V W X Y Z aa ab ac ad ae af ag ah ai aj ak al am an ao ap aq ar au av aw ax ay az ba bb bc bd be bf bg bh bi bj bk bl bm bn bo bp bq br bs bt bu bv bw bx bz ca cb cc cd ce cf cg ch ci cj ck cl cm cn co cp cq cr cs ct cu cv cw cx cy cz da db dc dd de df dg dh => Abv N b c a d e f fun dk di dl => Adk N N 0 a (len a) 0 b c a d e f di ((h, (i, (j, l))) :: ((m, (n, (o, p))) :: ((q, (r, (s, t))) :: ((u, (v, (w, x))) :: ((y, (z, (A, B))) :: ((C, (D, (E, F))) :: ((G, (H, (I, J))) :: ((L, (M, (O, P))) :: ((Q, (S, (T, U))) :: ((V, (W, (X, Y))) :: ((Z, (aa, (ab, ac))) :: ((ad, (ae, (af, ag))) :: ((ah, (ai, (aj, ak))) :: ((al, (am, (an, ao))) :: ((ap, (aq, (ar, au))) :: ((av, (aw, (ax, ay))) :: ((az, (ba, (bb, bc))) :: ((bd, (be, (bf, bg))) :: ((bh, (bi, (bj, bk))) :: ((bl, (bm, (bn, bo))) :: ((bp, (bq, (br, bs))) :: ((bt, (bu, (bv, bw))) :: ((bx, (bz, (ca, cb))) :: ((cc, (cd, (ce, cf))) :: ((cg, (ch, (ci, cj))) :: ((ck, (cl, (cm, cn))) :: ((co, (cp, (cq, cr))) :: ((cs, (ct, (cu, cv))) :: ((cw, (cx, (cy, cz))) :: ((da, (db, (dc, dd))) :: ((de, (df, (dg, dh))) :: ([] : List (List UInt8 × Int × Int × Int))))))))))))))))))))))))))))))))) (fun dj => g dj) (g true)
def Ahj : Ar8 := @A6q @Acj @Abv @Adk
def Cow (N : Nat) : Abs A6p [Atm] := fun R x C => Ahj N x.1.1.1 x.1.1.2.1 x.1.1.2.2.1 x.1.1.2.2.2.1 x.1.1.2.2.2.2.1 x.1.1.2.2.2.2.2.1 (fun y0 => C.1 ((y0, ()), (())))
def Bi5 (Ahj : Ar8) (N : Nat) : Go.AX.Aaj := Ac6 [true] [] false 1 0 A6p [Atm] (fun R x C => Ahj N x.1.1.1 x.1.1.2.1 x.1.1.2.2.1 x.1.1.2.2.2.1 x.1.1.2.2.2.2.1 x.1.1.2.2.2.2.2.1 (fun y0 => C.1 ((y0, ()), (()))))
def Bi6 (N : Nat) : Go.AX.Aaj := Bi5 @Ahj N
def Cox (N : Nat) : List (Nat × Ac0) := [(11, Aaa Aho (Azl N N))]
def B1l (N : Nat) : List (Nat × Go.AX.Aaj) := [(161, Bby N), (163, A8y N), (167, Bru N), (168, Bo1 N), (166, Bb7 N), (169, Bo2 N), (170, Bfx N)]
def Bcg : Aac := ⟨A50, []⟩
def Ax5 : Aac := ⟨Ay6, []⟩
abbrev B9a (R : Type) := (List UInt8)->d3->d2->d1->Int->Int->(Int->Option R)->Option R
abbrev Apa := {R : Type} → Nat → B9a R
def Bch (Ajn : Awh) (Ajo : Awn) (Ahj : Ar8) : Apa := fun {R} N b c d e f g a => Ajn N b c d e f g fun h => if (h = true) then (a 2) else Ajo N b c d e f g fun i => if ((!i) = true) then (a 60) else Ahj N b c d e f g fun j => if ((!j) = true) then (a 61) else a 0
def Afu : Apa := @Bch @Ajn @Ajo @Ahj
def Cqz (N : Nat) : Abs Bcg [Ax5] := fun R x C => Afu N x.1.1.1 x.1.1.2.1 x.1.1.2.2.1 x.1.1.2.2.2.1 x.1.1.2.2.2.2.1 x.1.1.2.2.2.2.2.1 (fun y0 => C.1 ((y0, ()), (())))
def A2p (Afu : Apa) (N : Nat) : Go.AX.Aaj := Ac6 [true] [] false 1 0 Bcg [Ax5] (fun R x C => Afu N x.1.1.1 x.1.1.2.1 x.1.1.2.2.1 x.1.1.2.2.2.1 x.1.1.2.2.2.2.1 x.1.1.2.2.2.2.2.1 (fun y0 => C.1 ((y0, ()), (()))))
def Bo3 (N : Nat) : Go.AX.Aaj := A2p @Afu N
def Cq0 (N : Nat) : List (Nat × Ac0) := []
def B9b (N : Nat) : List (Nat × Go.AX.Aaj) := [(103, Bos N), (104, Bo0 N), (105, Bi6 N)]
def Bl4 : Code := Tryz.f75.body.getD .skip
def A18 : Code := Tryz.f76.body.getD .skip
def Apb : Aac := ⟨[wq9, Alp, B4i, (10, .one (.val .bool))], []⟩
def A6r : Aac := ⟨Ay5, []⟩
def A6s : Aac := ⟨[], []⟩
def Bo4 : Acn := .cons .ret A6r (.cons .normal A6s (.nil))
abbrev B9c (R : Type) := d4->Int->Int->Bool->(Bool->Option R)->(Option R)->Option R
abbrev Awo := {R : Type} → Nat → B9c R
def Ahd : Awo := fun {R} N a b e f c g => if (f = true) then (c true) else if ((e == 12) = true) then (if (0 ≤ b ∧ b < len a) then (c ((a.getD b.toNat (0, (0, (0, (0, 0))))).2.1 == 0)) else none) else if ((e == 13) = true) then (let d := (wi (b + 1)); if ((d == (len a)) = true) then (c true) else if (0 ≤ d ∧ d < len a) then (c ((a.getD d.toNat (0, (0, (0, (0, 0))))).1 != 13)) else none) else g
def Bci (Ahd : Awo) (N : Nat) : Aan Apb := fun R x K => Ahd N x.1.1 x.1.2.1 x.1.2.2.1 x.1.2.2.2.1 (fun y0 => K .ret (Aab A6r ((y0, ()), (())))) (K .normal (Aab A6s ((()), (()))))
def Bo5 (N : Nat) : Aan Apb := Bci @Ahd N
def Bks : Aac := ⟨[wq9, Alp], []⟩
def A2q : Aac := ⟨Aip, []⟩
abbrev Cfq (R : Type) := d4->Int->(Bool->Option R)->Option R
abbrev A19 := {R : Type} → Nat → Cfq R
def Bkt (Ahd : Awo) : A19 := fun {R} N c a d => if (0 ≤ a ∧ a < len c) then (let b := (c.getD a.toNat (0, (0, (0, (0, 0))))).1; if ((b == 7) = true) then (Ahd N c a b (b == 7) (fun e => d e) (d false)) else Ahd N c a b (b == 11) (fun f => d f) (d false)) else none
def Ama : A19 := @Bkt @Ahd
def Cs6 (N : Nat) : Abs Bks [A2q] := fun R x C => Ama N x.1.1 x.1.2.1 (fun y0 => C.1 ((y0, ()), (())))
def Bv2 (Ama : A19) (N : Nat) : Go.AX.Aaj := Ac6 [true, true] [] false 2 0 Bks [A2q] (fun R x C => Ama N x.1.1 x.1.2.1 (fun y0 => C.1 ((y0, ()), (()))))
def Bv3 (N : Nat) : Go.AX.Aaj := Bv2 @Ama N
def Cs7 (N : Nat) : List (Nat × Ac0) := [(8, Aaa Apb (Bo5 N))]
def Cfr (N : Nat) : List (Nat × Go.AX.Aaj) := []
def A80 : Aac := ⟨Cn2, A90⟩
def Avc : Aac := ⟨Aip, A90⟩
abbrev B4r (R : Type) := Int->(List UInt8)->d3->d1->d2->d4->(Bool->(List UInt8)->d3->d1->d2->d4->Option R)->Option R
abbrev Amb := {R : Type} → Nat → B4r R
def A06 (Ama : A19) : Amb := fun {R} N b c d e f a g => Ama N a b fun h => g h c d e f a
def Adx : Amb := @A06 @Ama
def Cp3 (N : Nat) : Abs A80 [Avc] := fun R x C => Adx N x.1.1 x.2.1.1 x.2.1.2.1 x.2.1.2.2.1 x.2.1.2.2.2.1 x.2.1.2.2.2.2.1 (fun y0 y1 y2 y3 y4 y5 => C.1 ((y0, ()), ((y1, y2, y3, y4, y5, ()), ())))
def A07 (Adx : Amb) (N : Nat) : Go.AX.Aaj := Ac6 [true] [] false 2 1 A80 [Avc] (fun R x C => Adx N x.1.1 x.2.1.1 x.2.1.2.1 x.2.1.2.2.1 x.2.1.2.2.2.1 x.2.1.2.2.2.2.1 (fun y0 y1 y2 y3 y4 y5 => C.1 ((y0, ()), ((y1, y2, y3, y4, y5, ()), ()))))
def Bl5 (N : Nat) : Go.AX.Aaj := A07 @Adx N
def Cp4 (N : Nat) : List (Nat × Ac0) := []
def B4s (N : Nat) : List (Nat × Go.AX.Aaj) := [(76, Bv3 N)]
def Bl6 : Code := Tryz.f74.body.getD .skip
def A81 : Aac := ⟨Cn2, A90⟩
def Avd : Aac := ⟨Aip, A90⟩
abbrev B4t (R : Type) := Int->(List UInt8)->d3->d1->d2->d4->(Bool->(List UInt8)->d3->d1->d2->d4->Option R)->Option R
abbrev Apz := {R : Type} → Nat → B4t R
def Afk : Apz := fun {R} N a c d e f b g => if (0 ≤ a ∧ a < len b) then (g ((b.getD a.toNat (0, (0, (0, (0, 0))))).1 == 13) c d e f b) else none
def B4u (N : Nat) : Abs A81 [Avd] := fun R x C => Afk N x.1.1 x.2.1.1 x.2.1.2.1 x.2.1.2.2.1 x.2.1.2.2.2.1 x.2.1.2.2.2.2.1 (fun y0 y1 y2 y3 y4 y5 => C.1 ((y0, ()), ((y1, y2, y3, y4, y5, ()), ())))
def A08 (Afk : Apz) (N : Nat) : Go.AX.Aaj := Ac6 [true] [] false 2 1 A81 [Avd] (fun R x C => Afk N x.1.1 x.2.1.1 x.2.1.2.1 x.2.1.2.2.1 x.2.1.2.2.2.1 x.2.1.2.2.2.2.1 (fun y0 y1 y2 y3 y4 y5 => C.1 ((y0, ()), ((y1, y2, y3, y4, y5, ()), ()))))
def Bl7 (N : Nat) : Go.AX.Aaj := A08 @Afk N
def B4v (N : Nat) : List (Nat × Ac0) := []
def Bl8 (N : Nat) : List (Nat × Go.AX.Aaj) := []
def Ail : Aac := ⟨[Ci0, Ci1, wq4, (68, .one (.val z4)), (69, .one wq0), (70, .one wq0)], [Cjc, Beg]⟩
def Atn : Aac := ⟨[Cnq, Bn7], A90⟩
def Ato : Aac := ⟨[], A90⟩
def Bi7 : Acn := .cons .ret Atn (.cons (.exit 3) Ato (.nil))
abbrev A6t (R : Type) := d2->Int->Int->(List UInt8)->d3->d1->d2->d4->(List UInt8)->d3->d1->d2->d4->(Bool->Bool->(List UInt8)->d3->d1->d2->d4->Option R)->((List UInt8)->d3->d1->d2->d4->Option R)->Option R
abbrev Bi8 (R : Type) := d2->Int->Int->(List UInt8)->d3->d1->d2->d4->(List UInt8)->d3->d1->d2->d4->Option R
abbrev Ar9 := {R : Type} → Nat → Nat → A6t R
def A6u (Afk : Apz) (Adx : Amb) {R : Type} (N : Nat) (rc : Bi8 R) : A6t R := fun h p a j l m n o r s t u q b C => if ((decide (a < p)) = true) then (if (0 ≤ a ∧ a < len h) then (let i := (h.getD a.toNat (0, (0, 0))).1; let v := (h.getD a.toNat (0, (0, 0))).2.1; let w := (h.getD a.toNat (0, (0, 0))).2.2; if ((decide (i < 0)) = true) then (b false false j l m n o) else if ((decide (i ≥ (len q))) = true) then (b false false j l m n o) else Afk N i j l m n o fun D c d e f g => if (D = true) then (b false false c d e f g) else if ((decide (v < 0)) = true) then (b false false c d e f g) else if ((decide (v > 8)) = true) then (b false false c d e f g) else if ((decide (w < 2)) = true) then (b false false c d e f g) else if ((decide (w > 4001)) = true) then (b false false c d e f g) else if ((decide (i > 0)) = true) then (Adx N (wi (i - 1)) c d e f g fun E x y z A B => if ((!E) = true) then (b false false x y z A B) else rc h p (wi (a + 1)) x y z A B r s t u q) else rc h p (wi (a + 1)) c d e f g r s t u q) else none) else C j l m n o
def Ad2 {R : Type} (N : Nat) : Nat → A6t R
 | 0 => fun _ _ _ _ _ _ _ _ _ _ _ _ _ _ _ => none
 | k + 1 => fun a b c d e f g h i j l m n o p => A6u @Afk @Adx N (fun a b c d e f g h i j l m n => Ad2 N k a b c d e f g h i j l m n o p) a b c d e f g h i j l m n o p
def Ax6 (Ad2 : Ar9) (N k : Nat) : Aan Ail := fun R x K => Ad2 N k x.1.2.2.2.1 x.1.2.2.2.2.1 x.1.2.2.2.2.2.1 x.2.1.1 x.2.1.2.1 x.2.1.2.2.1 x.2.1.2.2.2.1 x.2.1.2.2.2.2.1 x.2.2.1.1 x.2.2.1.2.1 x.2.2.1.2.2.1 x.2.2.1.2.2.2.1 x.2.2.1.2.2.2.2.1 (fun y0 y1 y2 y3 y4 y5 y6 => K .ret (Aab Atn ((y0, y1, ()), ((y2, y3, y4, y5, y6, ()), ())))) (fun y0 y1 y2 y3 y4 => K (.exit 3) (Aab Ato ((()), ((y0, y1, y2, y3, y4, ()), ()))))
def A6v (N k : Nat) : Aan Ail := Ax6 @Ad2 N k
def Bgf : Aac := ⟨[Bw4, Ci0, Ci1], A90⟩
def A09 : Aac := ⟨[Csb, (1, .one (.val .bool))], A90⟩
abbrev Cd9 (R : Type) := (List UInt8)->d3->d1->d2->d4->(List UInt8)->d3->d1->d2->d4->(Bool->Bool->(List UInt8)->d3->d1->d2->d4->Option R)->Option R
abbrev Auh := {R : Type} → Nat → Cd9 R
def Bgg (Ad0 : Arp) (Afu : Apa) (Adx : Amb) (Ad2 : Ar9) : Auh := fun {R} N p q r c s j l m n o a => if ((decide ((len s) > 32000)) = true) then (a true false j l m n o) else if ((decide ((len c) > 200)) = true) then (a true false j l m n o) else Ad0 N N (len c) 0 j l m n o p q r c s p q r (len c) 0 ([] : List (Int × Int × Int)) fun d e f g h t u v b i C D E F G H => Afu N C D H E F G fun w => if ((w == 2) = true) then (a true false d e f g h) else if ((w == 60) = true) then (a false false d e f g h) else if ((decide ((len i) > 0)) = true) then (Adx N (wi ((len i) - 1)) d e f g h fun I x y z A B => if ((!I) = true) then (a false false x y z A B) else Ad2 N N b (len b) 0 x y z A B t u v b i (fun J L M O P Q S => a J L M O P Q S) fun T U V W X => a false true T U V W X) else Ad2 N N b (len b) 0 d e f g h t u v b i (fun Y Z aa ab ac ad ae => a Y Z aa ab ac ad ae) fun af ag ah ai aj => a false true af ag ah ai aj
def Ah8 : Auh := @Bgg @Ad0 @Afu @Adx @Ad2
def Csn (N : Nat) : Abs Bgf [A09] := fun R x C => Ah8 N x.1.1.1 x.1.1.2.1 x.1.1.2.2.1 x.1.1.2.2.2.1 x.1.1.2.2.2.2.1 x.2.1.1 x.2.1.2.1 x.2.1.2.2.1 x.2.1.2.2.2.1 x.2.1.2.2.2.2.1 (fun y0 y1 y2 y3 y4 y5 y6 => C.1 ((y0, y1, ()), ((y2, y3, y4, y5, y6, ()), ())))
def Bgh (Ah8 : Auh) (N : Nat) : Go.AX.Aaj := Ac6 [true, true, true] [] false 3 1 Bgf [A09] (fun R x C => Ah8 N x.1.1.1 x.1.1.2.1 x.1.1.2.2.1 x.1.1.2.2.2.1 x.1.1.2.2.2.2.1 x.2.1.1 x.2.1.2.1 x.2.1.2.2.1 x.2.1.2.2.2.1 x.2.1.2.2.2.2.1 (fun y0 y1 y2 y3 y4 y5 y6 => C.1 ((y0, y1, ()), ((y2, y3, y4, y5, y6, ()), ()))))
def Brv (N : Nat) : Go.AX.Aaj := Bgh @Ah8 N
def Cso (N : Nat) : List (Nat × Ac0) := [(11, Aaa Aij (A53 N N)), (35, Aaa Ail (A6v N N))]
def Cea (N : Nat) : List (Nat × Go.AX.Aaj) := [(62, Bo3 N), (75, Bl5 N), (74, Bl7 N)]
def Aim : Code := Tryz.f77.body.getD .skip
def A2a : Code := Tryz.f131.body.getD .skip
def Alq : Code := Tryz.f66.body.getD .skip
def Ak2 : Aac := ⟨[A3a, wq4, Brr, (34, .one (.val .bool))], Axn⟩
def A30 : Aac := ⟨Cdx, []⟩
def A31 : Aac := ⟨[], []⟩
def Bl9 : Acn := .cons .ret A30 (.cons .normal A31 (.nil))
abbrev B4w (R : Type) := Int->Int->Bool->(List UInt8)->d3->d1->d2->d4->(Bool->Option R)->(Option R)->Option R
abbrev Ans := {R : Type} → Nat → B4w R
def Aeb : Ans := fun {R} N a c d h e i f j b g => if (d = true) then (if ((decide (a ≥ 0)) = true) then (b (decide (a < (len e)))) else b false) else if ((c == 7) = true) then (if ((decide (a ≥ 1)) = true) then (b (decide (a ≤ (len f)))) else b false) else g
def Aui (Aeb : Ans) (N : Nat) : Aan Ak2 := fun R x K => Aeb N x.1.1 x.1.2.2.1 x.1.2.2.2.1 x.2.1.1 x.2.1.2.1 x.2.1.2.2.1 x.2.1.2.2.2.1 x.2.1.2.2.2.2.1 (fun y0 => K .ret (Aab A30 ((y0, ()), (())))) (K .normal (Aab A31 ((()), (()))))
def Bma (N : Nat) : Aan Ak2 := Aui @Aeb N
def Ak3 : Aac := ⟨[A3a, wq4, Brr, (25, .one (.val .bool))], Axn⟩
def A32 : Aac := ⟨Cdx, []⟩
def A33 : Aac := ⟨[], []⟩
def Bmb : Acn := .cons .ret A32 (.cons .normal A33 (.nil))
abbrev B4x (R : Type) := Int->Int->Bool->(List UInt8)->d3->d1->d2->d4->(Bool->Option R)->(Option R)->Option R
abbrev Amc := {R : Type} → Nat → B4x R
def A82 (Aeb : Ans) : Amc := fun {R} N b a j d e f g h c i => if (j = true) then (if ((decide (b ≥ 0)) = true) then (c (decide (b < 200))) else c false) else if ((a == 3) = true) then (Aeb N b a (a == 3) d e f g h (fun l => c l) i) else Aeb N b a (a == 6) d e f g h (fun m => c m) i
def Ael : Amc := @A82 @Aeb
def Auj (Ael : Amc) (N : Nat) : Aan Ak3 := fun R x K => Ael N x.1.1 x.1.2.2.1 x.1.2.2.2.1 x.2.1.1 x.2.1.2.1 x.2.1.2.2.1 x.2.1.2.2.2.1 x.2.1.2.2.2.2.1 (fun y0 => K .ret (Aab A32 ((y0, ()), (())))) (K .normal (Aab A33 ((()), (()))))
def Bmc (N : Nat) : Aan Ak3 := Auj @Ael N
def Ak4 : Aac := ⟨[A3a, wq4, Brr, (16, .one (.val .bool))], Axn⟩
def A34 : Aac := ⟨Cdx, []⟩
def A35 : Aac := ⟨[], []⟩
def Bmd : Acn := .cons .ret A34 (.cons .normal A35 (.nil))
abbrev B4y (R : Type) := Int->Int->Bool->(List UInt8)->d3->d1->d2->d4->(Bool->Option R)->(Option R)->Option R
abbrev Amd := {R : Type} → Nat → B4y R
def A83 (Ael : Amc) : Amd := fun {R} N b a j d e f g h c i => if (j = true) then (if ((decide (b ≥ 0)) = true) then (c (decide (b ≤ 4000))) else c false) else if ((a == 2) = true) then (Ael N b a (a == 2) d e f g h (fun l => c l) i) else Ael N b a (a == 5) d e f g h (fun m => c m) i
def Aem : Amd := @A83 @Ael
def Auk (Aem : Amd) (N : Nat) : Aan Ak4 := fun R x K => Aem N x.1.1 x.1.2.2.1 x.1.2.2.2.1 x.2.1.1 x.2.1.2.1 x.2.1.2.2.1 x.2.1.2.2.2.1 x.2.1.2.2.2.2.1 (fun y0 => K .ret (Aab A34 ((y0, ()), (())))) (K .normal (Aab A35 ((()), (()))))
def Bme (N : Nat) : Aan Ak4 := Auk @Aem N
def Bku : Aac := ⟨Cbx, []⟩
def A2r : Aac := ⟨Aip, []⟩
abbrev Cfs (R : Type) := (List UInt8)->d3->d1->d2->d4->Int->Int->(Bool->Option R)->Option R
abbrev Aw6 := {R : Type} → Nat → Cfs R
def Bkv (Aem : Amd) : Aw6 := fun {R} N d e f g h a c b => if ((a == 0) = true) then (if ((decide (c ≥ (-2147483648))) = true) then (b (decide (c ≤ 2147483647))) else b false) else if ((a == 1) = true) then (Aem N c a (a == 1) d e f g h (fun i => b i) (b false)) else Aem N c a (a == 4) d e f g h (fun j => b j) (b false)
def Aju : Aw6 := @Bkv @Aem
def Cs8 (N : Nat) : Abs Bku [A2r] := fun R x C => Aju N x.1.1.1 x.1.1.2.1 x.1.1.2.2.1 x.1.1.2.2.2.1 x.1.1.2.2.2.2.1 x.1.2.1 x.1.2.2.1 (fun y0 => C.1 ((y0, ()), (())))
def Bkw (Aju : Aw6) (N : Nat) : Go.AX.Aaj := Ac6 [true, true, true] [] false 3 0 Bku [A2r] (fun R x C => Aju N x.1.1.1 x.1.1.2.1 x.1.1.2.2.1 x.1.1.2.2.2.1 x.1.1.2.2.2.2.1 x.1.2.1 x.1.2.2.1 (fun y0 => C.1 ((y0, ()), (()))))
def Bv4 (N : Nat) : Go.AX.Aaj := Bkw @Aju N
def Cs9 (N : Nat) : List (Nat × Ac0) := [(24, Aaa Ak2 (Bma N)), (18, Aaa Ak3 (Bmc N)), (12, Aaa Ak4 (Bme N))]
def Cft (N : Nat) : List (Nat × Go.AX.Aaj) := []
def Apc : Aac := ⟨[Alp, A3a, wq4], Axn⟩
def A6w : Aac := ⟨Cdx, []⟩
def Bo6 : Acn := .cons .ret A6w (.nil)
abbrev B9d (R : Type) := Int->Int->(List UInt8)->d3->d1->d2->d4->(Bool->Option R)->Option R
abbrev Aq6 := {R : Type} → Nat → B9d R
def Bcj (Aju : Aw6) : Aq6 := fun {R} N a b c d e f g h => Aju N c d e f g a b fun i => h i
def Ahe : Aq6 := @Bcj @Aju
def Bck (Ahe : Aq6) (N : Nat) : Aan Apc := fun R x K => Ahe N x.1.1 x.1.2.1 x.2.1.1 x.2.1.2.1 x.2.1.2.2.1 x.2.1.2.2.2.1 x.2.1.2.2.2.2.1 (fun y0 => K .ret (Aab A6w ((y0, ()), (()))))
def Bo7 (N : Nat) : Aan Apc := Bck @Ahe N
def Bkx : Aac := ⟨Cbx, []⟩
def A2s : Aac := ⟨Aip, []⟩
abbrev Cfu (R : Type) := (List UInt8)->d3->d1->d2->d4->Int->Int->(Bool->Option R)->Option R
abbrev Aod := {R : Type} → Nat → Cfu R
def Bky (Ahe : Aq6) : Aod := fun {R} N b c d e f a g h => if ((a == 8) = true) then (Ahe N (wi (a - 7)) g b c d e f fun i => h i) else if ((a == 9) = true) then (Ahe N (wi (a - 7)) g b c d e f fun j => h j) else Ahe N a g b c d e f fun l => h l
def Ae1 : Aod := @Bky @Ahe
def Cta (N : Nat) : Abs Bkx [A2s] := fun R x C => Ae1 N x.1.1.1 x.1.1.2.1 x.1.1.2.2.1 x.1.1.2.2.2.1 x.1.1.2.2.2.2.1 x.1.2.1 x.1.2.2.1 (fun y0 => C.1 ((y0, ()), (())))
def Aw7 (Ae1 : Aod) (N : Nat) : Go.AX.Aaj := Ac6 [true, true, true] [] false 3 0 Bkx [A2s] (fun R x C => Ae1 N x.1.1.1 x.1.1.2.1 x.1.1.2.2.1 x.1.1.2.2.2.1 x.1.1.2.2.2.2.1 x.1.2.1 x.1.2.2.1 (fun y0 => C.1 ((y0, ()), (()))))
def Bv5 (N : Nat) : Go.AX.Aaj := Aw7 @Ae1 N
def Ctb (N : Nat) : List (Nat × Ac0) := [(6, Aaa Apc (Bo7 N))]
def Cfv (N : Nat) : List (Nat × Go.AX.Aaj) := [(66, Bv4 N)]
def Bi9 : Code := Tryz.f132.body.getD .skip
def A6x : Aac := ⟨Ay6, []⟩
def Atp : Aac := ⟨Aip, []⟩
abbrev B1m (R : Type) := Int->(Bool->Option R)->Option R
abbrev Ain := {R : Type} → Nat → B1m R
def Abg : Ain := fun {R} N a b => if ((decide (a ≥ 1)) = true) then (if ((decide (a ≤ 3)) = true) then (b true) else if ((a == 8) = true) then (b true) else b (a == 9)) else if ((a == 8) = true) then (b true) else b (a == 9)
def B1n (N : Nat) : Abs A6x [Atp] := fun R x C => Abg N x.1.1 (fun y0 => C.1 ((y0, ()), (())))
def Aor (Abg : Ain) (N : Nat) : Go.AX.Aaj := Ac6 [true] [] false 1 0 A6x [Atp] (fun R x C => Abg N x.1.1 (fun y0 => C.1 ((y0, ()), (()))))
def Bja (N : Nat) : Go.AX.Aaj := Aor @Abg N
def B1o (N : Nat) : List (Nat × Ac0) := []
def Bjb (N : Nat) : List (Nat × Go.AX.Aaj) := []
def Bo8 : Code := Tryz.f130.body.getD .skip
def Bcl : Aac := ⟨Cn2, A90⟩
def Ax7 : Aac := ⟨Aip, A90⟩
abbrev B9e (R : Type) := Int->(List UInt8)->d3->d1->d2->d4->(Bool->(List UInt8)->d3->d1->d2->d4->Option R)->Option R
abbrev Alt := {R : Type} → Nat → B9e R
def Acp : Alt := fun {R} N b c d e f a g => if ((decide (b ≥ 0)) = true) then (if ((decide (b < (len a))) = true) then (if (0 ≤ b ∧ b < len a) then (let h := (a.getD b.toNat (0, (0, (0, (0, 0))))).1; if ((h != 13) = true) then (if (0 ≤ b ∧ b < len a) then (g (h != 6) c d e f a) else none) else g false c d e f a) else none) else g false c d e f a) else g false c d e f a
def B9f (N : Nat) : Abs Bcl [Ax7] := fun R x C => Acp N x.1.1 x.2.1.1 x.2.1.2.1 x.2.1.2.2.1 x.2.1.2.2.2.1 x.2.1.2.2.2.2.1 (fun y0 y1 y2 y3 y4 y5 => C.1 ((y0, ()), ((y1, y2, y3, y4, y5, ()), ())))
def Aq7 (Acp : Alt) (N : Nat) : Go.AX.Aaj := Ac6 [true] [] false 2 1 Bcl [Ax7] (fun R x C => Acp N x.1.1 x.2.1.1 x.2.1.2.1 x.2.1.2.2.1 x.2.1.2.2.2.1 x.2.1.2.2.2.2.1 (fun y0 y1 y2 y3 y4 y5 => C.1 ((y0, ()), ((y1, y2, y3, y4, y5, ()), ()))))
def Bo9 (N : Nat) : Go.AX.Aaj := Aq7 @Acp N
def B9g (N : Nat) : List (Nat × Ac0) := []
def Bpa (N : Nat) : List (Nat × Go.AX.Aaj) := []
def Ajp : Aac := ⟨[wq8, Bn7, B4g, Cnt, (185, .one (.val .bool))], B1b⟩
def A36 : Aac := ⟨Ay5, []⟩
def A37 : Aac := ⟨Cjb, B1b⟩
def Bmf : Acn := .cons .ret A36 (.cons .normal A37 (.nil))
abbrev B4z (R : Type) := Bool->Bool->Bool->Bool->Int->Int->Int->Int->Int->(Bool->Option R)->(Bool->Bool->Int->Int->Int->Int->Int->Option R)->Option R
abbrev Ak5 := {R : Type} → Nat → B4z R
def A84 (Abg : Ain) : Ak5 := fun {R} N b d e f g c h i j a l => if (f = true) then (if (b = true) then (if (e = true) then (Abg N c fun m => a m) else a false) else a false) else l b d g c h i j
def Adq : Ak5 := @A84 @Abg
def Ap0 (Adq : Ak5) (N : Nat) : Aan Ajp := fun R x K => Adq N x.1.2.1 x.1.2.2.1 x.1.2.2.2.1 x.1.2.2.2.2.1 x.2.1.1 x.2.1.2.1 x.2.1.2.2.1 x.2.1.2.2.2.1 x.2.1.2.2.2.2.1 (fun y0 => K .ret (Aab A36 ((y0, ()), (())))) (fun y0 y1 y2 y3 y4 y5 y6 => K .normal (Aab A37 (((), y0, y1, ()), ((y2, y3, y4, y5, y6, ()), ()))))
def Bmg (N : Nat) : Aan Ajp := Ap0 @Adq N
def Ajq : Aac := ⟨[wq8, (6, .one (.fnp 130 [33])), Bn7, B4g, Cnt, Cnv, (101, .one (.val .bool))], [Cor, (33, .cells 27 Cja)]⟩
def A38 : Aac := ⟨Ay5, []⟩
def A39 : Aac := ⟨Cjb, B1b⟩
def Bmh : Acn := .cons .ret A38 (.cons .normal A39 (.nil))
abbrev B40 (R : Type) := Bool->Bool->Bool->Int->Bool->Int->Int->Int->Int->Int->(List UInt8)->d3->d1->d2->d4->(Bool->Option R)->(Bool->Bool->Int->Int->Int->Int->Int->Option R)->Option R
abbrev Ak6 := {R : Type} → Nat → B40 R
def A85 (Acp : Alt) (Adq : Ak5) : Ak6 := fun {R} N m e f d r n b c o p g h i j l a q => if (r = true) then (if ((b == 0) = true) then (if (e = true) then (Acp N c g h i j l fun s M O P Q S => a s) else a false) else a false) else if ((d == 10) = true) then (if ((b == 0) = true) then (if ((decide (c ≥ 0)) = true) then (if ((decide (c ≤ 4000)) = true) then (a e) else a false) else a false) else a false) else if ((d == 11) = true) then (if ((b == 0) = true) then (if ((c == 0) = true) then (a e) else a false) else a false) else if ((d == 12) = true) then (if (e = true) then (if ((decide (b ≥ 0)) = true) then (if ((decide (b ≤ 1000)) = true) then (Acp N c g h i j l fun t T U V W X => a t) else a false) else a false) else a false) else if ((d == 13) = true) then (if ((decide (b ≥ (-2147483648))) = true) then (if ((decide (b ≤ 2147483647)) = true) then (Acp N c g h i j l fun u Y Z aa ab ac => if (u = true) then (a f) else a false) else a false) else a false) else if ((d == 58) = true) then (Adq N m e f (d == 58) n b c o p (fun v => a v) fun w x y z A B C => q w x y z A B C) else Adq N m e f (d == 59) n b c o p (fun D => a D) fun E F G H I J L => q E F G H I J L
def Adr : Ak6 := @A85 @Acp @Adq
def Ap1 (Adr : Ak6) (N : Nat) : Aan Ajq := fun R x K => Adr N x.1.2.2.1 x.1.2.2.2.1 x.1.2.2.2.2.1 x.1.2.2.2.2.2.1 x.1.2.2.2.2.2.2.1 x.2.1.1 x.2.1.2.1 x.2.1.2.2.1 x.2.1.2.2.2.1 x.2.1.2.2.2.2.1 x.2.2.1.1 x.2.2.1.2.1 x.2.2.1.2.2.1 x.2.2.1.2.2.2.1 x.2.2.1.2.2.2.2.1 (fun y0 => K .ret (Aab A38 ((y0, ()), (())))) (fun y0 y1 y2 y3 y4 y5 y6 => K .normal (Aab A39 (((), y0, y1, ()), ((y2, y3, y4, y5, y6, ()), ()))))
def Bmi (N : Nat) : Aan Ajq := Ap1 @Adr N
def Ajr : Aac := ⟨[Alp, A1j, (5, .one (.ptr 33)), (6, .one (.fnp 130 [32])), Bn7, B4g, Cnt, Cnv, (38, .one (.val .bool))], Beh⟩
def A4a : Aac := ⟨Ay5, []⟩
def A4b : Aac := ⟨Cjb, B1b⟩
def Bmj : Acn := .cons .ret A4a (.cons .normal A4b (.nil))
abbrev B41 (R : Type) := Int->Bool->Bool->Bool->Int->Bool->(List UInt8)->d3->d1->d2->d4->Int->Int->Int->Int->Int->(Bool->Option R)->(Bool->Bool->Int->Int->Int->Int->Int->Option R)->Option R
abbrev Ak7 := {R : Type} → Nat → B41 R
def A86 (Abg : Ain) (Acp : Alt) (Adr : Ak6) : Ak7 := fun {R} N s c e f b t i j l m d o g n p q a r => if (t = true) then (if (c = true) then (if (e = true) then (Abg N g fun u => a u) else a false) else a false) else if ((b == 3) = true) then (if (c = true) then (a e) else a false) else if ((b == 5) = true) then (if (c = true) then (if (e = true) then (let h := (wi (s + 1)); if ((decide (h < (len d))) = true) then (if (0 ≤ h ∧ h < len d) then (a ((d.getD h.toNat (0, (0, (0, (0, 0))))).1 == 6)) else none) else a false) else a false) else a false) else if ((b == 6) = true) then (if (c = true) then (a f) else a false) else if ((b == 7) = true) then (if ((g == 0) = true) then (if (f = true) then (Acp N n i j l m d fun v O P Q S T => a v) else a false) else a false) else if ((b == 8) = true) then (Adr N c e f b (b == 8) o g n p q i j l m d (fun w => a w) fun x y z A B C D => r x y z A B C D) else Adr N c e f b (b == 9) o g n p q i j l m d (fun E => a E) fun F G H I J L M => r F G H I J L M
def Ac1 : Ak7 := @A86 @Abg @Acp @Adr
def Ap2 (Ac1 : Ak7) (N : Nat) : Aan Ajr := fun R x K => Ac1 N x.1.1 x.1.2.2.2.2.1 x.1.2.2.2.2.2.1 x.1.2.2.2.2.2.2.1 x.1.2.2.2.2.2.2.2.1 x.1.2.2.2.2.2.2.2.2.1 x.2.1.1 x.2.1.2.1 x.2.1.2.2.1 x.2.1.2.2.2.1 x.2.1.2.2.2.2.1 x.2.2.1.1 x.2.2.1.2.1 x.2.2.1.2.2.1 x.2.2.1.2.2.2.1 x.2.2.1.2.2.2.2.1 (fun y0 => K .ret (Aab A4a ((y0, ()), (())))) (fun y0 y1 y2 y3 y4 y5 y6 => K .normal (Aab A4b (((), y0, y1, ()), ((y2, y3, y4, y5, y6, ()), ()))))
def Bmk (N : Nat) : Aan Ajr := Ap2 @Ac1 N
def Ajs : Aac := ⟨Cjb, B1b⟩
def A4c : Aac := ⟨Ay5, []⟩
def Bml : Acn := .cons .ret A4c (.nil)
abbrev B42 (R : Type) := Bool->Bool->Int->Int->Int->Int->Int->(Bool->Option R)->Option R
abbrev Ak8 := {R : Type} → Nat → B42 R
def A87 (Abg : Ain) : Ak8 := fun {R} N c d b e g h i a => if ((decide (b ≥ 41)) = true) then (if ((decide (b ≤ 57)) = true) then (if (c = true) then (if (d = true) then (Abg N e fun f => a f) else a false) else a false) else a false) else a false
def Ac2 : Ak8 := @A87 @Abg
def Ap3 (Ac2 : Ak8) (N : Nat) : Aan Ajs := fun R x K => Ac2 N x.1.2.1 x.1.2.2.1 x.2.1.1 x.2.1.2.1 x.2.1.2.2.1 x.2.1.2.2.2.1 x.2.1.2.2.2.2.1 (fun y0 => K .ret (Aab A4c ((y0, ()), (()))))
def Bmm (N : Nat) : Aan Ajs := Ap3 @Ac2 N
def Bkz : Aac := ⟨[Bw4, Alp], []⟩
def A2t : Aac := ⟨Aip, []⟩
abbrev Cfw (R : Type) := (List UInt8)->d3->d1->d2->d4->Int->(Bool->Option R)->Option R
abbrev Aw8 := {R : Type} → Nat → Cfw R
def Bk0 (Ae1 : Aod) (Ac1 : Ak7) (Ac2 : Ak8) : Aw8 := fun {R} N f g h i b c d => if (0 ≤ c ∧ c < len b) then (let a := (b.getD c.toNat (0, (0, (0, (0, 0))))).1; let l := (b.getD c.toNat (0, (0, (0, (0, 0))))).2.1; let m := (b.getD c.toNat (0, (0, (0, (0, 0))))).2.2.1; let j := (b.getD c.toNat (0, (0, (0, (0, 0))))).2.2.2.1; let e := (b.getD c.toNat (0, (0, (0, (0, 0))))).2.2.2.2; Ae1 N f g h i b l m fun n => Ae1 N f g h i b j e fun o => if ((j == 0) = true) then (if ((a == 1) = true) then (Ac1 N c n o (e == 0) a (a == 1) f g h i b a l m j e (fun p => d p) fun q r s t u v w => Ac2 N q r s t u v w fun x => d x) else if ((a == 2) = true) then (Ac1 N c n o (e == 0) a (a == 2) f g h i b a l m j e (fun y => d y) fun z A B C D E F => Ac2 N z A B C D E F fun G => d G) else Ac1 N c n o (e == 0) a (a == 4) f g h i b a l m j e (fun H => d H) fun I J L M O P Q => Ac2 N I J L M O P Q fun S => d S) else if ((a == 1) = true) then (Ac1 N c n o false a (a == 1) f g h i b a l m j e (fun T => d T) fun U V W X Y Z aa => Ac2 N U V W X Y Z aa fun ab => d ab) else if ((a == 2) = true) then (Ac1 N c n o false a (a == 2) f g h i b a l m j e (fun ac => d ac) fun ad ae af ag ah ai aj => Ac2 N ad ae af ag ah ai aj fun ak => d ak) else Ac1 N c n o false a (a == 4) f g h i b a l m j e (fun al => d al) fun am an ao ap aq ar au => Ac2 N am an ao ap aq ar au fun av => d av) else none
def Ajv : Aw8 := @Bk0 @Ae1 @Ac1 @Ac2
def Ctc (N : Nat) : Abs Bkz [A2t] := fun R x C => Ajv N x.1.1.1 x.1.1.2.1 x.1.1.2.2.1 x.1.1.2.2.2.1 x.1.1.2.2.2.2.1 x.1.2.1 (fun y0 => C.1 ((y0, ()), (())))
def Bk1 (Ajv : Aw8) (N : Nat) : Go.AX.Aaj := Ac6 [true, true] [] false 2 0 Bkz [A2t] (fun R x C => Ajv N x.1.1.1 x.1.1.2.1 x.1.1.2.2.1 x.1.1.2.2.2.1 x.1.1.2.2.2.2.1 x.1.2.1 (fun y0 => C.1 ((y0, ()), (()))))
def Bv6 (N : Nat) : Go.AX.Aaj := Bk1 @Ajv N
def Ctd (N : Nat) : List (Nat × Ac0) := [(62, Aaa Ajp (Bmg N)), (40, Aaa Ajq (Bmi N)), (18, Aaa Ajr (Bmk N)), (64, Aaa Ajs (Bmm N))]
def Cfx (N : Nat) : List (Nat × Go.AX.Aaj) := [(131, Bv5 N), (132, Bja N), (130, Bo9 N)]
def Aj3 : Aac := ⟨[wq3, Cdw, (18, .one wq0), (19, .one wq0)], Axn⟩
def Atq : Aac := ⟨Bbo, []⟩
def Atr : Aac := ⟨[wq3, Cdw], Axn⟩
def Bjc : Acn := .cons .ret Atq (.cons (.exit 0) Atr (.nil))
abbrev A6y (R : Type) := Bool->Int->Int->(List UInt8)->d3->d1->d2->d4->(Int->Option R)->(Bool->(List UInt8)->d3->d1->d2->d4->Option R)->Option R
abbrev Bjd (R : Type) := Bool->Int->Int->(List UInt8)->d3->d1->d2->d4->Option R
abbrev Ax8 := {R : Type} → Nat → Nat → A6y R
def Ax9 (Ajv : Aw8) {R : Type} (N : Nat) (rc : Bjd R) : A6y R := fun g h a b c d e f i j => if ((decide (a < h)) = true) then (Ajv N b c d e f a fun l => if ((!l) = true) then (i 60) else rc g h (wi (a + 1)) b c d e f) else j g b c d e f
def Aey {R : Type} (N : Nat) : Nat → A6y R
 | 0 => fun _ _ _ _ _ _ _ _ _ _ => none
 | k + 1 => fun a b c d e f g h i j => Ax9 @Ajv N (fun a b c d e f g h => Aey N k a b c d e f g h i j) a b c d e f g h i j
def A6z (Aey : Ax8) (N k : Nat) : Aan Aj3 := fun R x K => Aey N k x.1.2.1 x.1.2.2.1 x.1.2.2.2.1 x.2.1.1 x.2.1.2.1 x.2.1.2.2.1 x.2.1.2.2.2.1 x.2.1.2.2.2.2.1 (fun y0 => K .ret (Aab Atq ((y0, ()), (())))) (fun y0 y1 y2 y3 y4 y5 => K (.exit 0) (Aab Atr (((), y0, ()), ((y1, y2, y3, y4, y5, ()), ()))))
def A60 (N k : Nat) : Aan Aj3 := A6z @Aey N k
def Agy : Code := Tryz.f32.body.getD .skip
def Bmn : Code := Tryz.f78.body.getD .skip
def A88 : Aac := ⟨[(0, .agg Cbw)], []⟩
def Ave : Aac := ⟨Ay6, []⟩
abbrev B43 (R : Type) := Int->Int->Int->Int->Int->(Int->Option R)->Option R
abbrev Ap4 := {R : Type} → Nat → B43 R
def Afl : Ap4 := fun {R} N c a d e f b => b a
def B44 (N : Nat) : Abs A88 [Ave] := fun R x C => Afl N x.1.1.1 x.1.1.2.1 x.1.1.2.2.1 x.1.1.2.2.2.1 x.1.1.2.2.2.2.1 (fun y0 => C.1 ((y0, ()), (())))
def A1a (Afl : Ap4) (N : Nat) : Go.AX.Aaj := Ac6 [true] [] false 1 0 A88 [Ave] (fun R x C => Afl N x.1.1.1 x.1.1.2.1 x.1.1.2.2.1 x.1.1.2.2.2.1 x.1.1.2.2.2.2.1 (fun y0 => C.1 ((y0, ()), (()))))
def Bmo (N : Nat) : Go.AX.Aaj := A1a @Afl N
def B45 (N : Nat) : List (Nat × Ac0) := []
def Bmp (N : Nat) : List (Nat × Go.AX.Aaj) := []
def Agm : Aac := ⟨[wq9, Alp, A3a, wq2, B4i, Cd0, (32, .one wq0), (33, .one wq0)], []⟩
def Apq : Aac := ⟨Brq, []⟩
def Apr : Aac := ⟨[wq9, Alp, A3a, wq2, B4i, Cd0], []⟩
def Bam : Acn := .cons .ret Apq (.cons (.exit 3) Apr (.nil))
abbrev Azm (R : Type) := d4->Int->Int->Int->Int->Int->Int->(Bool->Option R)->(d4->Int->Int->Int->Int->Option R)->Option R
abbrev Ban (R : Type) := d4->Int->Int->Int->Int->Int->Int->Option R
abbrev Aom := {R : Type} → Nat → Nat → Azm R
def Asa {R : Type} (N : Nat) (rc : Ban R) : Azm R := fun a f c d g h e i j => if ((decide (e < h)) = true) then (let b := (wi ((wi (d + 1)) + e)); if ((decide (b ≥ (len a))) = true) then (i false) else if (0 ≤ b ∧ b < len a) then (if (((a.getD b.toNat (0, (0, (0, (0, 0))))).1 != c) = true) then (i false) else rc a f c d g h (wi (e + 1))) else none) else j a f c d g
def Acq {R : Type} (N : Nat) : Nat → Azm R
 | 0 => fun _ _ _ _ _ _ _ _ _ => none
 | k + 1 => fun a b c d e f g h i => Asa N (fun a b c d e f g => Acq N k a b c d e f g h i) a b c d e f g h i
def Asb (Acq : Aom) (N k : Nat) : Aan Agm := fun R x K => Acq N k x.1.1 x.1.2.1 x.1.2.2.1 x.1.2.2.2.2.1 x.1.2.2.2.2.2.1 x.1.2.2.2.2.2.2.1 x.1.2.2.2.2.2.2.2.1 (fun y0 => K .ret (Aab Apq ((y0, ()), (())))) (fun y0 y1 y2 y3 y4 => K (.exit 3) (Aab Apr ((y0, y1, y2, (), y3, y4, ()), (()))))
def Azn (N k : Nat) : Aan Agm := Asb @Acq N k
def Ahf : Aac := ⟨[wq9, Alp, A3a, wq2, B4i], []⟩
def Aqv : Aac := ⟨Brq, []⟩
def Aqw : Aac := ⟨[], []⟩
def Bdv : Acn := .cons .ret Aqv (.cons (.exit 0) Aqw (.nil))
abbrev A1q (R : Type) := d4->Int->Int->Int->(Bool->Option R)->(Option R)->Option R
abbrev Bdw (R : Type) := d4->Int->Int->Int->Option R
abbrev Apj := {R : Type} → Nat → Nat → A1q R
def A1r (Afl : Ap4) (Acq : Aom) {R : Type} (N : Nat) (rc : Bdw R) : A1q R := fun b e f a g m => if ((decide (a < (len b))) = true) then (if (0 ≤ a ∧ a < len b) then (let h := (b.getD a.toNat (0, (0, (0, (0, 0))))).1; if ((h == e) = true) then (if (0 ≤ a ∧ a < len b) then (Afl N h ((b.getD a.toNat (0, (0, (0, (0, 0))))).2.1) ((b.getD a.toNat (0, (0, (0, (0, 0))))).2.2.1) ((b.getD a.toNat (0, (0, (0, (0, 0))))).2.2.2.1) ((b.getD a.toNat (0, (0, (0, (0, 0))))).2.2.2.2) fun j => Acq N N b e f a j j 0 (fun n => g n) fun d l i o p => let c := (wi ((wi (o + p)) + 1)); if ((decide (c < (len d))) = true) then (if (0 ≤ c ∧ c < len d) then (if (((d.getD c.toNat (0, (0, (0, (0, 0))))).1 == i) = true) then (g false) else rc d l i c) else none) else rc d l i c) else none) else if ((h == f) = true) then (g false) else rc b e f (wi (a + 1))) else none) else m
def Ac7 {R : Type} (N : Nat) : Nat → A1q R
 | 0 => fun _ _ _ _ _ _ => none
 | k + 1 => fun a b c d e f => A1r @Afl @Acq N (fun a b c d => Ac7 N k a b c d e f) a b c d e f
def Ats (Ac7 : Apj) (N k : Nat) : Aan Ahf := fun R x K => Ac7 N k x.1.1 x.1.2.1 x.1.2.2.1 x.1.2.2.2.2.1 (fun y0 => K .ret (Aab Aqv ((y0, ()), (())))) (K (.exit 0) (Aab Aqw ((()), (()))))
def A1s (N k : Nat) : Aan Ahf := Ats @Ac7 N k
def A61 : Aac := ⟨[wq9, Alp, A3a, wq2], []⟩
def Att : Aac := ⟨Aip, []⟩
abbrev B1p (R : Type) := d4->Int->Int->(Bool->Option R)->Option R
abbrev Aos := {R : Type} → Nat → B1p R
def A62 (Ac7 : Apj) : Aos := fun {R} N b c d a => Ac7 N N b c d 0 (fun e => a e) (a true)
def Ae7 : Aos := @A62 @Ac7
def Coy (N : Nat) : Abs A61 [Att] := fun R x C => Ae7 N x.1.1 x.1.2.1 x.1.2.2.1 (fun y0 => C.1 ((y0, ()), (())))
def A63 (Ae7 : Aos) (N : Nat) : Go.AX.Aaj := Ac6 [true, true, true, true] [] false 4 0 A61 [Att] (fun R x C => Ae7 N x.1.1 x.1.2.1 x.1.2.2.1 (fun y0 => C.1 ((y0, ()), (()))))
def Bje (N : Nat) : Go.AX.Aaj := A63 @Ae7 N
def Coz (N : Nat) : List (Nat × Ac0) := [(17, Aaa Agm (Azn N N)), (5, Aaa Ahf (A1s N N))]
def B1q (N : Nat) : List (Nat × Go.AX.Aaj) := [(78, Bmo N)]
def Bgi : Aac := ⟨B4m, []⟩
def A1b : Aac := ⟨Ay6, []⟩
abbrev Ceb (R : Type) := (List UInt8)->d3->d1->d2->d4->(Int->Option R)->Option R
abbrev Azo := {R : Type} → Nat → Ceb R
def Bgj (Ah8 : Auh) (Aey : Ax8) (Ae7 : Aos) : Azo := fun {R} N b c d e f a => Ah8 N b c d e f b c d e f fun h i j l m n g => if (h = true) then (a 2) else Aey N N i (len g) 0 j l m n g (fun o => a o) fun p s t u v q => if ((!p) = true) then (a 60) else Ae7 N q 12 13 fun r => if ((!r) = true) then (a 60) else a 0
def Ak9 : Azo := @Bgj @Ah8 @Aey @Ae7
def Csp (N : Nat) : Abs Bgi [A1b] := fun R x C => Ak9 N x.1.1.1 x.1.1.2.1 x.1.1.2.2.1 x.1.1.2.2.2.1 x.1.1.2.2.2.2.1 (fun y0 => C.1 ((y0, ()), (())))
def Brw (Ak9 : Azo) (N : Nat) : Go.AX.Aaj := Ac6 [true] [] false 1 0 Bgi [A1b] (fun R x C => Ak9 N x.1.1.1 x.1.1.2.1 x.1.1.2.2.1 x.1.1.2.2.2.1 x.1.1.2.2.2.2.1 (fun y0 => C.1 ((y0, ()), (()))))
def Brx (N : Nat) : Go.AX.Aaj := Brw @Ak9 N
def Csq (N : Nat) : List (Nat × Ac0) := [(13, Aaa Aj3 (A60 N N))]
def Cec (N : Nat) : List (Nat × Go.AX.Aaj) := [(27, Brv N), (77, Bv6 N), (32, Bje N)]
def Agn : Code := Tryz.f23.body.getD .skip
def Ap5 (N : Nat) : Go.AX.Aaj := A8r
def Aka : Code := Tryz.f54.body.getD .skip
def Aeo : Aac := ⟨[wq1, (1, .one (.val .str))], [(0, .cells 80 [(.same .nilptr), (.slf 1)]), Cnp]⟩
def Ajj : Aac := ⟨[Cdz, (1, .one (.same .nilif))], B4l⟩
abbrev A8b (R : Type) := (List UInt8)->d0->(Int->d0->Option R)->Option R
abbrev Afc := {R : Type} → Nat → A8b R
def Aaw : Afc := fun {R} N a c d => if ((((List.length c) + (List.length (List.map (fun b : UInt8 => (((UInt8.toNat b) : Nat) : Int)) a))) * (1 : Nat)) ≤ (70368744177664 : Nat)) then (d (len a) (c ++ (List.map (fun b : UInt8 => (((UInt8.toNat b) : Nat) : Int)) a))) else none
def A8c (N : Nat) : Abs Aeo [Ajj] := fun R x C => Aaw N x.1.2.1 x.2.2.1 (fun y0 y1 => C.1 ((y0, (), ()), (((), (), ()), y1, ())))
def Ah5 (Aaw : Afc) (N : Nat) : Go.AX.Aaj := Ac6 [false, true] (List.replicate 32 true) true 2 2 Aeo [Ajj] (fun R x C => Aaw N x.1.2.1 x.2.2.1 (fun y0 y1 => C.1 ((y0, (), ()), (((), (), ()), y1, ()))))
def Atb (N : Nat) : Go.AX.Aaj := Ah5 @Aaw N
def A8d (N : Nat) : List (Nat × Ac0) := []
def Atc (N : Nat) : List (Nat × Go.AX.Aaj) := [(100, Aiq N)]
def Aly : Aac := ⟨[wq1, (1, .one (.val .str))], B4l⟩
def Ah9 : Aac := ⟨[Cdz, (1, .one (.same .nilif))], B4l⟩
abbrev A4d (R : Type) := (List UInt8)->d0->(Int->d0->Option R)->Option R
abbrev Ady := {R : Type} → Nat → A4d R
def Aas : Ady := fun {R} N a c d => if ((((List.length c) + (List.length (List.map (fun b : UInt8 => (((UInt8.toNat b) : Nat) : Int)) a))) * (1 : Nat)) ≤ (70368744177664 : Nat)) then (d (len a) (c ++ (List.map (fun b : UInt8 => (((UInt8.toNat b) : Nat) : Int)) a))) else none
def A4e (N : Nat) : Abs Aly [Ah9] := fun R x C => Aas N x.1.2.1 x.2.2.1 (fun y0 y1 => C.1 ((y0, (), ()), (((), (), ()), y1, ())))
def Ag4 (Aas : Ady) (N : Nat) : Go.AX.Aaj := Ac6 [false, true] (List.replicate 32 true) true 2 2 Aly [Ah9] (fun R x C => Aas N x.1.2.1 x.2.2.1 (fun y0 y1 => C.1 ((y0, (), ()), (((), (), ()), y1, ()))))
def Aqh (N : Nat) : Go.AX.Aaj := Ag4 @Aas N
def A4f (N : Nat) : List (Nat × Ac0) := []
def Aqi (N : Nat) : List (Nat × Go.AX.Aaj) := [(100, Aiq N)]
def Aii : Aac := ⟨[Alp, wq8, Csa, B4j, Cnw, (33, .one Bw2), (34, .one wq0), (35, .one wq0)], Bw3⟩
def Avf : Aac := ⟨Cjm, Bw3⟩
def Bmq : Acn := .cons (.exit 2) Avf (.nil)
abbrev A89 (R : Type) := Int->d4->Int->Int->d0->Int->Int->d0->(Int->d4->Int->Int->d0->Option R)->Option R
abbrev Bmr (R : Type) := Int->d4->Int->Int->d0->Int->Int->d0->Option R
abbrev Ant := {R : Type} → Nat → Nat → A89 R
def A1c (Aas : Ady) {R : Type} (N : Nat) (rc : Bmr R) : A89 R := fun d e f g b h a i j => if ((decide (a < h)) = true) then (if (0 ≤ a ∧ a < len b) then (let c := (b.getD a.toNat 0); if ((Ajg c) = true) then (if (((1 : Nat) + (List.length (Axj c))) ≤ (70368744177664 : Nat)) then (Aas N ((32 : UInt8) :: (List.append ([] : List UInt8) (Axj c))) i fun m l => rc d e f g b h (wi (a + 1)) l) else none) else none) else none) else j d e f g i
def Ac3 {R : Type} (N : Nat) : Nat → A89 R
 | 0 => fun _ _ _ _ _ _ _ _ _ => none
 | k + 1 => fun a b c d e f g h i => A1c @Aas N (fun a b c d e f g h => Ac3 N k a b c d e f g h i) a b c d e f g h i
def Aul (Ac3 : Ant) (N k : Nat) : Aan Aii := fun R x K => Ac3 N k x.1.1 x.1.2.2.1 x.1.2.2.2.1 x.1.2.2.2.2.1 x.1.2.2.2.2.2.1 x.1.2.2.2.2.2.2.1 x.1.2.2.2.2.2.2.2.1 x.2.2.1 (fun y0 y1 y2 y3 y4 => K (.exit 2) (Aab Avf ((y0, (), y1, y2, y3, ()), (((), (), ()), y4, ()))))
def A9a (N k : Nat) : Aan Aii := Aul @Ac3 N k
def Ado : Aac := ⟨Cjm, Bw3⟩
def Asc : Aac := ⟨Cno, Bw3⟩
def Bgk : Acn := .cons (.exit 0) Asc (.nil)
abbrev A4g (R : Type) := Int->d4->Int->Int->d0->(d0->Option R)->Option R
abbrev Bgl (R : Type) := Int->d4->Int->Int->d0->Option R
abbrev Anu := {R : Type} → Nat → Nat → A4g R
def Avg (Aas : Ady) (Ac3 : Ant) (Aad : Ab8) {R : Type} (N : Nat) (rc : Bgl R) : A4g R := fun d b e a f m => if ((decide (a < e)) = true) then (if (0 ≤ a ∧ a < len b) then (let g := (b.getD a.toNat (0, (0, (0, (0, 0))))).1; let h := (b.getD a.toNat (0, (0, (0, (0, 0))))).2.1; let i := (b.getD a.toNat (0, (0, (0, (0, 0))))).2.2.1; let j := (b.getD a.toNat (0, (0, (0, (0, 0))))).2.2.2.1; let l := (b.getD a.toNat (0, (0, (0, (0, 0))))).2.2.2.2; if ((Ajg a) = true) then (Aas N (Axj a) f fun u n => let c := (wi (d + 1)); if ((0 ≤ c) ∧ (c ≤ (((List.length (g :: (h :: (i :: (j :: (l :: ([] : List Int))))))) : Nat) : Int))) then (if (((0 :Int) ≤ (0 :Int)) ∧ (0 ≤ c)) then (Ac3 N N d b e a (List.take ((Int.toNat c) - (0 : Nat)) (g :: (h :: (i :: (j :: (l :: ([] : List Int))))))) ((((Int.toNat c) - (0 : Nat)) : Nat) : Int) 0 n fun o p q r s => Aad N 10 s fun t => rc o p q (wi (r + 1)) t) else none) else none) else none) else none) else m f
def Acg {R : Type} (N : Nat) : Nat → A4g R
 | 0 => fun _ _ _ _ _ _ => none
 | k + 1 => fun a b c d e f => Avg @Aas @Ac3 @Aad N (fun a b c d e => Acg N k a b c d e f) a b c d e f
def Anv (Acg : Anu) (N k : Nat) : Aan Ado := fun R x K => Acg N k x.1.1 x.1.2.2.1 x.1.2.2.2.1 x.1.2.2.2.2.1 x.2.2.1 (fun y0 => K (.exit 0) (Aab Asc (((), ()), (((), (), ()), y0, ()))))
def Avh (N k : Nat) : Aan Ado := Anv @Acg N k
def Aje : Aac := ⟨Cjm, [(32, .cells 80 [(.same .nilptr), (.same .nilsl)])]⟩
def Aya : Aac := ⟨Cno, Bw3⟩
def Ayb : Aac := ⟨Cno, [(32, .cells 80 [(.same .nilptr), (.same .nilsl)])]⟩
def Bpb : Acn := .cons (.exit 0) Aya (.cons (.exit 0) Ayb (.nil))
abbrev Bcm (R : Type) := Int->d4->Int->Int->(d0->Option R)->(Option R)->Option R
abbrev Bpc (R : Type) := Int->d4->Int->Int->Option R
abbrev Aq8 := {R : Type} → Nat → Nat → Bcm R
def A2u (Aaw : Afc) (Ac3 : Ant) (Aad : Ab8) (Acg : Anu) {R : Type} (N : Nat) (rc : Bpc R) : Bcm R := fun d b e a l m => if ((decide (a < e)) = true) then (if (0 ≤ a ∧ a < len b) then (let f := (b.getD a.toNat (0, (0, (0, (0, 0))))).1; let g := (b.getD a.toNat (0, (0, (0, (0, 0))))).2.1; let h := (b.getD a.toNat (0, (0, (0, (0, 0))))).2.2.1; let i := (b.getD a.toNat (0, (0, (0, (0, 0))))).2.2.2.1; let j := (b.getD a.toNat (0, (0, (0, (0, 0))))).2.2.2.2; if ((Ajg a) = true) then (Aaw N (Axj a) ([] : List Int) fun u n => let c := (wi (d + 1)); if ((0 ≤ c) ∧ (c ≤ (((List.length (f :: (g :: (h :: (i :: (j :: ([] : List Int))))))) : Nat) : Int))) then (if (((0 :Int) ≤ (0 :Int)) ∧ (0 ≤ c)) then (Ac3 N N d b e a (List.take ((Int.toNat c) - (0 : Nat)) (f :: (g :: (h :: (i :: (j :: ([] : List Int))))))) ((((Int.toNat c) - (0 : Nat)) : Nat) : Int) 0 n fun o p q r s => Aad N 10 s fun t => Acg N N o p q (wi (r + 1)) t l) else none) else none) else none) else none) else m
def Aec {R : Type} (N : Nat) : Nat → Bcm R
 | 0 => fun _ _ _ _ _ _ => none
 | k + 1 => fun a b c d e f => A2u @Aaw @Ac3 @Aad @Acg N (fun a b c d => Aec N k a b c d e f) a b c d e f
def Awp (Aec : Aq8) (N k : Nat) : Aan Aje := fun R x K => Aec N k x.1.1 x.1.2.2.1 x.1.2.2.2.1 x.1.2.2.2.2.1 (fun y0 => K (.exit 0) (Aab Aya (((), ()), (((), (), ()), y0, ())))) (K (.exit 0) (Aab Ayb (((), ()), (((), (), ()), ()))))
def Bcn (N k : Nat) : Aan Aje := Awp @Aec N k
def Bk2 : Aac := ⟨[wq9, Alp], []⟩
def A2v : Aac := ⟨Cnu, []⟩
abbrev Cfy (R : Type) := d4->Int->((List UInt8)->Option R)->Option R
abbrev A2b := {R : Type} → Nat → Cfy R
def Bk3 (Aec : Aq8) : A2b := fun {R} N b d c => Aec N N d b (len b) 0 (fun a => if (((0 : Nat) < (List.length a)) ∧ (((List.length a) ≤ (70368744177664 : Nat)) ∧ ((Amp a) = true))) then (c (Axi a)) else none) (c ([] : List UInt8))
def Ame : A2b := @Bk3 @Aec
def Cte (N : Nat) : Abs Bk2 [A2v] := fun R x C => Ame N x.1.1 x.1.2.1 (fun y0 => C.1 ((y0, ()), (())))
def Bv7 (Ame : A2b) (N : Nat) : Go.AX.Aaj := Ac6 [true, true] [] false 2 0 Bk2 [A2v] (fun R x C => Ame N x.1.1 x.1.2.1 (fun y0 => C.1 ((y0, ()), (()))))
def Bv8 (N : Nat) : Go.AX.Aaj := Bv7 @Ame N
def Ctf (N : Nat) : List (Nat × Ac0) := [(15, Aaa Aii (A9a N N)), (7, A0w (Aaa Ado (Avh N N)) (Aaa Aje (Bcn N N)) (fun st => (dec Ado st).isSome))]
def Cfz (N : Nat) : List (Nat × Go.AX.Aaj) := [(55, Ap5 N), (54, Aub 2 Aeo (Atb N) (Aqh N)), (56, Ams N), (57, Ae3 N)]
def Bk4 : Aac := ⟨B4m, []⟩
def A2w : Aac := ⟨Ci9, []⟩
abbrev Cf0 (R : Type) := (List UInt8)->d3->d1->d2->d4->((List UInt8)->Int->Option R)->Option R
abbrev A2c := {R : Type} → Nat → Cf0 R
def Bk5 (Ak9 : Azo) (Ame : A2b) : A2c := fun {R} N d e f g a b => Ak9 N d e f g a fun c => if ((c != 0) = true) then (b ([] : List UInt8) c) else Ame N a 4 fun h => b h 0
def Am5 : A2c := @Bk5 @Ak9 @Ame
def Ctg (N : Nat) : Abs Bk4 [A2w] := fun R x C => Am5 N x.1.1.1 x.1.1.2.1 x.1.1.2.2.1 x.1.1.2.2.2.1 x.1.1.2.2.2.2.1 (fun y0 y1 => C.1 ((y0, y1, ()), (())))
def Bv9 (Am5 : A2c) (N : Nat) : Go.AX.Aaj := Ac6 [true] [] false 1 0 Bk4 [A2w] (fun R x C => Am5 N x.1.1.1 x.1.1.2.1 x.1.1.2.2.1 x.1.1.2.2.2.1 x.1.1.2.2.2.2.1 (fun y0 y1 => C.1 ((y0, y1, ()), (()))))
def Bwa (N : Nat) : Go.AX.Aaj := Bv9 @Am5 N
def Cth (N : Nat) : List (Nat × Ac0) := []
def Cf1 (N : Nat) : List (Nat × Go.AX.Aaj) := [(43, Brx N), (23, Bv8 N)]
def Ag5 : Code := Tryz.f19.body.getD .skip
def Agb : Code := Tryz.f44.body.getD .skip
def Apd : Code := Tryz.f34.body.getD .skip
def Aiy : Aac := ⟨[wq3, Bko, A1m], [Beg, Cji, (34, .row 91 z2)]⟩
def Asd : Aac := ⟨Bw1, [(32, .cells 89 [(.val .str), (.val z3), (.slf 33), (.val z1), wq0, wq0]), (33, .row 91 z2)]⟩
def Bgm : Acn := .cons (.exit 0) Asd (.nil)
abbrev A4h (R : Type) := Int->(List UInt8)->d3->d1->d2->d4->(List UInt8)->d3->d1->Int->Int->d2->((List UInt8)->d3->d1->Int->Int->d2->Option R)->Option R
abbrev Bgn (R : Type) := Int->(List UInt8)->d3->d1->d2->d4->(List UInt8)->d3->d1->Int->Int->d2->Option R
abbrev Avi := {R : Type} → Nat → Nat → A4h R
def Avj {R : Type} (N : Nat) (rc : Bgn R) : A4h R := fun c j l m d n e f g h i a o => if ((decide (c < (len d))) = true) then (let b := (wi (c + 1)); if ((((List.length a) + (List.length ((24, (b, 0)) :: [(26, (0, 0))]))) * (24 : Nat)) ≤ (70368744177664 : Nat)) then (rc b j l m d n e f g h i (a ++ ((24, (b, 0)) :: [(26, (0, 0))]))) else none) else o e f g h i a
def Aei {R : Type} (N : Nat) : Nat → A4h R
 | 0 => fun _ _ _ _ _ _ _ _ _ _ _ _ _ => none
 | k + 1 => fun a b c d e f g h i j l m n => Avj N (fun a b c d e f g h i j l m => Aei N k a b c d e f g h i j l m n) a b c d e f g h i j l m n
def A4i (Aei : Avi) (N k : Nat) : Aan Aiy := fun R x K => Aei N k x.1.2.2.1 x.2.1.1 x.2.1.2.1 x.2.1.2.2.1 x.2.1.2.2.2.1 x.2.1.2.2.2.2.1 x.2.2.1.1 x.2.2.1.2.1 x.2.2.1.2.2.2.1 x.2.2.1.2.2.2.2.1 x.2.2.1.2.2.2.2.2.1 x.2.2.2.1 (fun y0 y1 y2 y3 y4 y5 => K (.exit 0) (Aab Asd (((), ()), ((y0, y1, (), y2, y3, y4, ()), y5, ()))))
def A4j (N k : Nat) : Aan Aiy := A4i @Aei N k
def Ape : Code := Tryz.f67.body.getD .skip
def Amv : Code := Tryz.f106.body.getD .skip
def Ahp : Aac := ⟨[wq3, A1l, A1m], Atd⟩
def Aps : Aac := ⟨Cnz, []⟩
def Bao : Acn := .cons (.exit 0) Aps (.nil)
abbrev Azp (R : Type) := Int->Int->(List UInt8)->d3->d2->d1->Int->Int->(Int->Option R)->Option R
abbrev Bap (R : Type) := Int->Int->(List UInt8)->d3->d2->d1->Int->Int->Option R
abbrev Ase := {R : Type} → Nat → Nat → Azp R
def Asf {R : Type} (N : Nat) (rc : Bap R) : Azp R := fun c a d b e f g h j => if ((decide (a < (len b))) = true) then (if (0 ≤ a ∧ a < len b) then (let i := (wi (c + (((List.length (b.getD a.toNat (([] : List UInt8), (false, ([] : List Int)))).2.2) : Nat) : Int))); if (0 ≤ a ∧ a < len b) then (if ((b.getD a.toNat (([] : List UInt8), (false, ([] : List Int)))).2.1 = true) then (if (0 ≤ a ∧ a < len b) then (rc (wi (i + (wi (Int.tdiv (wi ((((List.length (b.getD a.toNat (([] : List UInt8), (false, ([] : List Int)))).1) : Nat) : Int) + 2)) 2)))) (wi (a + 1)) d b e f g h) else none) else rc i (wi (a + 1)) d b e f g h) else none) else none) else j c
def Adp {R : Type} (N : Nat) : Nat → Azp R
 | 0 => fun _ _ _ _ _ _ _ _ _ => none
 | k + 1 => fun a b c d e f g h i => Asf N (fun a b c d e f g h => Adp N k a b c d e f g h i) a b c d e f g h i
def Azq (Adp : Ase) (N k : Nat) : Aan Ahp := fun R x K => Adp N k x.1.2.1 x.1.2.2.1 x.2.1.1 x.2.1.2.1 x.2.1.2.2.1 x.2.1.2.2.2.1 x.2.1.2.2.2.2.1 x.2.1.2.2.2.2.2.1 (fun y0 => K (.exit 0) (Aab Aps ((y0, ()), (()))))
def Azr (N k : Nat) : Aan Ahp := Azq @Adp N k
def A64 : Aac := ⟨A50, []⟩
def Atu : Aac := ⟨Aip, []⟩
abbrev B1r (R : Type) := (List UInt8)->d3->d2->d1->Int->Int->(Bool->Option R)->Option R
abbrev Aot := {R : Type} → Nat → B1r R
def A65 (Adp : Ase) : Aot := fun {R} N f b c g d e a => if ((decide ((len c) > 40000)) = true) then (a true) else if ((decide ((len b) > 2000)) = true) then (a true) else if ((decide (d > 200)) = true) then (a true) else if ((decide (e > 20000)) = true) then (a true) else Adp N N 0 0 f b c g d e fun h => a (decide (h > 7800))
def Afp : Aot := @A65 @Adp
def Co0 (N : Nat) : Abs A64 [Atu] := fun R x C => Afp N x.1.1.1 x.1.1.2.1 x.1.1.2.2.1 x.1.1.2.2.2.1 x.1.1.2.2.2.2.1 x.1.1.2.2.2.2.2.1 (fun y0 => C.1 ((y0, ()), (())))
def A66 (Afp : Aot) (N : Nat) : Go.AX.Aaj := Ac6 [true] [] false 1 0 A64 [Atu] (fun R x C => Afp N x.1.1.1 x.1.1.2.1 x.1.1.2.2.1 x.1.1.2.2.2.1 x.1.1.2.2.2.2.1 x.1.1.2.2.2.2.2.1 (fun y0 => C.1 ((y0, ()), (()))))
def Bjf (N : Nat) : Go.AX.Aaj := A66 @Afp N
def Co1 (N : Nat) : List (Nat × Ac0) := [(11, Aaa Ahp (Azr N N))]
def B1s (N : Nat) : List (Nat × Go.AX.Aaj) := []
def Adt : Code := Tryz.f107.body.getD .skip
def Apf : Code := Tryz.f171.body.getD .skip
def Aj4 : Aac := ⟨[B4f, (4, .one (.val .str)), Bbn], []⟩
def Atv : Aac := ⟨[(2, .one (.val .str)), A1l], []⟩
def Atw : Aac := ⟨[B4f, (4, .one (.val .str))], []⟩
def Bjg : Acn := .cons .ret Atv (.cons (.exit 0) Atw (.nil))
abbrev A67 (R : Type) := (List UInt8)->(List UInt8)->Int->((List UInt8)->Int->Option R)->((List UInt8)->(List UInt8)->Option R)->Option R
abbrev Bjh (R : Type) := (List UInt8)->(List UInt8)->Int->Option R
abbrev Ayc := {R : Type} → Nat → Nat → A67 R
def Ayd {R : Type} (N : Nat) (rc : Bjh R) : A67 R := fun b c a j m => if ((decide (a < (len b))) = true) then (if (0 ≤ a ∧ a < len b) then (let d := (((UInt8.toNat (b.getD a.toNat (0 : UInt8))) : Nat) : Int); if ((d == 10) = true) then (if (((List.length c) + (2 : Nat)) ≤ (70368744177664 : Nat)) then (rc b (c ++ [(42 : UInt8), (110 : UInt8)]) (wi (a + 1))) else none) else if ((d == 9) = true) then (if (((List.length c) + (2 : Nat)) ≤ (70368744177664 : Nat)) then (rc b (c ++ [(42 : UInt8), (116 : UInt8)]) (wi (a + 1))) else none) else if ((d == 42) = true) then (let e := (wi (a + 1)); if ((0 ≤ e) ∧ (e ≤ (len b))) then (if ((0 ≤ a) ∧ (a ≤ e)) then (let h := (List.drop (Int.toNat a) (List.take (Int.toNat e) b)); if (((1 : Nat) + (List.length h)) ≤ (70368744177664 : Nat)) then (if (((List.length c) + (List.length ((42 : UInt8) :: h))) ≤ (70368744177664 : Nat)) then (rc b (c ++ ((42 : UInt8) :: h)) e) else none) else none) else none) else none) else if ((d == 34) = true) then (let f := (wi (a + 1)); if ((0 ≤ f) ∧ (f ≤ (len b))) then (if ((0 ≤ a) ∧ (a ≤ f)) then (let i := (List.drop (Int.toNat a) (List.take (Int.toNat f) b)); if (((1 : Nat) + (List.length i)) ≤ (70368744177664 : Nat)) then (if (((List.length c) + (List.length ((42 : UInt8) :: i))) ≤ (70368744177664 : Nat)) then (rc b (c ++ ((42 : UInt8) :: i)) f) else none) else none) else none) else none) else if ((decide (d < 32)) = true) then (j ([] : List UInt8) 3) else if ((decide (d > 126)) = true) then (j ([] : List UInt8) 3) else let g := (wi (a + 1)); if ((0 ≤ g) ∧ (g ≤ (len b))) then (if ((0 ≤ a) ∧ (a ≤ g)) then (let l := (List.drop (Int.toNat a) (List.take (Int.toNat g) b)); if (((List.length c) + (List.length l)) ≤ (70368744177664 : Nat)) then (rc b (c ++ l) g) else none) else none) else none) else none) else m b c
def Aeq {R : Type} (N : Nat) : Nat → A67 R
 | 0 => fun _ _ _ _ _ => none
 | k + 1 => fun a b c d e => Ayd N (fun a b c => Aeq N k a b c d e) a b c d e
def A68 (Aeq : Ayc) (N k : Nat) : Aan Aj4 := fun R x K => Aeq N k x.1.1 x.1.2.1 x.1.2.2.1 (fun y0 y1 => K .ret (Aab Atv ((y0, y1, ()), (())))) (fun y0 y1 => K (.exit 0) (Aab Atw ((y0, y1, ()), (()))))
def A69 (N k : Nat) : Aan Aj4 := A68 @Aeq N k
def Bco : Aac := ⟨Cnu, []⟩
def Aye : Aac := ⟨Ci9, []⟩
abbrev B9h (R : Type) := (List UInt8)->((List UInt8)->Int->Option R)->Option R
abbrev Akw := {R : Type} → Nat → B9h R
def Bcp (Aeq : Ayc) : Akw := fun {R} N c a => Aeq N N c ([(34 : UInt8)]) 0 (fun d e => a d e) fun f b => if ((decide ((len f) > 100)) = true) then (a ([] : List UInt8) 2) else if (((List.length b) + (1 : Nat)) ≤ (70368744177664 : Nat)) then (a (b ++ [(34 : UInt8)]) 0) else none
def Acr : Akw := @Bcp @Aeq
def Cq1 (N : Nat) : Abs Bco [Aye] := fun R x C => Acr N x.1.1 (fun y0 y1 => C.1 ((y0, y1, ()), (())))
def Aq9 (Acr : Akw) (N : Nat) : Go.AX.Aaj := Ac6 [true] [] false 1 0 Bco [Aye] (fun R x C => Acr N x.1.1 (fun y0 y1 => C.1 ((y0, y1, ()), (()))))
def Bpd (N : Nat) : Go.AX.Aaj := Aq9 @Acr N
def Cq2 (N : Nat) : List (Nat × Ac0) := [(7, Aaa Aj4 (A69 N N))]
def B9i (N : Nat) : List (Nat × Go.AX.Aaj) := []
def B1t : Code := Tryz.f172.body.getD .skip
def Boa : Aac := ⟨Cbv, []⟩
def A7a : Aac := ⟨Aip, []⟩
abbrev Cjs (R : Type) := Int->Int->Int->(Bool->Option R)->Option R
abbrev Aed := {R : Type} → Nat → Cjs R
def Aap : Aed := fun {R} N a c d b => if ((decide (a ≥ c)) = true) then (b (decide (a ≤ d))) else b false
def Cjt (N : Nat) : Abs Boa [A7a] := fun R x C => Aap N x.1.1 x.1.2.1 x.1.2.2.1 (fun y0 => C.1 ((y0, ()), (())))
def Aia (Aap : Aed) (N : Nat) : Go.AX.Aaj := Ac6 [true, true, true] [] false 3 0 Boa [A7a] (fun R x C => Aap N x.1.1 x.1.2.1 x.1.2.2.1 (fun y0 => C.1 ((y0, ()), (()))))
def A7b (N : Nat) : Go.AX.Aaj := Aia @Aap N
def Cju (N : Nat) : List (Nat × Ac0) := []
def B1u (N : Nat) : List (Nat × Go.AX.Aaj) := []
def Agc : Aac := ⟨[wq3, A1l, (4, .one (.ptr 33)), Brr], [A51, (33, .cells 36 [(.val .str), (.val .bool), Bw2])]⟩
def Asg : Aac := ⟨A1k, []⟩
def Ash : Aac := ⟨Cn4, Atd⟩
def Bgo : Acn := .cons .ret Asg (.cons (.exit 2) Ash (.nil))
abbrev A4k (R : Type) := Int->Int->(List UInt8)->d3->d2->d1->Int->Int->(List UInt8)->Bool->d0->(Bool->Option R)->(Int->(List UInt8)->d3->d2->d1->Int->Int->Option R)->Option R
abbrev Bgp (R : Type) := Int->Int->(List UInt8)->d3->d2->d1->Int->Int->(List UInt8)->Bool->d0->Option R
abbrev Alz := {R : Type} → Nat → Nat → A4k R
def Avk (Aap : Aed) {R : Type} (N : Nat) (rc : Bgp R) : A4k R := fun c a d e f g h i j l b m n => if ((decide (a < (len b))) = true) then (if (0 ≤ a ∧ a < len b) then (Aap N (b.getD a.toNat 0) (-2147483648) 2147483647 fun o => if ((!o) = true) then (m false) else rc c (wi (a + 1)) d e f g h i j l b) else none) else n c d e f g h i
def Ab3 {R : Type} (N : Nat) : Nat → A4k R
 | 0 => fun _ _ _ _ _ _ _ _ _ _ _ _ _ => none
 | k + 1 => fun a b c d e f g h i j l m n => Avk @Aap N (fun a b c d e f g h i j l => Ab3 N k a b c d e f g h i j l m n) a b c d e f g h i j l m n
def Anw (Ab3 : Alz) (N k : Nat) : Aan Agc := fun R x K => Ab3 N k x.1.2.1 x.1.2.2.2.1 x.2.1.1 x.2.1.2.1 x.2.1.2.2.1 x.2.1.2.2.2.1 x.2.1.2.2.2.2.1 x.2.1.2.2.2.2.2.1 x.2.2.1.1 x.2.2.1.2.1 x.2.2.1.2.2.1 (fun y0 => K .ret (Aab Asg ((y0, ()), (())))) (fun y0 y1 y2 y3 y4 y5 y6 => K (.exit 2) (Aab Ash (((), y0, ()), ((y1, y2, y3, y4, y5, y6, ()), ()))))
def A4l (N k : Nat) : Aan Agc := Anw @Ab3 N k
def Agz : Aac := ⟨Cn4, Atd⟩
def Atx : Aac := ⟨A1k, []⟩
def Aty : Aac := ⟨Cdv, Atd⟩
def Bji : Acn := .cons .ret Atx (.cons (.exit 0) Aty (.nil))
abbrev A7c (R : Type) := Int->(List UInt8)->d3->d2->d1->Int->Int->(Bool->Option R)->((List UInt8)->d3->d2->d1->Int->Int->Option R)->Option R
abbrev Bjj (R : Type) := Int->(List UInt8)->d3->d2->d1->Int->Int->Option R
abbrev Amw := {R : Type} → Nat → Nat → A7c R
def Ayf (Acr : Akw) (Ab3 : Alz) {R : Type} (N : Nat) (rc : Bjj R) : A7c R := fun a d b e f g h c l => if ((decide (a < (len b))) = true) then (if (0 ≤ a ∧ a < len b) then (let i := (b.getD a.toNat (([] : List UInt8), (false, ([] : List Int)))).1; let j := (b.getD a.toNat (([] : List UInt8), (false, ([] : List Int)))).2.2; if ((b.getD a.toNat (([] : List UInt8), (false, ([] : List Int)))).2.1 = true) then (Acr N i fun v m => if ((m != 0) = true) then (c false) else if ((decide ((len j) > 0)) = true) then (c false) else rc (wi (a + 1)) d b e f g h) else if ((!(i == ([] : List UInt8))) = true) then (c false) else if (((len j) == 0) = true) then (c false) else Ab3 N N a 0 d b e f g h i ((b.getD a.toNat (([] : List UInt8), (false, ([] : List Int)))).2.1) j (fun n => c n) fun o p q r s t u => rc (wi (o + 1)) p q r s t u) else none) else l d b e f g h
def Ab9 {R : Type} (N : Nat) : Nat → A7c R
 | 0 => fun _ _ _ _ _ _ _ _ _ => none
 | k + 1 => fun a b c d e f g h i => Ayf @Acr @Ab3 N (fun a b c d e f g => Ab9 N k a b c d e f g h i) a b c d e f g h i
def Aou (Ab9 : Amw) (N k : Nat) : Aan Agz := fun R x K => Ab9 N k x.1.2.1 x.2.1.1 x.2.1.2.1 x.2.1.2.2.1 x.2.1.2.2.2.1 x.2.1.2.2.2.2.1 x.2.1.2.2.2.2.2.1 (fun y0 => K .ret (Aab Atx ((y0, ()), (())))) (fun y0 y1 y2 y3 y4 y5 => K (.exit 0) (Aab Aty (((), ()), ((y0, y1, y2, y3, y4, y5, ()), ()))))
def A7d (N k : Nat) : Aan Agz := Aou @Ab9 N k
def Agd : Aac := ⟨[wq3, Ci3, (9, .one (.ptr 33)), Cd0], [A51, (33, .cells 71 [wq0, wq0])]⟩
def Asi : Aac := ⟨A1k, []⟩
def Asj : Aac := ⟨Cn5, Atd⟩
def Bgq : Acn := .cons .ret Asi (.cons (.exit 6) Asj (.nil))
abbrev A4m (R : Type) := Int->Int->(List UInt8)->d3->d2->d1->Int->Int->Int->Int->(Bool->Option R)->(Int->(List UInt8)->d3->d2->d1->Int->Int->Option R)->Option R
abbrev Bgr (R : Type) := Int->Int->(List UInt8)->d3->d2->d1->Int->Int->Int->Int->Option R
abbrev Al0 := {R : Type} → Nat → Nat → A4m R
def Avl {R : Type} (N : Nat) (rc : Bgr R) : A4m R := fun c a d e f b g h i j l m => if ((decide (a < c)) = true) then (if (0 ≤ a ∧ a < len b) then (if (((b.getD a.toNat (0, 0)).1 == i) = true) then (l false) else rc c (wi (a + 1)) d e f b g h i j) else none) else m c d e f b g h
def Ab4 {R : Type} (N : Nat) : Nat → A4m R
 | 0 => fun _ _ _ _ _ _ _ _ _ _ _ _ => none
 | k + 1 => fun a b c d e f g h i j l m => Avl N (fun a b c d e f g h i j => Ab4 N k a b c d e f g h i j l m) a b c d e f g h i j l m
def Anx (Ab4 : Al0) (N k : Nat) : Aan Agd := fun R x K => Ab4 N k x.1.2.1 x.1.2.2.2.1 x.2.1.1 x.2.1.2.1 x.2.1.2.2.1 x.2.1.2.2.2.1 x.2.1.2.2.2.2.1 x.2.1.2.2.2.2.2.1 x.2.2.1.1 x.2.2.1.2.1 (fun y0 => K .ret (Aab Asi ((y0, ()), (())))) (fun y0 y1 y2 y3 y4 y5 y6 => K (.exit 6) (Aab Asj (((), y0, ()), ((y1, y2, y3, y4, y5, y6, ()), ()))))
def A4n (N k : Nat) : Aan Agd := Anx @Ab4 N k
def Age : Aac := ⟨Cn5, Atd⟩
def Ask : Aac := ⟨A1k, []⟩
def Asl : Aac := ⟨Cdv, Atd⟩
def Bgs : Acn := .cons .ret Ask (.cons (.exit 4) Asl (.nil))
abbrev A4o (R : Type) := Int->(List UInt8)->d3->d2->d1->Int->Int->(Bool->Option R)->((List UInt8)->d3->d2->d1->Int->Int->Option R)->Option R
abbrev Bgt (R : Type) := Int->(List UInt8)->d3->d2->d1->Int->Int->Option R
abbrev Al1 := {R : Type} → Nat → Nat → A4o R
def Avm (Aap : Aed) (Ab4 : Al0) {R : Type} (N : Nat) (rc : Bgt R) : A4o R := fun a e f g b c h d l => if ((decide (a < (len b))) = true) then (if (0 ≤ a ∧ a < len b) then (let i := (b.getD a.toNat (0, 0)).1; let j := (b.getD a.toNat (0, 0)).2; Aap N i 1 199 fun m => if ((!m) = true) then (d false) else Aap N j 1 c fun n => if ((!n) = true) then (d false) else Ab4 N N a 0 e f g b c h i j (fun o => d o) fun p q r s t u v => rc (wi (p + 1)) q r s t u v) else none) else l e f g b c h
def Abn {R : Type} (N : Nat) : Nat → A4o R
 | 0 => fun _ _ _ _ _ _ _ _ _ => none
 | k + 1 => fun a b c d e f g h i => Avm @Aap @Ab4 N (fun a b c d e f g => Abn N k a b c d e f g h i) a b c d e f g h i
def Anz (Abn : Al1) (N k : Nat) : Aan Age := fun R x K => Abn N k x.1.2.1 x.2.1.1 x.2.1.2.1 x.2.1.2.2.1 x.2.1.2.2.2.1 x.2.1.2.2.2.2.1 x.2.1.2.2.2.2.2.1 (fun y0 => K .ret (Aab Ask ((y0, ()), (())))) (fun y0 y1 y2 y3 y4 y5 => K (.exit 4) (Aab Asl (((), ()), ((y0, y1, y2, y3, y4, y5, ()), ()))))
def A4p (N k : Nat) : Aan Age := Anz @Abn N k
def Bcq : Aac := ⟨A50, []⟩
def Ayg : Aac := ⟨Aip, []⟩
abbrev B9j (R : Type) := (List UInt8)->d3->d2->d1->Int->Int->(Bool->Option R)->Option R
abbrev Ara := {R : Type} → Nat → B9j R
def Bcr (Ab9 : Amw) (Abn : Al1) (Acr : Akw) : Ara := fun {R} N b c d e f g a => Ab9 N N 0 b c d e f g (fun h => a h) fun i j l m n o => Abn N N 0 i j l m n o (fun p => a p) fun q s t u v w => Acr N q fun x r => a (r == 0)
def Ahg : Ara := @Bcr @Ab9 @Abn @Acr
def Cq3 (N : Nat) : Abs Bcq [Ayg] := fun R x C => Ahg N x.1.1.1 x.1.1.2.1 x.1.1.2.2.1 x.1.1.2.2.2.1 x.1.1.2.2.2.2.1 x.1.1.2.2.2.2.2.1 (fun y0 => C.1 ((y0, ()), (())))
def Bcs (Ahg : Ara) (N : Nat) : Go.AX.Aaj := Ac6 [true] [] false 1 0 Bcq [Ayg] (fun R x C => Ahg N x.1.1.1 x.1.1.2.1 x.1.1.2.2.1 x.1.1.2.2.2.1 x.1.1.2.2.2.2.1 x.1.1.2.2.2.2.2.1 (fun y0 => C.1 ((y0, ()), (()))))
def Bpe (N : Nat) : Go.AX.Aaj := Bcs @Ahg N
def Cq4 (N : Nat) : List (Nat × Ac0) := [(25, Aaa Agc (A4l N N)), (5, Aaa Agz (A7d N N)), (47, Aaa Agd (A4n N N)), (35, Aaa Age (A4p N N))]
def B9k (N : Nat) : List (Nat × Go.AX.Aaj) := [(171, Bpd N), (172, A7b N)]
def Aee : Code := Tryz.f108.body.getD .skip
def Afy : Aac := ⟨[A1j, Bko, Ci5, (93, .one (.val .bool))], Btu⟩
def Avn : Aac := ⟨Ay5, []⟩
def Avo : Aac := ⟨Bw1, A2l⟩
def Baq : Acn := .cons .ret Avn (.cons .normal Avo (.nil))
abbrev Bry (R : Type) := Int->Bool->(List UInt8)->d3->d2->d1->Int->Int->Int->Int->Int->(Bool->Option R)->(Int->Int->Int->Option R)->Option R
abbrev Ago := {R : Type} → Nat → Bry R
def Azs (Aap : Aed) : Ago := fun {R} N d f q r s t g e h b c a i => if (f = true) then (Aap N b 1 e fun j => a j) else if ((d == 24) = true) then (Aap N b 1 g fun l => if (l = true) then (Aap N c 0 8 fun m => a m) else a false) else if ((d == 29) = true) then (Aap N b 1 e fun n => if (n = true) then (Aap N c 0 1000 fun o => a o) else a false) else if ((d == 30) = true) then (Aap N c 1 e fun p => a p) else i h b c
def Aa6 : Ago := @Azs @Aap
def Akj (Aa6 : Ago) (N : Nat) : Aan Afy := fun R x K => Aa6 N x.1.2.2.1 x.1.2.2.2.1 x.2.1.1 x.2.1.2.1 x.2.1.2.2.1 x.2.1.2.2.2.1 x.2.1.2.2.2.2.1 x.2.1.2.2.2.2.2.1 x.2.2.1.1 x.2.2.1.2.1 x.2.2.1.2.2.1 (fun y0 => K .ret (Aab Avn ((y0, ()), (())))) (fun y0 y1 y2 => K .normal (Aab Avo (((), ()), ((y0, y1, y2, ()), ()))))
def Bar (N : Nat) : Aan Afy := Akj @Aa6 N
def Afz : Aac := ⟨[A1j, Bko, Ci5, (60, .one (.val .bool))], Btu⟩
def Avp : Aac := ⟨Ay5, []⟩
def Avq : Aac := ⟨Bw1, A2l⟩
def Bas : Acn := .cons .ret Avp (.cons .normal Avq (.nil))
abbrev Brz (R : Type) := Int->Bool->(List UInt8)->d3->d2->d1->Int->Int->Int->Int->Int->(Bool->Option R)->(Int->Int->Int->Option R)->Option R
abbrev Agp := {R : Type} → Nat → Brz R
def Azt (Aap : Aed) (Aa6 : Ago) : Agp := fun {R} N a n f d g h e i j b l c m => if (n = true) then (Aap N b 0 (wi ((len d) - 1)) fun o => c o) else if ((a == 11) = true) then (Aap N b 1 e fun p => c p) else if ((a == 16) = true) then (Aap N b 1 17 fun q => c q) else if ((a == 17) = true) then (if ((b == 18) = true) then (c true) else c (b == 19)) else if ((a == 19) = true) then (Aa6 N a (a == 19) f d g h e i j b l (fun r => c r) fun s t u => m s t u) else if ((a == 20) = true) then (Aa6 N a (a == 20) f d g h e i j b l (fun v => c v) fun w x y => m w x y) else if ((a == 21) = true) then (Aa6 N a (a == 21) f d g h e i j b l (fun z => c z) fun A B C => m A B C) else if ((a == 22) = true) then (Aa6 N a (a == 22) f d g h e i j b l (fun D => c D) fun E F G => m E F G) else Aa6 N a (a == 27) f d g h e i j b l (fun H => c H) fun I J L => m I J L
def Aba : Agp := @Azt @Aap @Aa6
def Akk (Aba : Agp) (N : Nat) : Aan Afz := fun R x K => Aba N x.1.2.2.1 x.1.2.2.2.1 x.2.1.1 x.2.1.2.1 x.2.1.2.2.1 x.2.1.2.2.2.1 x.2.1.2.2.2.2.1 x.2.1.2.2.2.2.2.1 x.2.2.1.1 x.2.2.1.2.1 x.2.2.1.2.2.1 (fun y0 => K .ret (Aab Avp ((y0, ()), (())))) (fun y0 y1 y2 => K .normal (Aab Avq (((), ()), ((y0, y1, y2, ()), ()))))
def Bat (N : Nat) : Aan Afz := Akk @Aba N
def Af0 : Aac := ⟨[A1j, Bko, Ci5, (53, .one (.val .bool))], Btu⟩
def Avr : Aac := ⟨Ay5, []⟩
def Avs : Aac := ⟨Bw1, A2l⟩
def Bau : Acn := .cons .ret Avr (.cons .normal Avs (.nil))
abbrev Br0 (R : Type) := Int->Bool->(List UInt8)->d3->d2->d1->Int->Int->Int->Int->Int->(Bool->Option R)->(Int->Int->Int->Option R)->Option R
abbrev Agq := {R : Type} → Nat → Br0 R
def Azu (Aap : Aed) (Aba : Agp) : Agq := fun {R} N a n d e f g h i j b l c m => if (n = true) then (Aap N b 0 199 fun o => c o) else if ((a == 8) = true) then (Aba N a (a == 8) d e f g h i j b l (fun p => c p) fun q r s => m q r s) else if ((a == 9) = true) then (Aba N a (a == 9) d e f g h i j b l (fun t => c t) fun u v w => m u v w) else Aba N a (a == 10) d e f g h i j b l (fun x => c x) fun y z A => m y z A
def Abb : Agq := @Azu @Aap @Aba
def Akl (Abb : Agq) (N : Nat) : Aan Af0 := fun R x K => Abb N x.1.2.2.1 x.1.2.2.2.1 x.2.1.1 x.2.1.2.1 x.2.1.2.2.1 x.2.1.2.2.2.1 x.2.1.2.2.2.2.1 x.2.1.2.2.2.2.2.1 x.2.2.1.1 x.2.2.1.2.1 x.2.2.1.2.2.1 (fun y0 => K .ret (Aab Avr ((y0, ()), (())))) (fun y0 y1 y2 => K .normal (Aab Avs (((), ()), ((y0, y1, y2, ()), ()))))
def Bav (N : Nat) : Aan Af0 := Akl @Abb N
def Af1 : Aac := ⟨[A1j, Bko, Ci5, (43, .one (.val .bool))], Btu⟩
def Avt : Aac := ⟨Ay5, []⟩
def Avu : Aac := ⟨Bw1, A2l⟩
def Baw : Acn := .cons .ret Avt (.cons .normal Avu (.nil))
abbrev Br1 (R : Type) := Int->Bool->(List UInt8)->d3->d2->d1->Int->Int->Int->Int->Int->(Bool->Option R)->(Int->Int->Int->Option R)->Option R
abbrev Agr := {R : Type} → Nat → Br1 R
def Azv (Aap : Aed) (Abb : Agq) : Agr := fun {R} N a n d e f g h i j b l c m => if (n = true) then (Aap N b 0 4000 fun o => c o) else if ((a == 5) = true) then (Abb N a (a == 5) d e f g h i j b l (fun p => c p) fun q r s => m q r s) else if ((a == 6) = true) then (Abb N a (a == 6) d e f g h i j b l (fun t => c t) fun u v w => m u v w) else Abb N a (a == 7) d e f g h i j b l (fun x => c x) fun y z A => m y z A
def Aat : Agr := @Azv @Aap @Abb
def Akm (Aat : Agr) (N : Nat) : Aan Af1 := fun R x K => Aat N x.1.2.2.1 x.1.2.2.2.1 x.2.1.1 x.2.1.2.1 x.2.1.2.2.1 x.2.1.2.2.2.1 x.2.1.2.2.2.2.1 x.2.1.2.2.2.2.2.1 x.2.2.1.1 x.2.2.1.2.1 x.2.2.1.2.2.1 (fun y0 => K .ret (Aab Avt ((y0, ()), (())))) (fun y0 y1 y2 => K .normal (Aab Avu (((), ()), ((y0, y1, y2, ()), ()))))
def Bax (N : Nat) : Aan Af1 := Akm @Aat N
def Af2 : Aac := ⟨Bw1, A2l⟩
def Avv : Aac := ⟨Ay5, []⟩
def Bay : Acn := .cons .ret Avv (.nil)
abbrev Br2 (R : Type) := Int->Int->Int->(Bool->Option R)->Option R
abbrev Ahq := {R : Type} → Nat → Br2 R
def Aaq : Ahq := fun {R} N c a d b => b (a == 0)
def Akn (Aaq : Ahq) (N : Nat) : Aan Af2 := fun R x K => Aaq N x.2.1.1 x.2.1.2.1 x.2.1.2.2.1 (fun y0 => K .ret (Aab Avv ((y0, ()), (()))))
def Baz (N : Nat) : Aan Af2 := Akn @Aaq N
def A7e : Aac := ⟨[Cjh, (1, .agg Cd2)], []⟩
def Atz : Aac := ⟨Aip, []⟩
abbrev B1v (R : Type) := (List UInt8)->d3->d2->d1->Int->Int->Int->Int->Int->(Bool->Option R)->Option R
abbrev Aov := {R : Type} → Nat → B1v R
def Asm (Aap : Aed) (Aat : Agr) (Aaq : Ahq) : Aov := fun {R} N e f g h i j a d c b => Aap N a 1 30 fun l => if ((!l) = true) then (b false) else Aap N d (-2147483648) 2147483647 fun m => if ((!m) = true) then (b false) else Aap N c (-2147483648) 2147483647 fun n => if ((!n) = true) then (b false) else if ((a != 24) = true) then (if ((a != 29) = true) then (if ((a != 30) = true) then (if ((c != 0) = true) then (b false) else if ((a == 1) = true) then (b true) else if ((a == 2) = true) then (Aat N a (a == 2) e f g h i j a d c (fun o => b o) fun p q r => Aaq N p q r fun s => b s) else if ((a == 3) = true) then (Aat N a (a == 3) e f g h i j a d c (fun t => b t) fun u v w => Aaq N u v w fun x => b x) else if ((a == 4) = true) then (Aat N a (a == 4) e f g h i j a d c (fun y => b y) fun z A B => Aaq N z A B fun C => b C) else if ((a == 23) = true) then (Aat N a (a == 23) e f g h i j a d c (fun D => b D) fun E F G => Aaq N E F G fun H => b H) else if ((a == 18) = true) then (Aat N a (a == 18) e f g h i j a d c (fun I => b I) fun J L M => Aaq N J L M fun O => b O) else Aat N a (a == 28) e f g h i j a d c (fun P => b P) fun Q S T => Aaq N Q S T fun U => b U) else if ((a == 1) = true) then (b true) else if ((a == 2) = true) then (Aat N a (a == 2) e f g h i j a d c (fun V => b V) fun W X Y => Aaq N W X Y fun Z => b Z) else if ((a == 3) = true) then (Aat N a (a == 3) e f g h i j a d c (fun aa => b aa) fun ab ac ad => Aaq N ab ac ad fun ae => b ae) else if ((a == 4) = true) then (Aat N a (a == 4) e f g h i j a d c (fun af => b af) fun ag ah ai => Aaq N ag ah ai fun aj => b aj) else if ((a == 23) = true) then (Aat N a (a == 23) e f g h i j a d c (fun ak => b ak) fun al am an => Aaq N al am an fun ao => b ao) else if ((a == 18) = true) then (Aat N a (a == 18) e f g h i j a d c (fun ap => b ap) fun aq ar au => Aaq N aq ar au fun av => b av) else Aat N a (a == 28) e f g h i j a d c (fun aw => b aw) fun ax ay az => Aaq N ax ay az fun ba => b ba) else if ((a == 1) = true) then (b true) else if ((a == 2) = true) then (Aat N a (a == 2) e f g h i j a d c (fun bb => b bb) fun bc bd be => Aaq N bc bd be fun bf => b bf) else if ((a == 3) = true) then (Aat N a (a == 3) e f g h i j a d c (fun bg => b bg) fun bh bi bj => Aaq N bh bi bj fun bk => b bk) else if ((a == 4) = true) then (Aat N a (a == 4) e f g h i j a d c (fun bl => b bl) fun bm bn bo => Aaq N bm bn bo fun bp => b bp) else if ((a == 23) = true) then (Aat N a (a == 23) e f g h i j a d c (fun bq => b bq) fun br bs bt => Aaq N br bs bt fun bu => b bu) else if ((a == 18) = true) then (Aat N a (a == 18) e f g h i j a d c (fun bv => b bv) fun bw bx bz => Aaq N bw bx bz fun ca => b ca) else Aat N a (a == 28) e f g h i j a d c (fun cb => b cb) fun cc cd ce => Aaq N cc cd ce fun cf => b cf) else if ((a == 1) = true) then (b true) else if ((a == 2) = true) then (Aat N a (a == 2) e f g h i j a d c (fun cg => b cg) fun ch ci cj => Aaq N ch ci cj fun ck => b ck) else if ((a == 3) = true) then (Aat N a (a == 3) e f g h i j a d c (fun cl => b cl) fun cm cn co => Aaq N cm cn co fun cp => b cp) else if ((a == 4) = true) then (Aat N a (a == 4) e f g h i j a d c (fun cq => b cq) fun cr cs ct => Aaq N cr cs ct fun cu => b cu) else if ((a == 23) = true) then (Aat N a (a == 23) e f g h i j a d c (fun cv => b cv) fun cw cx cy => Aaq N cw cx cy fun cz => b cz) else if ((a == 18) = true) then (Aat N a (a == 18) e f g h i j a d c (fun da => b da) fun db dc dd => Aaq N db dc dd fun de => b de) else Aat N a (a == 28) e f g h i j a d c (fun df => b df) fun dg dh di => Aaq N dg dh di fun dj => b dj
def Aer : Aov := @Asm @Aap @Aat @Aaq
def Co2 (N : Nat) : Abs A7e [Atz] := fun R x C => Aer N x.1.1.1 x.1.1.2.1 x.1.1.2.2.1 x.1.1.2.2.2.1 x.1.1.2.2.2.2.1 x.1.1.2.2.2.2.2.1 x.1.2.1.1 x.1.2.1.2.1 x.1.2.1.2.2.1 (fun y0 => C.1 ((y0, ()), (())))
def A7f (Aer : Aov) (N : Nat) : Go.AX.Aaj := Ac6 [true, true] [] false 2 0 A7e [Atz] (fun R x C => Aer N x.1.1.1 x.1.1.2.1 x.1.1.2.2.1 x.1.1.2.2.2.1 x.1.1.2.2.2.2.1 x.1.1.2.2.2.2.2.1 x.1.2.1.1 x.1.2.1.2.1 x.1.2.1.2.2.1 (fun y0 => C.1 ((y0, ()), (()))))
def Bjk (N : Nat) : Go.AX.Aaj := A7f @Aer N
def Co3 (N : Nat) : List (Nat × Ac0) := [(68, Aaa Afy (Bar N)), (44, Aaa Afz (Bat N)), (36, Aaa Af0 (Bav N)), (28, Aaa Af1 (Bax N)), (82, Aaa Af2 (Baz N))]
def B1w (N : Nat) : List (Nat × Go.AX.Aaj) := [(172, A7b N)]
def Aiz : Aac := ⟨Cn4, Atd⟩
def Asn : Aac := ⟨Bbo, []⟩
def Aso : Aac := ⟨Cdv, Atd⟩
def Bgu : Acn := .cons .ret Asn (.cons (.exit 0) Aso (.nil))
abbrev A4q (R : Type) := Int->(List UInt8)->d3->d2->d1->Int->Int->(Int->Option R)->((List UInt8)->d3->d2->d1->Int->Int->Option R)->Option R
abbrev Bgv (R : Type) := Int->(List UInt8)->d3->d2->d1->Int->Int->Option R
abbrev Avw := {R : Type} → Nat → Nat → A4q R
def A4r (Aer : Aov) {R : Type} (N : Nat) (rc : Bgv R) : A4q R := fun b c d a e f g h i => if ((decide (b < (len a))) = true) then (if (0 ≤ b ∧ b < len a) then (Aer N c d a e f g ((a.getD b.toNat (0, (0, 0))).1) ((a.getD b.toNat (0, (0, 0))).2.1) ((a.getD b.toNat (0, (0, 0))).2.2) fun j => if ((!j) = true) then (h 60) else rc (wi (b + 1)) c d a e f g) else none) else i c d a e f g
def Aew {R : Type} (N : Nat) : Nat → A4q R
 | 0 => fun _ _ _ _ _ _ _ _ _ => none
 | k + 1 => fun a b c d e f g h i => A4r @Aer N (fun a b c d e f g => Aew N k a b c d e f g h i) a b c d e f g h i
def A4s (Aew : Avw) (N k : Nat) : Aan Aiz := fun R x K => Aew N k x.1.2.1 x.2.1.1 x.2.1.2.1 x.2.1.2.2.1 x.2.1.2.2.2.1 x.2.1.2.2.2.2.1 x.2.1.2.2.2.2.2.1 (fun y0 => K .ret (Aab Asn ((y0, ()), (())))) (fun y0 y1 y2 y3 y4 y5 => K (.exit 0) (Aab Aso (((), ()), ((y0, y1, y2, y3, y4, y5, ()), ()))))
def A4t (N k : Nat) : Aan Aiz := A4s @Aew N k
def Ahk : Code := Tryz.f109.body.getD .skip
def Bms : Code := Tryz.f173.body.getD .skip
def A9b : Aac := ⟨Cbt, []⟩
def Avx : Aac := ⟨Aip, []⟩
abbrev B46 (R : Type) := Int->Int->Int->(Bool->Option R)->Option R
abbrev Ajt := {R : Type} → Nat → B46 R
def Aay : Ajt := fun {R} N a c d b => if ((a != 20) = true) then (if ((a != 25) = true) then (if ((a != 26) = true) then (if ((a != 27) = true) then (if ((a != 29) = true) then (b (a != 30)) else b false) else b false) else b false) else b false) else b false
def B47 (N : Nat) : Abs A9b [Avx] := fun R x C => Aay N x.1.1.1 x.1.1.2.1 x.1.1.2.2.1 (fun y0 => C.1 ((y0, ()), (())))
def An0 (Aay : Ajt) (N : Nat) : Go.AX.Aaj := Ac6 [true] [] false 1 0 A9b [Avx] (fun R x C => Aay N x.1.1.1 x.1.1.2.1 x.1.1.2.2.1 (fun y0 => C.1 ((y0, ()), (()))))
def A9c (N : Nat) : Go.AX.Aaj := An0 @Aay N
def B48 (N : Nat) : List (Nat × Ac0) := []
def Bmt (N : Nat) : List (Nat × Go.AX.Aaj) := []
def Ai0 : Aac := ⟨[wq3, A1l, A1m, Bbn, Axb, (7, .one (.ptr 33)), B4g], Btu⟩
def Azw : Aac := ⟨A1k, []⟩
def Azx : Aac := ⟨Cjn, Atd⟩
def Bgw : Acn := .cons .ret Azw (.cons .normal Azx (.nil))
abbrev Bxa (R : Type) := Int->Int->Int->Int->Bool->(List UInt8)->d3->d2->d1->Int->Int->Int->Int->Int->(Bool->Option R)->(Int->Int->Int->Int->(List UInt8)->d3->d2->d1->Int->Int->Option R)->Option R
abbrev Ako := {R : Type} → Nat → Bxa R
def A4u (Aay : Ajt) : Ako := fun {R} N c d e a p f g b h i j n q r l m => Aay N n q r fun s => if (s = true) then (if (p = true) then (l false) else let o := (wi (a + 1)); if (0 ≤ o ∧ o < len b) then (if (((b.getD o.toNat (0, (0, 0))).1 == 24) = true) then (l false) else if ((a == 0) = true) then (if ((n != 24) = true) then (l false) else m c d e a f g b h i j) else m c d e a f g b h i j) else none) else if ((a == 0) = true) then (if ((n != 24) = true) then (l false) else m c d e a f g b h i j) else m c d e a f g b h i j
def Ab5 : Ako := @A4u @Aay
def Aqj (Ab5 : Ako) (N : Nat) : Aan Ai0 := fun R x K => Ab5 N x.1.2.1 x.1.2.2.1 x.1.2.2.2.1 x.1.2.2.2.2.1 x.1.2.2.2.2.2.2.1 x.2.1.1 x.2.1.2.1 x.2.1.2.2.1 x.2.1.2.2.2.1 x.2.1.2.2.2.2.1 x.2.1.2.2.2.2.2.1 x.2.2.1.1 x.2.2.1.2.1 x.2.2.1.2.2.1 (fun y0 => K .ret (Aab Azw ((y0, ()), (())))) (fun y0 y1 y2 y3 y4 y5 y6 y7 y8 y9 => K .normal (Aab Azx (((), y0, y1, y2, y3, ()), ((y4, y5, y6, y7, y8, y9, ()), ()))))
def Bgx (N : Nat) : Aan Ai0 := Aqj @Ab5 N
def Ai1 : Aac := ⟨[wq3, A1l, A1m, Bbn, Axb, (7, .one (.ptr 33))], Btu⟩
def Azy : Aac := ⟨A1k, []⟩
def Azz : Aac := ⟨Cjn, Atd⟩
def Bgy : Acn := .cons .ret Azy (.cons .normal Azz (.nil))
abbrev Bxb (R : Type) := Int->Int->Int->Int->(List UInt8)->d3->d2->d1->Int->Int->Int->Int->Int->(Bool->Option R)->(Int->Int->Int->Int->(List UInt8)->d3->d2->d1->Int->Int->Option R)->Option R
abbrev Akp := {R : Type} → Nat → Bxb R
def A4v (Ab5 : Ako) : Akp := fun {R} N h p q f i j a l m n c d g e o => let b := (wi (f + 1)); if ((c == 24) = true) then (let t := (wi (h + 1)); if ((d != t) = true) then (e false) else Ab5 N t p q f (decide (b ≥ (len a))) i j a l m n c d g (fun u => e u) fun v w x y z A B C D E => o v w x y z A B C D E) else if ((c == 29) = true) then (Ab5 N h p g f (decide (b ≥ (len a))) i j a l m n c d g (fun F => e F) fun G H I J L M O P Q S => o G H I J L M O P Q S) else if ((c == 19) = true) then (let r := (if (d > p) then d else p); if ((decide (b ≥ (len a))) = true) then (e false) else if (0 ≤ b ∧ b < len a) then (let s := (a.getD b.toNat (0, (0, 0))).1; if ((s != 18) = true) then (if (0 ≤ b ∧ b < len a) then (if ((s != 28) = true) then (if (0 ≤ b ∧ b < len a) then (if ((s != 19) = true) then (e false) else Ab5 N h r q f (decide (b ≥ (len a))) i j a l m n c d g (fun T => e T) fun U V W X Y Z aa ab ac ad => o U V W X Y Z aa ab ac ad) else none) else Ab5 N h r q f (decide (b ≥ (len a))) i j a l m n c d g (fun ae => e ae) fun af ag ah ai aj ak al am an ao => o af ag ah ai aj ak al am an ao) else none) else Ab5 N h r q f (decide (b ≥ (len a))) i j a l m n c d g (fun ap => e ap) fun aq ar au av aw ax ay az ba bb => o aq ar au av aw ax ay az ba bb) else none) else Ab5 N h p q f (decide (b ≥ (len a))) i j a l m n c d g (fun bc => e bc) fun bd be bf bg bh bi bj bk bl bm => o bd be bf bg bh bi bj bk bl bm
def Adg : Akp := @A4v @Ab5
def Aqk (Adg : Akp) (N : Nat) : Aan Ai1 := fun R x K => Adg N x.1.2.1 x.1.2.2.1 x.1.2.2.2.1 x.1.2.2.2.2.1 x.2.1.1 x.2.1.2.1 x.2.1.2.2.1 x.2.1.2.2.2.1 x.2.1.2.2.2.2.1 x.2.1.2.2.2.2.2.1 x.2.2.1.1 x.2.2.1.2.1 x.2.2.1.2.2.1 (fun y0 => K .ret (Aab Azy ((y0, ()), (())))) (fun y0 y1 y2 y3 y4 y5 y6 y7 y8 y9 => K .normal (Aab Azz (((), y0, y1, y2, y3, ()), ((y4, y5, y6, y7, y8, y9, ()), ()))))
def Bgz (N : Nat) : Aan Ai1 := Aqk @Adg N
def Ahr : Aac := ⟨Cjn, Atd⟩
def At0 : Aac := ⟨A1k, []⟩
def At1 : Aac := ⟨[wq3, A1l, A1m, Bbn], Atd⟩
def Bjl : Acn := .cons .ret At0 (.cons (.exit 0) At1 (.nil))
abbrev A7g (R : Type) := Int->Int->Int->Int->(List UInt8)->d3->d2->d1->Int->Int->(Bool->Option R)->(Int->Int->Int->(List UInt8)->d3->d2->d1->Int->Int->Option R)->Option R
abbrev Bjm (R : Type) := Int->Int->Int->Int->(List UInt8)->d3->d2->d1->Int->Int->Option R
abbrev Aow := {R : Type} → Nat → Nat → A7g R
def A7h (Adg : Akp) {R : Type} (N : Nat) (rc : Bjm R) : A7g R := fun d e c a f g b h i j l p => if ((decide (a < (len b))) = true) then (if (0 ≤ a ∧ a < len b) then (let m := (b.getD a.toNat (0, (0, 0))).1; let n := (b.getD a.toNat (0, (0, 0))).2.1; let o := (b.getD a.toNat (0, (0, 0))).2.2; if ((!((decide (c > 0)) == (m == 30))) = true) then (l false) else if ((decide (c > 0)) = true) then (Adg N d e (wi (c - 1)) a f g b h i j m n o (fun q => l q) fun r s t u v w x y z A => rc r s t (wi (u + 1)) v w x y z A) else Adg N d e c a f g b h i j m n o (fun B => l B) fun C D E F G H I J L M => rc C D E (wi (F + 1)) G H I J L M) else none) else p d e c f g b h i j
def Ac8 {R : Type} (N : Nat) : Nat → A7g R
 | 0 => fun _ _ _ _ _ _ _ _ _ _ _ _ => none
 | k + 1 => fun a b c d e f g h i j l m => A7h @Adg N (fun a b c d e f g h i j => Ac8 N k a b c d e f g h i j l m) a b c d e f g h i j l m
def Asp (Ac8 : Aow) (N k : Nat) : Aan Ahr := fun R x K => Ac8 N k x.1.2.1 x.1.2.2.1 x.1.2.2.2.1 x.1.2.2.2.2.1 x.2.1.1 x.2.1.2.1 x.2.1.2.2.1 x.2.1.2.2.2.1 x.2.1.2.2.2.2.1 x.2.1.2.2.2.2.2.1 (fun y0 => K .ret (Aab At0 ((y0, ()), (())))) (fun y0 y1 y2 y3 y4 y5 y6 y7 y8 => K (.exit 0) (Aab At1 (((), y0, y1, y2, ()), ((y3, y4, y5, y6, y7, y8, ()), ()))))
def A7i (N k : Nat) : Aan Ahr := Asp @Ac8 N k
def Bct : Aac := ⟨A50, []⟩
def Ayh : Aac := ⟨Aip, []⟩
abbrev B9l (R : Type) := (List UInt8)->d3->d2->d1->Int->Int->(Bool->Option R)->Option R
abbrev Arb := {R : Type} → Nat → B9l R
def Bcu (Ac8 : Aow) : Arb := fun {R} N b c d e f g a => Ac8 N N 0 0 0 0 b c d e f g (fun h => a h) fun i j l o p q r m n => if ((l == 0) = true) then (if ((i == m) = true) then (a (j == n)) else a false) else a false
def Ags : Arb := @Bcu @Ac8
def Cq5 (N : Nat) : Abs Bct [Ayh] := fun R x C => Ags N x.1.1.1 x.1.1.2.1 x.1.1.2.2.1 x.1.1.2.2.2.1 x.1.1.2.2.2.2.1 x.1.1.2.2.2.2.2.1 (fun y0 => C.1 ((y0, ()), (())))
def Bcv (Ags : Arb) (N : Nat) : Go.AX.Aaj := Ac6 [true] [] false 1 0 Bct [Ayh] (fun R x C => Ags N x.1.1.1 x.1.1.2.1 x.1.1.2.2.1 x.1.1.2.2.2.1 x.1.1.2.2.2.2.1 x.1.1.2.2.2.2.2.1 (fun y0 => C.1 ((y0, ()), (()))))
def Bpf (N : Nat) : Go.AX.Aaj := Bcv @Ags N
def Cq6 (N : Nat) : List (Nat × Ac0) := [(44, Aaa Ai0 (Bgx N)), (20, Aaa Ai1 (Bgz N)), (7, Aaa Ahr (A7i N N))]
def B9m (N : Nat) : List (Nat × Go.AX.Aaj) := [(173, A9c N)]
def Adv : Code := Tryz.f110.body.getD .skip
def Agf : Aac := ⟨[wq3, Cdt, Cdu, Bbn], Bn8⟩
def Asq : Aac := ⟨[wq3, Cdt, Cdu], Bn8⟩
def Bg0 : Acn := .cons (.exit 0) Asq (.nil)
abbrev A4w (R : Type) := Int->(List UInt8)->d3->d2->d1->Int->Int->d0->d0->d0->d0->((List UInt8)->d3->d2->d1->Int->Int->d0->d0->d0->d0->Option R)->Option R
abbrev Bg1 (R : Type) := Int->(List UInt8)->d3->d2->d1->Int->Int->d0->d0->d0->d0->Option R
abbrev Al2 := {R : Type} → Nat → Nat → A4w R
def Avy {R : Type} (N : Nat) (rc : Bg1 R) : A4w R := fun a d e f g h b i j c l m => if ((decide (a ≤ b)) = true) then (if (0 ≤ a ∧ a < len c) then (rc (wi (a + 1)) d e f g h b i j (c.set a.toNat (-1)) l) else none) else m d e f g h b i j c l
def Ab6 {R : Type} (N : Nat) : Nat → A4w R
 | 0 => fun _ _ _ _ _ _ _ _ _ _ _ _ => none
 | k + 1 => fun a b c d e f g h i j l m => Avy N (fun a b c d e f g h i j l => Ab6 N k a b c d e f g h i j l m) a b c d e f g h i j l m
def An1 (Ab6 : Al2) (N k : Nat) : Aan Agf := fun R x K => Ab6 N k x.1.2.2.2.1 x.2.1.1 x.2.1.2.1 x.2.1.2.2.1 x.2.1.2.2.2.1 x.2.1.2.2.2.2.1 x.2.1.2.2.2.2.2.1 x.2.2.2.2.1 x.2.2.2.2.2.1 x.2.2.2.2.2.2.1 x.2.2.2.2.2.2.2.1 (fun y0 y1 y2 y3 y4 y5 y6 y7 y8 y9 => K (.exit 0) (Aab Asq (((), (), (), ()), ((y0, y1, y2, y3, y4, y5, ()), ((), (), ()), ((), (), ()), y6, y7, y8, y9, ()))))
def A4x (N k : Nat) : Aan Agf := An1 @Ab6 N k
def Ahh : Aac := ⟨Cjj, Bn8⟩
def Axc : Aac := ⟨Cn1, Cjg⟩
def Axd : Aac := ⟨Cjj, Bn8⟩
def Bdx : Acn := .cons .ret Axc (.cons .normal Axd (.nil))
abbrev Bty (R : Type) := Int->Int->(List UInt8)->d3->d2->d1->Int->Int->d0->d0->d0->d0->(Bool->d0->d0->Option R)->(Int->Int->(List UInt8)->d3->d2->d1->Int->Int->d0->d0->d0->d0->Option R)->Option R
abbrev Ajw := {R : Type} → Nat → Bty R
def Aca : Ajw := fun {R} N e a g h b i j l m n c f p o => if (0 ≤ a ∧ a < len f) then (if (0 ≤ a ∧ a < len b) then (if (((b.getD a.toNat (0, (0, 0))).1 == 19) = true) then (if (0 ≤ a ∧ a < len b) then (let d := (b.getD a.toNat (0, (0, 0))).2.1; if (0 ≤ d ∧ d < len c) then (if ((decide ((c.getD d.toNat 0) ≥ 0)) = true) then (p false c (f.set a.toNat e)) else if (0 ≤ a ∧ a < len b) then (if (0 ≤ d ∧ d < len c) then (o e a g h b i j l m n (c.set d.toNat a) (f.set a.toNat e)) else none) else none) else none) else none) else o e a g h b i j l m n c (f.set a.toNat e)) else none) else none
def Amz (Aca : Ajw) (N : Nat) : Aan Ahh := fun R x K => Aca N x.1.2.2.2.1 x.1.2.2.2.2.1 x.2.1.1 x.2.1.2.1 x.2.1.2.2.1 x.2.1.2.2.2.1 x.2.1.2.2.2.2.1 x.2.1.2.2.2.2.2.1 x.2.2.2.2.1 x.2.2.2.2.2.1 x.2.2.2.2.2.2.1 x.2.2.2.2.2.2.2.1 (fun y0 y1 y2 => K .ret (Aab Axc (((), y0, ()), (((), (), ()), y1, y2, ())))) (fun y0 y1 y2 y3 y4 y5 y6 y7 y8 y9 y10 y11 => K .normal (Aab Axd (((), (), (), y0, y1, ()), ((y2, y3, y4, y5, y6, y7, ()), ((), (), ()), ((), (), ()), y8, y9, y10, y11, ()))))
def Bdy (N : Nat) : Aan Ahh := Amz @Aca N
def Afq : Aac := ⟨Cjj, Bn8⟩
def Aqx : Aac := ⟨Cn1, Cjg⟩
def Aqy : Aac := ⟨[wq3, Cdt, Cdu], Bn8⟩
def Bdz : Acn := .cons .ret Aqx (.cons (.exit 2) Aqy (.nil))
abbrev A1t (R : Type) := Int->Int->(List UInt8)->d3->d2->d1->Int->Int->d0->d0->d0->d0->(Bool->d0->d0->Option R)->((List UInt8)->d3->d2->d1->Int->Int->d0->d0->d0->d0->Option R)->Option R
abbrev Bd0 (R : Type) := Int->Int->(List UInt8)->d3->d2->d1->Int->Int->d0->d0->d0->d0->Option R
abbrev Alf := {R : Type} → Nat → Nat → A1t R
def A1u (Aca : Ajw) {R : Type} (N : Nat) (rc : Bd0 R) : A1t R := fun m a c d b e f g h i j l n o => if ((decide (a < (len b))) = true) then (if (0 ≤ a ∧ a < len b) then (if (((b.getD a.toNat (0, (0, 0))).1 == 24) = true) then (Aca N (wi (m + 1)) a c d b e f g h i j l (fun p q r => n p q r) fun s t u v w x y z A B C D => rc s (wi (t + 1)) u v w x y z A B C D) else Aca N m a c d b e f g h i j l (fun E F G => n E F G) fun H I J L M O P Q S T U V => rc H (wi (I + 1)) J L M O P Q S T U V) else none) else o c d b e f g h i j l
def Abo {R : Type} (N : Nat) : Nat → A1t R
 | 0 => fun _ _ _ _ _ _ _ _ _ _ _ _ _ _ => none
 | k + 1 => fun a b c d e f g h i j l m n o => A1u @Aca N (fun a b c d e f g h i j l m => Abo N k a b c d e f g h i j l m n o) a b c d e f g h i j l m n o
def Am0 (Abo : Alf) (N k : Nat) : Aan Afq := fun R x K => Abo N k x.1.2.2.2.1 x.1.2.2.2.2.1 x.2.1.1 x.2.1.2.1 x.2.1.2.2.1 x.2.1.2.2.2.1 x.2.1.2.2.2.2.1 x.2.1.2.2.2.2.2.1 x.2.2.2.2.1 x.2.2.2.2.2.1 x.2.2.2.2.2.2.1 x.2.2.2.2.2.2.2.1 (fun y0 y1 y2 => K .ret (Aab Aqx (((), y0, ()), (((), (), ()), y1, y2, ())))) (fun y0 y1 y2 y3 y4 y5 y6 y7 y8 y9 => K (.exit 2) (Aab Aqy (((), (), (), ()), ((y0, y1, y2, y3, y4, y5, ()), ((), (), ()), ((), (), ()), y6, y7, y8, y9, ()))))
def A1v (N k : Nat) : Aan Afq := Am0 @Abo N k
def Awq : Code := Tryz.f174.body.getD .skip
def Al3 : Aac := ⟨[wq3, A1m, Cdw], A2l⟩
def Az0 : Aac := ⟨Bbo, []⟩
def Az1 : Aac := ⟨[], []⟩
def Bg2 : Acn := .cons .ret Az0 (.cons .normal Az1 (.nil))
abbrev Bxc (R : Type) := Int->Bool->Int->Int->Int->(Int->Option R)->(Option R)->Option R
abbrev Aql := {R : Type} → Nat → Bxc R
def Ad9 : Aql := fun {R} N b c g d e a f => if (c = true) then (a d) else if ((b == 30) = true) then (a e) else f
def A4y (Ad9 : Aql) (N : Nat) : Aan Al3 := fun R x K => Ad9 N x.1.2.1 x.1.2.2.1 x.2.1.1 x.2.1.2.1 x.2.1.2.2.1 (fun y0 => K .ret (Aab Az0 ((y0, ()), (())))) (K .normal (Aab Az1 ((()), (()))))
def Bg3 (N : Nat) : Aan Al3 := A4y @Ad9 N
def Bcw : Aac := ⟨Cbt, []⟩
def Ayi : Aac := ⟨Ay6, []⟩
abbrev B9n (R : Type) := Int->Int->Int->(Int->Option R)->Option R
abbrev Aid := {R : Type} → Nat → B9n R
def Bcx (Ad9 : Aql) : Aid := fun {R} N a c d b => if ((a == 20) = true) then (Ad9 N a (a == 20) a c d (fun e => b e) (b 0)) else if ((a == 21) = true) then (Ad9 N a (a == 21) a c d (fun f => b f) (b 0)) else if ((a == 22) = true) then (Ad9 N a (a == 22) a c d (fun g => b g) (b 0)) else if ((a == 27) = true) then (Ad9 N a (a == 27) a c d (fun h => b h) (b 0)) else Ad9 N a (a == 29) a c d (fun i => b i) (b 0)
def Aa8 : Aid := @Bcx @Ad9
def Cq7 (N : Nat) : Abs Bcw [Ayi] := fun R x C => Aa8 N x.1.1.1 x.1.1.2.1 x.1.1.2.2.1 (fun y0 => C.1 ((y0, ()), (())))
def Am6 (Aa8 : Aid) (N : Nat) : Go.AX.Aaj := Ac6 [true] [] false 1 0 Bcw [Ayi] (fun R x C => Aa8 N x.1.1.1 x.1.1.2.1 x.1.1.2.2.1 (fun y0 => C.1 ((y0, ()), (()))))
def Bcy (N : Nat) : Go.AX.Aaj := Am6 @Aa8 N
def Cq8 (N : Nat) : List (Nat × Ac0) := [(14, Aaa Al3 (Bg3 N))]
def B9o (N : Nat) : List (Nat × Go.AX.Aaj) := []
def Afr : Aac := ⟨[wq3, Cdt, Cdu, Ci3], Bn8⟩
def Aqz : Aac := ⟨Cn1, Cjg⟩
def Aq0 : Aac := ⟨[A1j, (4, .one (.ptr 33))], [(32, .cells 130 [(.slf 34), (.slf 35)]), (33, .cells 130 [(.slf 36), (.slf 37)]), Cdy, Cse, Csf, Csg]⟩
def Bd1 : Acn := .cons .ret Aqz (.cons (.exit 4) Aq0 (.nil))
abbrev A1w (R : Type) := Int->(List UInt8)->d3->d2->d1->Int->Int->d0->d0->d0->d0->(Bool->d0->d0->Option R)->(d0->d0->d0->d0->Option R)->Option R
abbrev Bd2 (R : Type) := Int->(List UInt8)->d3->d2->d1->Int->Int->d0->d0->d0->d0->Option R
abbrev Alg := {R : Type} → Nat → Nat → A1w R
def A1x (Aa8 : Aid) {R : Type} (N : Nat) (rc : Bd2 R) : A1w R := fun a i j d l m n g h c b o p => if ((decide (a < (len d))) = true) then (if (0 ≤ a ∧ a < len d) then (Aa8 N ((d.getD a.toNat (0, (0, 0))).1) ((d.getD a.toNat (0, (0, 0))).2.1) ((d.getD a.toNat (0, (0, 0))).2.2) fun e => if ((decide (e > 0)) = true) then (if (0 ≤ e ∧ e < len c) then (let f := (c.getD e.toNat 0); if ((decide (f < 0)) = true) then (o false c b) else if (0 ≤ e ∧ e < len c) then (if (0 ≤ f ∧ f < len b) then (if (0 ≤ a ∧ a < len b) then (if (((b.getD f.toNat 0) != (b.getD a.toNat 0)) = true) then (o false c b) else rc (wi (a + 1)) i j d l m n g h c b) else none) else none) else none) else none) else rc (wi (a + 1)) i j d l m n g h c b) else none) else p g h c b
def Abi {R : Type} (N : Nat) : Nat → A1w R
 | 0 => fun _ _ _ _ _ _ _ _ _ _ _ _ _ => none
 | k + 1 => fun a b c d e f g h i j l m n => A1x @Aa8 N (fun a b c d e f g h i j l => Abi N k a b c d e f g h i j l m n) a b c d e f g h i j l m n
def Am1 (Abi : Alg) (N k : Nat) : Aan Afr := fun R x K => Abi N k x.1.2.2.2.1 x.2.1.1 x.2.1.2.1 x.2.1.2.2.1 x.2.1.2.2.2.1 x.2.1.2.2.2.2.1 x.2.1.2.2.2.2.2.1 x.2.2.2.2.1 x.2.2.2.2.2.1 x.2.2.2.2.2.2.1 x.2.2.2.2.2.2.2.1 (fun y0 y1 y2 => K .ret (Aab Aqz (((), y0, ()), (((), (), ()), y1, y2, ())))) (fun y0 y1 y2 y3 => K (.exit 4) (Aab Aq0 (((), (), ()), (((), (), ()), ((), (), ()), y0, y1, y2, y3, ()))))
def A1y (N k : Nat) : Aan Afr := Am1 @Abi N k
def A9d : Aac := ⟨A50, []⟩
def Avz : Aac := ⟨[(0, .agg [(.slf 32), (.slf 33)]), (1, .one (.val .bool))], Cd1⟩
abbrev B49 (R : Type) := (List UInt8)->d3->d2->d1->Int->Int->(Bool->d0->d0->Option R)->Option R
abbrev Ap6 := {R : Type} → Nat → B49 R
end
end Q

/- Part D1 of the proof. -/
import Derived.Test.YtgmoccpcginieaaX7
import Derived.Test.YtgmoccpcginieaaProg
import Derived.KernelRfl
open Go Go.AX Go.Proofs
namespace Q
noncomputable section
set_option maxRecDepth 100000
set_option linter.unusedVariables false
@[reducible] def z0 : Ty := .pair (.int .i64) (.int .i64)
@[reducible] def z1 : Ty := .list z0
@[reducible] def z2 : Ty := .pair (.int .i64) z0
@[reducible] def z3 : Ty := .list (.pair .str (.pair .bool (.list (.int .i64))))
@[reducible] def z4 : Ty := .list z2
@[reducible] def z5 : Ty := .pair z2 z2
@[reducible] def z6 : Ty := .list z5
@[reducible] def d0 : Type := List (Int)
@[reducible] def d1 : Type := List ((Int × Int))
@[reducible] def d2 : Type := List ((Int) × (Int))
@[reducible] def d3 : Type := List ((Int) × (Bool))
@[reducible] def d4 : Type := List ((Int × (Int × Int)))
@[reducible] def d5 : Type := List ((List UInt8 × (Bool × d0)))
@[reducible] def d6 : Type := List (((Int × (Int × Int)) × (Int × (Int × Int))))
noncomputable def types : List Nat := [22, 5, 4, 3, 0, 66, 68, 9, 63, 41, 31, 24, 82, 132, 34, 30, 73, 32, 75, 133, 136, 83, 124, 25, 144, 145, 147, 153, 155, 149, 93, 64, 119, 143, 26, 57, 59, 120, 122, 102, 36, 87, 39]
noncomputable def tt : TT := [(22, (.mk (.slice 5) 1 24 (.some [(.a .nilsl)]) false)), (5, (.mk (.int .u8) 1 1 (.some [(.a (.val (.int .u8) ((0 : Int) : Int)))]) false)), (4, (.mk .bool 1 1 (.some [(.a (.val .bool (false : Bool)))]) false)), (3, (.mk (.int .i64) 1 8 (.some [(.a (.val (.int .i64) ((0 : Int) : Int)))]) false)), (0, (.mk .other 1 0 (.some [(.a .undef)]) false)), (66, (.mk (.ptr 68) 1 8 (.some [(.a .nilptr)]) false)), (68, (.mk (.struct [(0, (1, 22))]) 1 24 (.some [(.a .nilsl)]) true)), (9, (.mk .str 1 16 (.some [(.a (.val .str (([] : List UInt8) : List UInt8)))]) false)), (63, (.mk (.struct [(0, (1, 41)), (1, (1, 41)), (2, (1, 3))]) 3 56 (.some [(.a .nilsl), (.a .nilsl), (.a (.val (.int .i64) ((0 : Int) : Int)))]) true)), (41, (.mk (.slice 3) 1 24 (.some [(.a .nilsl)]) false)), (31, (.mk (.slice 24) 1 24 (.some [(.a .nilsl)]) false)), (24, (.mk (.struct [(0, (1, 3)), (1, (1, 3)), (2, (1, 3))]) 3 24 (.some [(.a (.val (.int .i64) ((0 : Int) : Int))), (.a (.val (.int .i64) ((0 : Int) : Int))), (.a (.val (.int .i64) ((0 : Int) : Int)))]) true)), (82, (.mk (.map 3 3) 1 8 (.some [(.a .nilmap)]) false)), (132, (.mk (.struct [(0, (1, 9)), (1, (1, 3)), (2, (1, 3)), (3, (1, 3))]) 4 40 (.some [(.a (.val .str (([] : List UInt8) : List UInt8))), (.a (.val (.int .i64) ((0 : Int) : Int))), (.a (.val (.int .i64) ((0 : Int) : Int))), (.a (.val (.int .i64) ((0 : Int) : Int)))]) true)), (34, (.mk (.struct [(0, (1, 9)), (1, (1, 30)), (2, (1, 31)), (3, (1, 32)), (4, (1, 3)), (5, (1, 3))]) 6 104 (.some [(.a (.val .str (([] : List UInt8) : List UInt8))), (.a .nilsl), (.a .nilsl), (.a .nilsl), (.a (.val (.int .i64) ((0 : Int) : Int))), (.a (.val (.int .i64) ((0 : Int) : Int)))]) true)), (30, (.mk (.slice 73) 1 24 (.some [(.a .nilsl)]) false)), (73, (.mk (.struct [(0, (1, 9)), (1, (1, 4)), (2, (1, 41))]) 3 48 (.some [(.a (.val .str (([] : List UInt8) : List UInt8))), (.a (.val .bool (false : Bool))), (.a .nilsl)]) true)), (32, (.mk (.slice 75) 1 24 (.some [(.a .nilsl)]) false)), (75, (.mk (.struct [(0, (1, 3)), (1, (1, 3))]) 2 16 (.some [(.a (.val (.int .i64) ((0 : Int) : Int))), (.a (.val (.int .i64) ((0 : Int) : Int)))]) true)), (133, (.mk (.arr 31 132) 124 1240 (.some [(.a (.val .str (([] : List UInt8) : List UInt8))), (.a (.val (.int .i64) ((0 : Int) : Int))), (.a (.val (.int .i64) ((0 : Int) : Int))), (.a (.val (.int .i64) ((0 : Int) : Int))), (.a (.val .str (([] : List UInt8) : List UInt8))), (.a (.val (.int .i64) ((0 : Int) : Int))), (.a (.val (.int .i64) ((0 : Int) : Int))), (.a (.val (.int .i64) ((0 : Int) : Int))), (.a (.val .str (([] : List UInt8) : List UInt8))), (.a (.val (.int .i64) ((0 : Int) : Int))), (.a (.val (.int .i64) ((0 : Int) : Int))), (.a (.val (.int .i64) ((0 : Int) : Int))), (.a (.val .str (([] : List UInt8) : List UInt8))), (.a (.val (.int .i64) ((0 : Int) : Int))), (.a (.val (.int .i64) ((0 : Int) : Int))), (.a (.val (.int .i64) ((0 : Int) : Int))), (.a (.val .str (([] : List UInt8) : List UInt8))), (.a (.val (.int .i64) ((0 : Int) : Int))), (.a (.val (.int .i64) ((0 : Int) : Int))), (.a (.val (.int .i64) ((0 : Int) : Int))), (.a (.val .str (([] : List UInt8) : List UInt8))), (.a (.val (.int .i64) ((0 : Int) : Int))), (.a (.val (.int .i64) ((0 : Int) : Int))), (.a (.val (.int .i64) ((0 : Int) : Int))), (.a (.val .str (([] : List UInt8) : List UInt8))), (.a (.val (.int .i64) ((0 : Int) : Int))), (.a (.val (.int .i64) ((0 : Int) : Int))), (.a (.val (.int .i64) ((0 : Int) : Int))), (.a (.val .str (([] : List UInt8) : List UInt8))), (.a (.val (.int .i64) ((0 : Int) : Int))), (.a (.val (.int .i64) ((0 : Int) : Int))), (.a (.val (.int .i64) ((0 : Int) : Int))), (.a (.val .str (([] : List UInt8) : List UInt8))), (.a (.val (.int .i64) ((0 : Int) : Int))), (.a (.val (.int .i64) ((0 : Int) : Int))), (.a (.val (.int .i64) ((0 : Int) : Int))), (.a (.val .str (([] : List UInt8) : List UInt8))), (.a (.val (.int .i64) ((0 : Int) : Int))), (.a (.val (.int .i64) ((0 : Int) : Int))), (.a (.val (.int .i64) ((0 : Int) : Int))), (.a (.val .str (([] : List UInt8) : List UInt8))), (.a (.val (.int .i64) ((0 : Int) : Int))), (.a (.val (.int .i64) ((0 : Int) : Int))), (.a (.val (.int .i64) ((0 : Int) : Int))), (.a (.val .str (([] : List UInt8) : List UInt8))), (.a (.val (.int .i64) ((0 : Int) : Int))), (.a (.val (.int .i64) ((0 : Int) : Int))), (.a (.val (.int .i64) ((0 : Int) : Int))), (.a (.val .str (([] : List UInt8) : List UInt8))), (.a (.val (.int .i64) ((0 : Int) : Int))), (.a (.val (.int .i64) ((0 : Int) : Int))), (.a (.val (.int .i64) ((0 : Int) : Int))), (.a (.val .str (([] : List UInt8) : List UInt8))), (.a (.val (.int .i64) ((0 : Int) : Int))), (.a (.val (.int .i64) ((0 : Int) : Int))), (.a (.val (.int .i64) ((0 : Int) : Int))), (.a (.val .str (([] : List UInt8) : List UInt8))), (.a (.val (.int .i64) ((0 : Int) : Int))), (.a (.val (.int .i64) ((0 : Int) : Int))), (.a (.val (.int .i64) ((0 : Int) : Int))), (.a (.val .str (([] : List UInt8) : List UInt8))), (.a (.val (.int .i64) ((0 : Int) : Int))), (.a (.val (.int .i64) ((0 : Int) : Int))), (.a (.val (.int .i64) ((0 : Int) : Int))), (.a (.val .str (([] : List UInt8) : List UInt8))), (.a (.val (.int .i64) ((0 : Int) : Int))), (.a (.val (.int .i64) ((0 : Int) : Int))), (.a (.val (.int .i64) ((0 : Int) : Int))), (.a (.val .str (([] : List UInt8) : List UInt8))), (.a (.val (.int .i64) ((0 : Int) : Int))), (.a (.val (.int .i64) ((0 : Int) : Int))), (.a (.val (.int .i64) ((0 : Int) : Int))), (.a (.val .str (([] : List UInt8) : List UInt8))), (.a (.val (.int .i64) ((0 : Int) : Int))), (.a (.val (.int .i64) ((0 : Int) : Int))), (.a (.val (.int .i64) ((0 : Int) : Int))), (.a (.val .str (([] : List UInt8) : List UInt8))), (.a (.val (.int .i64) ((0 : Int) : Int))), (.a (.val (.int .i64) ((0 : Int) : Int))), (.a (.val (.int .i64) ((0 : Int) : Int))), (.a (.val .str (([] : List UInt8) : List UInt8))), (.a (.val (.int .i64) ((0 : Int) : Int))), (.a (.val (.int .i64) ((0 : Int) : Int))), (.a (.val (.int .i64) ((0 : Int) : Int))), (.a (.val .str (([] : List UInt8) : List UInt8))), (.a (.val (.int .i64) ((0 : Int) : Int))), (.a (.val (.int .i64) ((0 : Int) : Int))), (.a (.val (.int .i64) ((0 : Int) : Int))), (.a (.val .str (([] : List UInt8) : List UInt8))), (.a (.val (.int .i64) ((0 : Int) : Int))), (.a (.val (.int .i64) ((0 : Int) : Int))), (.a (.val (.int .i64) ((0 : Int) : Int))), (.a (.val .str (([] : List UInt8) : List UInt8))), (.a (.val (.int .i64) ((0 : Int) : Int))), (.a (.val (.int .i64) ((0 : Int) : Int))), (.a (.val (.int .i64) ((0 : Int) : Int))), (.a (.val .str (([] : List UInt8) : List UInt8))), (.a (.val (.int .i64) ((0 : Int) : Int))), (.a (.val (.int .i64) ((0 : Int) : Int))), (.a (.val (.int .i64) ((0 : Int) : Int))), (.a (.val .str (([] : List UInt8) : List UInt8))), (.a (.val (.int .i64) ((0 : Int) : Int))), (.a (.val (.int .i64) ((0 : Int) : Int))), (.a (.val (.int .i64) ((0 : Int) : Int))), (.a (.val .str (([] : List UInt8) : List UInt8))), (.a (.val (.int .i64) ((0 : Int) : Int))), (.a (.val (.int .i64) ((0 : Int) : Int))), (.a (.val (.int .i64) ((0 : Int) : Int))), (.a (.val .str (([] : List UInt8) : List UInt8))), (.a (.val (.int .i64) ((0 : Int) : Int))), (.a (.val (.int .i64) ((0 : Int) : Int))), (.a (.val (.int .i64) ((0 : Int) : Int))), (.a (.val .str (([] : List UInt8) : List UInt8))), (.a (.val (.int .i64) ((0 : Int) : Int))), (.a (.val (.int .i64) ((0 : Int) : Int))), (.a (.val (.int .i64) ((0 : Int) : Int))), (.a (.val .str (([] : List UInt8) : List UInt8))), (.a (.val (.int .i64) ((0 : Int) : Int))), (.a (.val (.int .i64) ((0 : Int) : Int))), (.a (.val (.int .i64) ((0 : Int) : Int))), (.a (.val .str (([] : List UInt8) : List UInt8))), (.a (.val (.int .i64) ((0 : Int) : Int))), (.a (.val (.int .i64) ((0 : Int) : Int))), (.a (.val (.int .i64) ((0 : Int) : Int)))]) false)), (136, (.mk .other 1 0 (.some [(.a .undef)]) false)), (83, (.mk .func 1 8 (.some [(.a .nilfn)]) false)), (124, (.mk .other 1 0 (.some [(.a .undef)]) false)), (25, (.mk (.int .i64) 1 8 (.some [(.a (.val (.int .i64) ((0 : Int) : Int)))]) false)), (144, (.mk (.map 3 4) 1 8 (.some [(.a .nilmap)]) false)), (145, (.mk (.ptr 147) 1 8 (.some [(.a .nilptr)]) false)), (147, (.mk (.struct [(0, (1, 145)), (1, (1, 22))]) 2 32 (.some [(.a .nilptr), (.a .nilsl)]) true)), (153, (.mk (.ptr 5) 1 8 (.some [(.a .nilptr)]) false)), (155, (.mk .other 1 8 (.some [(.a .nilptr)]) false)), (149, (.mk .iface 1 16 (.some [(.a .nilif)]) false)), (93, (.mk .other 1 0 (.some [(.a .undef)]) false)), (64, (.mk .other 1 0 (.some [(.a .undef)]) false)), (119, (.mk (.slice 143) 1 24 (.some [(.a .nilsl)]) false)), (143, (.mk (.struct [(0, (3, 24)), (3, (1, 3)), (4, (1, 3)), (5, (1, 3))]) 6 48 (.some [(.a (.val (.int .i64) ((0 : Int) : Int))), (.a (.val (.int .i64) ((0 : Int) : Int))), (.a (.val (.int .i64) ((0 : Int) : Int))), (.a (.val (.int .i64) ((0 : Int) : Int))), (.a (.val (.int .i64) ((0 : Int) : Int))), (.a (.val (.int .i64) ((0 : Int) : Int)))]) true)), (26, (.mk .other 1 0 (.some [(.a .undef)]) false)), (57, (.mk (.ptr 59) 1 8 (.some [(.a .nilptr)]) false)), (59, (.mk (.struct [(0, (1, 22)), (1, (1, 3)), (2, (1, 4))]) 3 40 (.some [(.a .nilsl), (.a (.val (.int .i64) ((0 : Int) : Int))), (.a (.val .bool (false : Bool)))]) true)), (120, (.mk .other 1 0 (.some [(.a .undef)]) false)), (122, (.mk .other 1 0 (.some [(.a .undef)]) false)), (102, (.mk .other 1 0 (.some [(.a .undef)]) false)), (36, (.mk .other 1 0 (.some [(.a .undef)]) false)), (87, (.mk .other 1 0 (.some [(.a .undef)]) false)), (39, (.mk .other 1 0 (.some [(.a .undef)]) false))]
noncomputable def b_law10_PackForth : Code := Go.Proofs.Try.f6.body.getD .skip
noncomputable def b_law10_awake : Code := Go.Proofs.Try.f14.body.getD .skip
noncomputable def b_pack_At : Code := Go.Proofs.Try.f12.body.getD .skip
noncomputable def b_pack_reader_signed : Code := Go.Proofs.Try.f35.body.getD .skip
noncomputable def b_pack_reader_num : Code := Go.Proofs.Try.f36.body.getD .skip
noncomputable def p_pack_reader_num_13 : SPat := ⟨[(0, .one (.ptr 0)), (5, .one (.val (.int .i64))), (27, .one (.val (.int .i64))), (28, .one (.val (.int .i64)))], [(0, .cells 59 [(.val (.list (.int .u8))), (.val (.int .i64)), (.val .bool)])]⟩
noncomputable def o_pack_reader_num_13_0 : SPat := ⟨[(5, .one (.val (.int .i64)))], [(0, .cells 59 [(.val (.list (.int .u8))), (.val (.int .i64)), (.val .bool)])]⟩
noncomputable def o_pack_reader_num_13 : Outs := .cons (.exit 0) o_pack_reader_num_13_0 (.nil)
@[reducible] def A_pack_reader_num_13 (R : Type) : Type := Int → Int → Int → d0 → Int → Bool → (Int → d0 → Int → Bool → Option R) → Option R
@[reducible] def B_pack_reader_num_13 (R : Type) : Type := Int → Int → Int → d0 → Int → Bool → Option R
@[reducible] def T_pack_reader_num_13 : Type 1 := {R : Type} → Nat → Nat → A_pack_reader_num_13 R
noncomputable def pack_reader_num_13_b {R : Type} (N : Nat) (rc : B_pack_reader_num_13 R) : A_pack_reader_num_13 R := fun x0 x1 x2 x3 x4 x5 K0 =>
    if ((decide ((x2 < x1))) = true) then (if (((0 : Int) ≤ x4) ∧ (x4 < (len x3))) then (rc ((orI .i64 (shlI .i64 x0 (8 : Int)) (wi (List.getD x3 (Int.toNat x4) (0 : Int))))) x1 ((wi (x2 + (1 : Int)))) x3 ((wi (x4 + (1 : Int)))) x5) else none) else (K0 x0 x3 x4 x5)
noncomputable def pack_reader_num_13 {R : Type} (N : Nat) : Nat → A_pack_reader_num_13 R
  | 0 => fun _ _ _ _ _ _ _ => none
  | k + 1 => fun x0 x1 x2 x3 x4 x5 K0 => pack_reader_num_13_b N (fun x0 x1 x2 x3 x4 x5 => pack_reader_num_13 N k x0 x1 x2 x3 x4 x5 K0) x0 x1 x2 x3 x4 x5 K0
noncomputable def H_pack_reader_num_13 (pack_reader_num_13 : T_pack_reader_num_13) (N k : Nat) : Typed p_pack_reader_num_13 := fun R x K => pack_reader_num_13 N k x.1.2.1 x.1.2.2.1 x.1.2.2.2.1 x.2.1.1 x.2.1.2.1 x.2.1.2.2.1 (fun y0 y1 y2 y3 => K (.exit 0) (encS o_pack_reader_num_13_0 ((y0, ()), ((y1, y2, y3, ()), ()))))
noncomputable def g_pack_reader_num_13 (N k : Nat) : Typed p_pack_reader_num_13 := H_pack_reader_num_13 @pack_reader_num_13 N k
noncomputable def p_pack_reader_num : SPat := ⟨[(0, .one (.ptr 0)), (1, .one (.val (.int .i64)))], [(0, .cells 59 [(.val (.list (.int .u8))), (.val (.int .i64)), (.val .bool)])]⟩
noncomputable def q_pack_reader_num_0 : SPat := ⟨[(0, .one (.val (.int .i64)))], [(0, .cells 59 [(.val (.list (.int .u8))), (.val (.int .i64)), (.val .bool)])]⟩
@[reducible] def A_pack_reader_num (R : Type) : Type := Int → d0 → Int → Bool → (Int → d0 → Int → Bool → Option R) → Option R
@[reducible] def T_pack_reader_num : Type 1 := {R : Type} → Nat → A_pack_reader_num R
noncomputable def pack_reader_num_b (pack_reader_num_13 : T_pack_reader_num_13) : T_pack_reader_num := fun {R} N x0 x1 x2 x3 K0 =>
    if (x3 = true) then (K0 0 x1 x2 true) else (if ((decide (((wi (x2 + x0)) > (len x1)))) = true) then (K0 0 x1 x2 true) else (pack_reader_num_13 N N 0 x0 0 x1 x2 x3 (fun y0 y1 y2 y3 => K0 y0 y1 y2 y3)))
noncomputable def pack_reader_num : T_pack_reader_num := @pack_reader_num_b @pack_reader_num_13
noncomputable def g_pack_reader_num (N : Nat) : TypedM p_pack_reader_num [q_pack_reader_num_0] := fun R x C => pack_reader_num N x.1.2.1 x.2.1.1 x.2.1.2.1 x.2.1.2.2.1 (fun y0 y1 y2 y3 => C.1 ((y0, ()), ((y1, y2, y3, ()), ())))
noncomputable def S_pack_reader_num (pack_reader_num : T_pack_reader_num) (N : Nat) : Go.AX.Spec := specM [false, true] (List.replicate 32 true) true 2 1 p_pack_reader_num [q_pack_reader_num_0] (fun R x C => pack_reader_num N x.1.2.1 x.2.1.1 x.2.1.2.1 x.2.1.2.2.1 (fun y0 y1 y2 y3 => C.1 ((y0, ()), ((y1, y2, y3, ()), ()))))
noncomputable def s_pack_reader_num (N : Nat) : Go.AX.Spec := S_pack_reader_num @pack_reader_num N
noncomputable def L_pack_reader_num (N : Nat) : List (Nat × Frag) := [(13, fragOf p_pack_reader_num_13 (g_pack_reader_num_13 N N))]
noncomputable def G_pack_reader_num (N : Nat) : List (Nat × Go.AX.Spec) := []
noncomputable def p_pack_reader_signed : SPat := ⟨[(0, .one (.ptr 0)), (1, .one (.val (.int .i64)))], [(0, .cells 59 [(.val (.list (.int .u8))), (.val (.int .i64)), (.val .bool)])]⟩
noncomputable def q_pack_reader_signed_0 : SPat := ⟨[(0, .one (.val (.int .i64)))], [(0, .cells 59 [(.val (.list (.int .u8))), (.val (.int .i64)), (.val .bool)])]⟩
@[reducible] def A_pack_reader_signed (R : Type) : Type := Int → d0 → Int → Bool → (Int → d0 → Int → Bool → Option R) → Option R
@[reducible] def T_pack_reader_signed : Type 1 := {R : Type} → Nat → A_pack_reader_signed R
noncomputable def pack_reader_signed_b (pack_reader_num : T_pack_reader_num) : T_pack_reader_signed := fun {R} N x0 x1 x2 x3 K0 =>
    pack_reader_num N x0 x1 x2 x3 (fun y0 y1 y2 y3 => if ((decide ((x0 > (0 : Int)))) = true) then (let v0 := (wi ((8 : Int) * x0)); let v1 := (wi (v0 - (1 : Int))); if (v1 < (0 : Int)) then none else (if ((decide ((y0 ≥ (shlI .i64 (1 : Int) v1)))) = true) then (if (v0 < (0 : Int)) then none else (K0 ((wi (y0 - (shlI .i64 (1 : Int) v0)))) y1 y2 y3)) else (K0 y0 y1 y2 y3))) else (K0 y0 y1 y2 y3))
noncomputable def pack_reader_signed : T_pack_reader_signed := @pack_reader_signed_b @pack_reader_num
noncomputable def g_pack_reader_signed (N : Nat) : TypedM p_pack_reader_signed [q_pack_reader_signed_0] := fun R x C => pack_reader_signed N x.1.2.1 x.2.1.1 x.2.1.2.1 x.2.1.2.2.1 (fun y0 y1 y2 y3 => C.1 ((y0, ()), ((y1, y2, y3, ()), ())))
noncomputable def S_pack_reader_signed (pack_reader_signed : T_pack_reader_signed) (N : Nat) : Go.AX.Spec := specM [false, true] (List.replicate 32 true) true 2 1 p_pack_reader_signed [q_pack_reader_signed_0] (fun R x C => pack_reader_signed N x.1.2.1 x.2.1.1 x.2.1.2.1 x.2.1.2.2.1 (fun y0 y1 y2 y3 => C.1 ((y0, ()), ((y1, y2, y3, ()), ()))))
noncomputable def s_pack_reader_signed (N : Nat) : Go.AX.Spec := S_pack_reader_signed @pack_reader_signed N
noncomputable def L_pack_reader_signed (N : Nat) : List (Nat × Frag) := []
noncomputable def G_pack_reader_signed (N : Nat) : List (Nat × Go.AX.Spec) := [(36, s_pack_reader_num N)]
noncomputable def b_pack_class : Code := Go.Proofs.Try.f38.body.getD .skip
noncomputable def p_pack_class : SPat := ⟨[(0, .one (.val (.int .i64)))], []⟩
noncomputable def q_pack_class_0 : SPat := ⟨[(0, .one (.val (.int .i64)))], []⟩
@[reducible] def A_pack_class (R : Type) : Type := Int → (Int → Option R) → Option R
@[reducible] def T_pack_class : Type 1 := {R : Type} → Nat → A_pack_class R
noncomputable def pack_class : T_pack_class := fun {R} N x0 K0 =>
    if ((x0 == (0 : Int)) = true) then (K0 0) else (if ((decide ((x0 ≥ (-128 : Int)))) = true) then (if ((decide ((x0 ≤ (127 : Int)))) = true) then (K0 1) else (if ((decide ((x0 ≥ (-32768 : Int)))) = true) then (if ((decide ((x0 ≤ (32767 : Int)))) = true) then (K0 2) else (K0 3)) else (K0 3))) else (if ((decide ((x0 ≥ (-32768 : Int)))) = true) then (if ((decide ((x0 ≤ (32767 : Int)))) = true) then (K0 2) else (K0 3)) else (K0 3)))
noncomputable def g_pack_class (N : Nat) : TypedM p_pack_class [q_pack_class_0] := fun R x C => pack_class N x.1.1 (fun y0 => C.1 ((y0, ()), (())))
noncomputable def S_pack_class (pack_class : T_pack_class) (N : Nat) : Go.AX.Spec := specM [true] [] false 1 0 p_pack_class [q_pack_class_0] (fun R x C => pack_class N x.1.1 (fun y0 => C.1 ((y0, ()), (()))))
noncomputable def s_pack_class (N : Nat) : Go.AX.Spec := S_pack_class @pack_class N
noncomputable def L_pack_class (N : Nat) : List (Nat × Frag) := []
noncomputable def G_pack_class (N : Nat) : List (Nat × Go.AX.Spec) := []
noncomputable def p_pack_At_24 : SPat := ⟨[(1, .one (.val (.int .i64))), (4, .one (.ptr 32)), (7, .one (.ptr 33)), (8, .one (.val (.int .i64))), (9, .one (.ptr 34))], [(32, .cells 24 [(.val (.int .i64)), (.val (.int .i64)), (.val (.int .i64))]), (33, .cells 24 [(.val (.int .i64)), (.val (.int .i64)), (.val (.int .i64))]), (34, .cells 59 [(.val (.list (.int .u8))), (.val (.int .i64)), (.val .bool)])]⟩
noncomputable def o_pack_At_24_0 : SPat := ⟨[(4, .one (.ptr 32)), (5, .one (.val (.int .i64))), (6, .one (.val (.int .i64)))], [(32, .cells 24 [(.val (.int .i64)), (.val (.int .i64)), (.val (.int .i64))])]⟩
noncomputable def o_pack_At_24 : Outs := .cons .ret o_pack_At_24_0 (.nil)
@[reducible] def A_pack_At_24 (R : Type) : Type := Int → Int → Int → Int → Int → Int → Int → Int → d0 → Int → Bool → (Int → Int → Int → Int → Int → Option R) → Option R
@[reducible] def T_pack_At_24 : Type 1 := {R : Type} → Nat → A_pack_At_24 R
noncomputable def pack_At_24_b (pack_class : T_pack_class) : T_pack_At_24 := fun {R} N x0 x1 x2 x3 x4 x5 x6 x7 x8 x9 x10 K0 =>
    if (x10 = true) then (K0 0 7 0 0 0) else (pack_class N x6 (fun y0 => if ((y0 != x1) = true) then (K0 0 3 0 0 0) else (K0 ((wi (x9 - x0))) 0 x5 x6 x7)))
noncomputable def pack_At_24 : T_pack_At_24 := @pack_At_24_b @pack_class
noncomputable def H_pack_At_24 (pack_At_24 : T_pack_At_24) (N : Nat) : Typed p_pack_At_24 := fun R x K => pack_At_24 N x.1.1 x.1.2.2.2.1 x.2.1.1 x.2.1.2.1 x.2.1.2.2.1 x.2.2.1.1 x.2.2.1.2.1 x.2.2.1.2.2.1 x.2.2.2.1.1 x.2.2.2.1.2.1 x.2.2.2.1.2.2.1 (fun y0 y1 y2 y3 y4 => K .ret (encS o_pack_At_24_0 (((), y0, y1, ()), ((y2, y3, y4, ()), ()))))
noncomputable def g_pack_At_24 (N : Nat) : Typed p_pack_At_24 := H_pack_At_24 @pack_At_24 N
noncomputable def b_pack_extra : Code := Go.Proofs.Try.f37.body.getD .skip
noncomputable def p_pack_extra : SPat := ⟨[(0, .one (.val (.int .i64)))], []⟩
noncomputable def q_pack_extra_0 : SPat := ⟨[(0, .one (.val (.int .i64)))], []⟩
@[reducible] def A_pack_extra (R : Type) : Type := Int → (Int → Option R) → Option R
@[reducible] def T_pack_extra : Type 1 := {R : Type} → Nat → A_pack_extra R
noncomputable def pack_extra : T_pack_extra := fun {R} N x0 K0 =>
    if ((x0 == (24 : Int)) = true) then (K0 1) else (if ((x0 == (29 : Int)) = true) then (K0 2) else (if ((x0 == (30 : Int)) = true) then (K0 4) else (K0 0)))
noncomputable def g_pack_extra (N : Nat) : TypedM p_pack_extra [q_pack_extra_0] := fun R x C => pack_extra N x.1.1 (fun y0 => C.1 ((y0, ()), (())))
noncomputable def S_pack_extra (pack_extra : T_pack_extra) (N : Nat) : Go.AX.Spec := specM [true] [] false 1 0 p_pack_extra [q_pack_extra_0] (fun R x C => pack_extra N x.1.1 (fun y0 => C.1 ((y0, ()), (()))))
noncomputable def s_pack_extra (N : Nat) : Go.AX.Spec := S_pack_extra @pack_extra N
noncomputable def L_pack_extra (N : Nat) : List (Nat × Frag) := []
noncomputable def G_pack_extra (N : Nat) : List (Nat × Go.AX.Spec) := []
noncomputable def p_pack_At : SPat := ⟨[(0, .one (.val (.list (.int .u8)))), (1, .one (.val (.int .i64)))], []⟩
noncomputable def q_pack_At_0 : SPat := ⟨[(0, .agg [(.val (.int .i64)), (.val (.int .i64)), (.val (.int .i64))]), (1, .one (.val (.int .i64))), (2, .one (.val (.int .i64)))], []⟩
@[reducible] def A_pack_At (R : Type) : Type := d0 → Int → (Int → Int → Int → Int → Int → Option R) → Option R
@[reducible] def T_pack_At : Type 1 := {R : Type} → Nat → A_pack_At R
noncomputable def pack_At_b (pack_reader_signed : T_pack_reader_signed) (pack_At_24 : T_pack_At_24) (pack_extra : T_pack_extra) (pack_reader_num : T_pack_reader_num) : T_pack_At := fun {R} N x0 x1 K0 =>
    if ((decide ((x1 < (0 : Int)))) = true) then (K0 0 0 0 0 1) else (if ((decide ((x1 ≥ (len x0)))) = true) then (K0 0 0 0 0 1) else (if (((0 : Int) ≤ x1) ∧ (x1 < (len x0))) then (let v0 := (andI .u8 (List.getD x0 (Int.toNat x1) (0 : Int)) (31 : Int)); if (((0 : Int) ≤ x1) ∧ (x1 < (len x0))) then (if ((decide (((wi v0) < (1 : Int)))) = true) then (K0 0 0 0 0 3) else (if ((decide (((wi v0) > (30 : Int)))) = true) then (K0 0 0 0 0 3) else (if (((wi v0) == (19 : Int)) = true) then (K0 0 0 0 0 3) else (if ((decide (((wi (shrI .u8 (List.getD x0 (Int.toNat x1) (0 : Int)) (5 : Int))) > (3 : Int)))) = true) then (K0 0 0 0 0 3) else (if (((0 : Int) ≤ (wi (shrI .u8 (List.getD x0 (Int.toNat x1) (0 : Int)) (5 : Int)))) ∧ ((wi (shrI .u8 (List.getD x0 (Int.toNat x1) (0 : Int)) (5 : Int))) < (4 : Int))) then (pack_reader_signed N ((List.getD [(0 : Int), (1 : Int), (2 : Int), (4 : Int)] (Int.toNat (wi (shrI .u8 (List.getD x0 (Int.toNat x1) (0 : Int)) (5 : Int)))) (0 : Int))) x0 ((wi (x1 + (1 : Int)))) false (fun y0 y1 y2 y3 => if (((wi v0) == (30 : Int)) = true) then (pack_reader_signed N 4 y1 y2 y3 (fun y4 y5 y6 y7 => pack_At_24 N x1 ((wi (shrI .u8 (List.getD x0 (Int.toNat x1) (0 : Int)) (5 : Int)))) 0 0 0 ((wi v0)) y0 y4 y5 y6 y7 (fun y8 y9 y10 y11 y12 => K0 y10 y11 y12 y8 y9))) else (pack_extra N ((wi v0)) (fun y13 => pack_reader_num N y13 y1 y2 y3 (fun y14 y15 y16 y17 => pack_At_24 N x1 ((wi (shrI .u8 (List.getD x0 (Int.toNat x1) (0 : Int)) (5 : Int)))) 0 0 0 ((wi v0)) y0 y14 y15 y16 y17 (fun y18 y19 y20 y21 y22 => K0 y20 y21 y22 y18 y19)))))) else none))))) else none) else none))
noncomputable def pack_At : T_pack_At := @pack_At_b @pack_reader_signed @pack_At_24 @pack_extra @pack_reader_num
noncomputable def g_pack_At (N : Nat) : TypedM p_pack_At [q_pack_At_0] := fun R x C => pack_At N x.1.1 x.1.2.1 (fun y0 y1 y2 y3 y4 => C.1 (((y0, y1, y2, ()), y3, y4, ()), (())))
noncomputable def S_pack_At (pack_At : T_pack_At) (N : Nat) : Go.AX.Spec := specM [true, true] [] false 2 0 p_pack_At [q_pack_At_0] (fun R x C => pack_At N x.1.1 x.1.2.1 (fun y0 y1 y2 y3 y4 => C.1 (((y0, y1, y2, ()), y3, y4, ()), (()))))
noncomputable def s_pack_At (N : Nat) : Go.AX.Spec := S_pack_At @pack_At N
noncomputable def L_pack_At (N : Nat) : List (Nat × Frag) := [(24, fragOf p_pack_At_24 (g_pack_At_24 N))]
noncomputable def G_pack_At (N : Nat) : List (Nat × Go.AX.Spec) := [(35, s_pack_reader_signed N), (38, s_pack_class N), (37, s_pack_extra N), (36, s_pack_reader_num N)]
noncomputable def p_law10_awake : SPat := ⟨[], []⟩
noncomputable def q_law10_awake_0 : SPat := ⟨[(0, .one (.val .bool))], []⟩
@[reducible] def A_law10_awake (R : Type) : Type := (Bool → Option R) → Option R
@[reducible] def T_law10_awake : Type 1 := {R : Type} → Nat → A_law10_awake R
noncomputable def law10_awake_b (pack_At : T_pack_At) : T_law10_awake := fun {R} N K0 =>
    pack_At N ([(65 : Int), (1 : Int), (44 : Int)]) 0 (fun y0 y1 y2 y3 y4 => pack_At N ([(34 : Int), (2 : Int), (1 : Int)]) 2 (fun y5 y6 y7 y8 y9 => if ((y4 == (0 : Int)) = true) then (if ((y9 == (0 : Int)) = true) then (if (((y0 == (1 : Int)) && ((y1 == (300 : Int)) && ((y2 == (0 : Int)) && true))) = true) then (if ((y3 == (3 : Int)) = true) then (if (((y5 == (1 : Int)) && ((y6 == (0 : Int)) && ((y7 == (0 : Int)) && true))) = true) then (K0 ((y8 == (1 : Int)))) else (K0 false)) else (K0 false)) else (K0 false)) else (K0 false)) else (K0 false)))
noncomputable def law10_awake : T_law10_awake := @law10_awake_b @pack_At
noncomputable def g_law10_awake (N : Nat) : TypedM p_law10_awake [q_law10_awake_0] := fun R x C => law10_awake N  (fun y0 => C.1 ((y0, ()), (())))
noncomputable def S_law10_awake (law10_awake : T_law10_awake) (N : Nat) : Go.AX.Spec := specM [] [] false 0 0 p_law10_awake [q_law10_awake_0] (fun R x C => law10_awake N  (fun y0 => C.1 ((y0, ()), (()))))
noncomputable def s_law10_awake (N : Nat) : Go.AX.Spec := S_law10_awake @law10_awake N
noncomputable def L_law10_awake (N : Nat) : List (Nat × Frag) := []
noncomputable def G_law10_awake (N : Nat) : List (Nat × Go.AX.Spec) := [(12, s_pack_At N)]
noncomputable def b_pack_Unpack : Code := Go.Proofs.Try.f27.body.getD .skip
noncomputable def b_pack_opened : Code := Go.Proofs.Try.f62.body.getD .skip
noncomputable def b_pack_Sum : Code := Go.Proofs.Try.f31.body.getD .skip
noncomputable def p_pack_Sum_7 : SPat := ⟨[(3, .one (.val (.int .i64))), (6, .one (.val (.list (.int .u8)))), (7, .one (.val (.int .i64))), (8, .one (.val (.int .i64)))], []⟩
noncomputable def o_pack_Sum_7_0 : SPat := ⟨[(3, .one (.val (.int .i64)))], []⟩
noncomputable def o_pack_Sum_7 : Outs := .cons (.exit 0) o_pack_Sum_7_0 (.nil)
@[reducible] def A_pack_Sum_7 (R : Type) : Type := Int → d0 → Int → Int → (Int → Option R) → Option R
@[reducible] def B_pack_Sum_7 (R : Type) : Type := Int → d0 → Int → Int → Option R
@[reducible] def T_pack_Sum_7 : Type 1 := {R : Type} → Nat → Nat → A_pack_Sum_7 R
noncomputable def pack_Sum_7_b {R : Type} (N : Nat) (rc : B_pack_Sum_7 R) : A_pack_Sum_7 R := fun x0 x1 x2 x3 K0 =>
    if ((decide ((x3 < x2))) = true) then (if (((0 : Int) ≤ x3) ∧ (x3 < (len x1))) then (let v0 := (wi (x3 + (1 : Int))); rc ((andI .i64 (wi (x0 + (wi (v0 * (wi (List.getD x1 (Int.toNat x3) (0 : Int))))))) (4294967295 : Int))) x1 x2 v0) else none) else (K0 x0)
noncomputable def pack_Sum_7 {R : Type} (N : Nat) : Nat → A_pack_Sum_7 R
  | 0 => fun _ _ _ _ _ => none
  | k + 1 => fun x0 x1 x2 x3 K0 => pack_Sum_7_b N (fun x0 x1 x2 x3 => pack_Sum_7 N k x0 x1 x2 x3 K0) x0 x1 x2 x3 K0
noncomputable def H_pack_Sum_7 (pack_Sum_7 : T_pack_Sum_7) (N k : Nat) : Typed p_pack_Sum_7 := fun R x K => pack_Sum_7 N k x.1.1 x.1.2.1 x.1.2.2.1 x.1.2.2.2.1 (fun y0 => K (.exit 0) (encS o_pack_Sum_7_0 ((y0, ()), (()))))
noncomputable def g_pack_Sum_7 (N k : Nat) : Typed p_pack_Sum_7 := H_pack_Sum_7 @pack_Sum_7 N k
noncomputable def p_pack_Sum : SPat := ⟨[(0, .one (.val (.list (.int .u8))))], []⟩
noncomputable def q_pack_Sum_0 : SPat := ⟨[(0, .one (.val (.int .i64)))], []⟩
@[reducible] def A_pack_Sum (R : Type) : Type := d0 → (Int → Option R) → Option R
@[reducible] def T_pack_Sum : Type 1 := {R : Type} → Nat → A_pack_Sum R
noncomputable def pack_Sum_b (pack_Sum_7 : T_pack_Sum_7) : T_pack_Sum := fun {R} N x0 K0 =>
    pack_Sum_7 N N 0 x0 ((len x0)) 0 (fun y0 => K0 y0)
noncomputable def pack_Sum : T_pack_Sum := @pack_Sum_b @pack_Sum_7
noncomputable def g_pack_Sum (N : Nat) : TypedM p_pack_Sum [q_pack_Sum_0] := fun R x C => pack_Sum N x.1.1 (fun y0 => C.1 ((y0, ()), (())))
noncomputable def S_pack_Sum (pack_Sum : T_pack_Sum) (N : Nat) : Go.AX.Spec := specM [true] [] false 1 0 p_pack_Sum [q_pack_Sum_0] (fun R x C => pack_Sum N x.1.1 (fun y0 => C.1 ((y0, ()), (()))))
noncomputable def s_pack_Sum (N : Nat) : Go.AX.Spec := S_pack_Sum @pack_Sum N
noncomputable def L_pack_Sum (N : Nat) : List (Nat × Frag) := [(7, fragOf p_pack_Sum_7 (g_pack_Sum_7 N N))]
noncomputable def G_pack_Sum (N : Nat) : List (Nat × Go.AX.Spec) := []
noncomputable def b_pack_unpack : Code := Go.Proofs.Try.f76.body.getD .skip
noncomputable def b_pack_reader_text : Code := Go.Proofs.Try.f94.body.getD .skip
noncomputable def p_pack_reader_text : SPat := ⟨[(0, .one (.ptr 0))], [(0, .cells 59 [(.val (.list (.int .u8))), (.val (.int .i64)), (.val .bool)])]⟩
noncomputable def q_pack_reader_text_0 : SPat := ⟨[(0, .one (.val .str))], [(0, .cells 59 [(.val (.list (.int .u8))), (.val (.int .i64)), (.val .bool)])]⟩
@[reducible] def A_pack_reader_text (R : Type) : Type := d0 → Int → Bool → ((List UInt8) → d0 → Int → Bool → Option R) → Option R
@[reducible] def T_pack_reader_text : Type 1 := {R : Type} → Nat → A_pack_reader_text R
noncomputable def pack_reader_text_b (pack_reader_num : T_pack_reader_num) : T_pack_reader_text := fun {R} N x0 x1 x2 K0 =>
    pack_reader_num N 1 x0 x1 x2 (fun y0 y1 y2 y3 => if (y3 = true) then (K0 (([] : List UInt8)) y1 y2 true) else (let v0 := (wi (y2 + y0)); if ((decide ((v0 > (len y1)))) = true) then (K0 (([] : List UInt8)) y1 y2 true) else (let v1 := (wi (v0 - y0)); if (((0 : Int) ≤ v0) ∧ (v0 ≤ (len y1))) then (if (((0 : Int) ≤ v1) ∧ (v1 ≤ v0)) then (K0 ((List.map (fun n : Int => (UInt8.ofNat (Int.toNat n))) (List.drop (Int.toNat v1) (List.take (Int.toNat v0) y1)))) y1 v0 y3) else none) else none)))
noncomputable def pack_reader_text : T_pack_reader_text := @pack_reader_text_b @pack_reader_num
noncomputable def g_pack_reader_text (N : Nat) : TypedM p_pack_reader_text [q_pack_reader_text_0] := fun R x C => pack_reader_text N x.2.1.1 x.2.1.2.1 x.2.1.2.2.1 (fun y0 y1 y2 y3 => C.1 ((y0, ()), ((y1, y2, y3, ()), ())))
noncomputable def S_pack_reader_text (pack_reader_text : T_pack_reader_text) (N : Nat) : Go.AX.Spec := specM [false] (List.replicate 32 true) true 1 1 p_pack_reader_text [q_pack_reader_text_0] (fun R x C => pack_reader_text N x.2.1.1 x.2.1.2.1 x.2.1.2.2.1 (fun y0 y1 y2 y3 => C.1 ((y0, ()), ((y1, y2, y3, ()), ()))))
noncomputable def s_pack_reader_text (N : Nat) : Go.AX.Spec := S_pack_reader_text @pack_reader_text N
noncomputable def L_pack_reader_text (N : Nat) : List (Nat × Frag) := []
noncomputable def G_pack_reader_text (N : Nat) : List (Nat × Go.AX.Spec) := [(36, s_pack_reader_num N)]
noncomputable def p_pack_unpack_36 : SPat := ⟨[(2, .one (.ptr 32)), (6, .one (.ptr 33)), (7, .one (.ptr 34)), (8, .one (.ptr 35)), (30, .one (.val (.int .i64))), (31, .one (.val (.int .i64)))], [(32, .cells 34 [(.val .str), (.slf 36), (.slf 37), (.slf 38), (.val (.int .i64)), (.val (.int .i64))]), (33, .cells 59 [(.val (.list (.int .u8))), (.val (.int .i64)), (.val .bool)]), (34, .cells 34 [(.val .str), (.slf 39), (.slf 40), (.slf 41), (.val (.int .i64)), (.val (.int .i64))]), (35, .cells 73 [(.val .str), (.val .bool), (.slf 42)]), (36, .row 73 (.pair .str (.pair .bool (.list (.int .i64))))), (37, .row 24 z2), (38, .row 75 z0), (39, .row 73 (.pair .str (.pair .bool (.list (.int .i64))))), (40, .row 24 z2), (41, .row 75 z0), (42, .row 3 (.int .i64))]⟩
noncomputable def o_pack_unpack_36_0 : SPat := ⟨[(2, .one (.ptr 32)), (3, .one (.val (.int .i64))), (4, .one (.val (.int .i64))), (5, .one (.val .bool))], [(32, .cells 34 [(.val .str), (.slf 33), (.slf 34), (.slf 35), (.val (.int .i64)), (.val (.int .i64))]), (33, .row 73 (.pair .str (.pair .bool (.list (.int .i64))))), (34, .row 24 z2), (35, .row 75 z0)]⟩
noncomputable def o_pack_unpack_36_1 : SPat := ⟨[(2, .one (.ptr 32)), (6, .one (.ptr 33)), (7, .one (.ptr 34)), (30, .one (.val (.int .i64))), (31, .one (.val (.int .i64)))], [(32, .cells 34 [(.val .str), (.slf 35), (.slf 36), (.slf 37), (.val (.int .i64)), (.val (.int .i64))]), (33, .cells 59 [(.val (.list (.int .u8))), (.val (.int .i64)), (.val .bool)]), (34, .cells 34 [(.val .str), (.slf 38), (.slf 39), (.slf 40), (.val (.int .i64)), (.val (.int .i64))]), (35, .row 73 (.pair .str (.pair .bool (.list (.int .i64))))), (36, .row 24 z2), (37, .row 75 z0), (38, .row 73 (.pair .str (.pair .bool (.list (.int .i64))))), (39, .row 24 z2), (40, .row 75 z0)]⟩
noncomputable def o_pack_unpack_36 : Outs := .cons .ret o_pack_unpack_36_0 (.cons .normal o_pack_unpack_36_1 (.nil))
@[reducible] def A_pack_unpack_36 (R : Type) : Type := Int → Int → (List UInt8) → Int → Int → d0 → Int → Bool → (List UInt8) → Int → Int → (List UInt8) → Bool → d5 → d4 → d1 → d5 → d4 → d1 → d0 → (Int → Int → Bool → (List UInt8) → Int → Int → d5 → d4 → d1 → Option R) → (Int → Int → (List UInt8) → Int → Int → d0 → Int → Bool → (List UInt8) → Int → Int → d5 → d4 → d1 → d5 → d4 → d1 → Option R) → Option R
@[reducible] def T_pack_unpack_36 : Type 1 := {R : Type} → Nat → A_pack_unpack_36 R
noncomputable def pack_unpack_36 : T_pack_unpack_36 := fun {R} N x0 x1 x2 x3 x4 x5 x6 x7 x8 x9 x10 x11 x12 x13 x14 x15 x16 x17 x18 x19 K0 K1 =>
    if (x7 = true) then (K0 0 0 false x8 x9 x10 x16 x17 x18) else (if ((((List.length x16) + (List.length ((x11, (x12, x19)) :: ([] : List (List UInt8 × Bool × List Int))))) * (48 : Nat)) ≤ (70368744177664 : Nat)) then (K1 x0 x1 x2 x3 x4 x5 x6 x7 x8 x9 x10 x13 x14 x15 ((x16 ++ ((x11, (x12, x19)) :: ([] : List (List UInt8 × Bool × List Int))))) x17 x18) else none)
noncomputable def H_pack_unpack_36 (pack_unpack_36 : T_pack_unpack_36) (N : Nat) : Typed p_pack_unpack_36 := fun R x K => pack_unpack_36 N x.1.2.2.2.2.1 x.1.2.2.2.2.2.1 x.2.1.1 x.2.1.2.2.2.2.1 x.2.1.2.2.2.2.2.1 x.2.2.1.1 x.2.2.1.2.1 x.2.2.1.2.2.1 x.2.2.2.1.1 x.2.2.2.1.2.2.2.2.1 x.2.2.2.1.2.2.2.2.2.1 x.2.2.2.2.1.1 x.2.2.2.2.1.2.1 x.2.2.2.2.2.1 x.2.2.2.2.2.2.1 x.2.2.2.2.2.2.2.1 x.2.2.2.2.2.2.2.2.1 x.2.2.2.2.2.2.2.2.2.1 x.2.2.2.2.2.2.2.2.2.2.1 x.2.2.2.2.2.2.2.2.2.2.2.1 (fun y0 y1 y2 y3 y4 y5 y6 y7 y8 => K .ret (encS o_pack_unpack_36_0 (((), y0, y1, y2, ()), ((y3, (), (), (), y4, y5, ()), y6, y7, y8, ())))) (fun y0 y1 y2 y3 y4 y5 y6 y7 y8 y9 y10 y11 y12 y13 y14 y15 y16 => K .normal (encS o_pack_unpack_36_1 (((), (), (), y0, y1, ()), ((y2, (), (), (), y3, y4, ()), (y5, y6, y7, ()), (y8, (), (), (), y9, y10, ()), y11, y12, y13, y14, y15, y16, ()))))
noncomputable def g_pack_unpack_36 (N : Nat) : Typed p_pack_unpack_36 := H_pack_unpack_36 @pack_unpack_36 N
noncomputable def p_pack_unpack_31 : SPat := ⟨[(2, .one (.ptr 32)), (6, .one (.ptr 33)), (7, .one (.ptr 34)), (8, .one (.ptr 35)), (30, .one (.val (.int .i64))), (31, .one (.val (.int .i64))), (45, .one (.val (.int .i64))), (46, .one (.val (.int .i64)))], [(32, .cells 34 [(.val .str), (.slf 36), (.slf 37), (.slf 38), (.val (.int .i64)), (.val (.int .i64))]), (33, .cells 59 [(.val (.list (.int .u8))), (.val (.int .i64)), (.val .bool)]), (34, .cells 34 [(.val .str), (.slf 39), (.slf 40), (.slf 41), (.val (.int .i64)), (.val (.int .i64))]), (35, .cells 73 [(.val .str), (.val .bool), (.slf 42)]), (36, .row 73 (.pair .str (.pair .bool (.list (.int .i64))))), (37, .row 24 z2), (38, .row 75 z0), (39, .row 73 (.pair .str (.pair .bool (.list (.int .i64))))), (40, .row 24 z2), (41, .row 75 z0), (42, .row 3 (.int .i64))]⟩
noncomputable def o_pack_unpack_31_0 : SPat := ⟨[(2, .one (.ptr 32)), (6, .one (.ptr 33)), (7, .one (.ptr 34)), (8, .one (.ptr 35)), (30, .one (.val (.int .i64))), (31, .one (.val (.int .i64)))], [(32, .cells 34 [(.val .str), (.slf 36), (.slf 37), (.slf 38), (.val (.int .i64)), (.val (.int .i64))]), (33, .cells 59 [(.val (.list (.int .u8))), (.val (.int .i64)), (.val .bool)]), (34, .cells 34 [(.val .str), (.slf 39), (.slf 40), (.slf 41), (.val (.int .i64)), (.val (.int .i64))]), (35, .cells 73 [(.val .str), (.val .bool), (.slf 42)]), (36, .row 73 (.pair .str (.pair .bool (.list (.int .i64))))), (37, .row 24 z2), (38, .row 75 z0), (39, .row 73 (.pair .str (.pair .bool (.list (.int .i64))))), (40, .row 24 z2), (41, .row 75 z0), (42, .row 3 (.int .i64))]⟩
noncomputable def o_pack_unpack_31 : Outs := .cons (.exit 3) o_pack_unpack_31_0 (.nil)
@[reducible] def A_pack_unpack_31 (R : Type) : Type := Int → Int → Int → Int → (List UInt8) → Int → Int → d0 → Int → Bool → (List UInt8) → Int → Int → (List UInt8) → Bool → d5 → d4 → d1 → d5 → d4 → d1 → d0 → (Int → Int → (List UInt8) → Int → Int → d0 → Int → Bool → (List UInt8) → Int → Int → (List UInt8) → Bool → d5 → d4 → d1 → d5 → d4 → d1 → d0 → Option R) → Option R
@[reducible] def B_pack_unpack_31 (R : Type) : Type := Int → Int → Int → Int → (List UInt8) → Int → Int → d0 → Int → Bool → (List UInt8) → Int → Int → (List UInt8) → Bool → d5 → d4 → d1 → d5 → d4 → d1 → d0 → Option R
@[reducible] def T_pack_unpack_31 : Type 1 := {R : Type} → Nat → Nat → A_pack_unpack_31 R
noncomputable def pack_unpack_31_b (pack_reader_signed : T_pack_reader_signed) {R : Type} (N : Nat) (rc : B_pack_unpack_31 R) : A_pack_unpack_31 R := fun x0 x1 x2 x3 x4 x5 x6 x7 x8 x9 x10 x11 x12 x13 x14 x15 x16 x17 x18 x19 x20 x21 K0 =>
    if ((decide ((x3 < x2))) = true) then (pack_reader_signed N 4 x7 x8 x9 (fun y0 y1 y2 y3 => if ((((List.length x21) + (List.length (y0 :: ([] : List Int)))) * (8 : Nat)) ≤ (70368744177664 : Nat)) then (rc x0 x1 x2 ((wi (x3 + (1 : Int)))) x4 x5 x6 y1 y2 y3 x10 x11 x12 x13 x14 x15 x16 x17 x18 x19 x20 ((x21 ++ (y0 :: ([] : List Int))))) else none)) else (K0 x0 x1 x4 x5 x6 x7 x8 x9 x10 x11 x12 x13 x14 x15 x16 x17 x18 x19 x20 x21)
noncomputable def pack_unpack_31 {R : Type} (N : Nat) : Nat → A_pack_unpack_31 R
  | 0 => fun _ _ _ _ _ _ _ _ _ _ _ _ _ _ _ _ _ _ _ _ _ _ _ => none
  | k + 1 => fun x0 x1 x2 x3 x4 x5 x6 x7 x8 x9 x10 x11 x12 x13 x14 x15 x16 x17 x18 x19 x20 x21 K0 => pack_unpack_31_b @pack_reader_signed N (fun x0 x1 x2 x3 x4 x5 x6 x7 x8 x9 x10 x11 x12 x13 x14 x15 x16 x17 x18 x19 x20 x21 => pack_unpack_31 N k x0 x1 x2 x3 x4 x5 x6 x7 x8 x9 x10 x11 x12 x13 x14 x15 x16 x17 x18 x19 x20 x21 K0) x0 x1 x2 x3 x4 x5 x6 x7 x8 x9 x10 x11 x12 x13 x14 x15 x16 x17 x18 x19 x20 x21 K0
noncomputable def H_pack_unpack_31 (pack_unpack_31 : T_pack_unpack_31) (N k : Nat) : Typed p_pack_unpack_31 := fun R x K => pack_unpack_31 N k x.1.2.2.2.2.1 x.1.2.2.2.2.2.1 x.1.2.2.2.2.2.2.1 x.1.2.2.2.2.2.2.2.1 x.2.1.1 x.2.1.2.2.2.2.1 x.2.1.2.2.2.2.2.1 x.2.2.1.1 x.2.2.1.2.1 x.2.2.1.2.2.1 x.2.2.2.1.1 x.2.2.2.1.2.2.2.2.1 x.2.2.2.1.2.2.2.2.2.1 x.2.2.2.2.1.1 x.2.2.2.2.1.2.1 x.2.2.2.2.2.1 x.2.2.2.2.2.2.1 x.2.2.2.2.2.2.2.1 x.2.2.2.2.2.2.2.2.1 x.2.2.2.2.2.2.2.2.2.1 x.2.2.2.2.2.2.2.2.2.2.1 x.2.2.2.2.2.2.2.2.2.2.2.1 (fun y0 y1 y2 y3 y4 y5 y6 y7 y8 y9 y10 y11 y12 y13 y14 y15 y16 y17 y18 y19 => K (.exit 3) (encS o_pack_unpack_31_0 (((), (), (), (), y0, y1, ()), ((y2, (), (), (), y3, y4, ()), (y5, y6, y7, ()), (y8, (), (), (), y9, y10, ()), (y11, y12, (), ()), y13, y14, y15, y16, y17, y18, y19, ()))))
noncomputable def g_pack_unpack_31 (N k : Nat) : Typed p_pack_unpack_31 := H_pack_unpack_31 @pack_unpack_31 N k
noncomputable def p_pack_unpack_15 : SPat := ⟨[(2, .one (.ptr 32)), (6, .one (.ptr 33)), (7, .one (.ptr 34)), (30, .one (.val (.int .i64))), (31, .one (.val (.int .i64)))], [(32, .cells 34 [(.val .str), (.slf 35), (.slf 36), (.slf 37), (.val (.int .i64)), (.val (.int .i64))]), (33, .cells 59 [(.val (.list (.int .u8))), (.val (.int .i64)), (.val .bool)]), (34, .cells 34 [(.val .str), (.slf 38), (.slf 39), (.slf 40), (.val (.int .i64)), (.val (.int .i64))]), (35, .row 73 (.pair .str (.pair .bool (.list (.int .i64))))), (36, .row 24 z2), (37, .row 75 z0), (38, .row 73 (.pair .str (.pair .bool (.list (.int .i64))))), (39, .row 24 z2), (40, .row 75 z0)]⟩
noncomputable def o_pack_unpack_15_0 : SPat := ⟨[(2, .one (.ptr 32)), (3, .one (.val (.int .i64))), (4, .one (.val (.int .i64))), (5, .one (.val .bool))], [(32, .cells 34 [(.val .str), (.slf 33), (.slf 34), (.slf 35), (.val (.int .i64)), (.val (.int .i64))]), (33, .row 73 (.pair .str (.pair .bool (.list (.int .i64))))), (34, .row 24 z2), (35, .row 75 z0)]⟩
noncomputable def o_pack_unpack_15_1 : SPat := ⟨[(2, .one (.ptr 32)), (6, .one (.ptr 33)), (7, .one (.ptr 34))], [(32, .cells 34 [(.val .str), (.slf 35), (.slf 36), (.slf 37), (.val (.int .i64)), (.val (.int .i64))]), (33, .cells 59 [(.val (.list (.int .u8))), (.val (.int .i64)), (.val .bool)]), (34, .cells 34 [(.val .str), (.slf 38), (.slf 39), (.slf 40), (.val (.int .i64)), (.val (.int .i64))]), (35, .row 73 (.pair .str (.pair .bool (.list (.int .i64))))), (36, .row 24 z2), (37, .row 75 z0), (38, .row 73 (.pair .str (.pair .bool (.list (.int .i64))))), (39, .row 24 z2), (40, .row 75 z0)]⟩
noncomputable def o_pack_unpack_15 : Outs := .cons .ret o_pack_unpack_15_0 (.cons (.exit 0) o_pack_unpack_15_1 (.nil))
@[reducible] def A_pack_unpack_15 (R : Type) : Type := Int → Int → (List UInt8) → Int → Int → d0 → Int → Bool → (List UInt8) → Int → Int → d5 → d4 → d1 → d5 → d4 → d1 → (Int → Int → Bool → (List UInt8) → Int → Int → d5 → d4 → d1 → Option R) → ((List UInt8) → Int → Int → d0 → Int → Bool → (List UInt8) → Int → Int → d5 → d4 → d1 → d5 → d4 → d1 → Option R) → Option R
@[reducible] def B_pack_unpack_15 (R : Type) : Type := Int → Int → (List UInt8) → Int → Int → d0 → Int → Bool → (List UInt8) → Int → Int → d5 → d4 → d1 → d5 → d4 → d1 → Option R
@[reducible] def T_pack_unpack_15 : Type 1 := {R : Type} → Nat → Nat → A_pack_unpack_15 R
noncomputable def pack_unpack_15_b (pack_reader_num : T_pack_reader_num) (pack_reader_text : T_pack_reader_text) (pack_unpack_36 : T_pack_unpack_36) (pack_unpack_31 : T_pack_unpack_31) {R : Type} (N : Nat) (rc : B_pack_unpack_15 R) : A_pack_unpack_15 R := fun x0 x1 x2 x3 x4 x5 x6 x7 x8 x9 x10 x11 x12 x13 x14 x15 x16 K0 K1 =>
    if ((decide ((x1 < x0))) = true) then (pack_reader_num N 1 x5 x6 x7 (fun y0 y1 y2 y3 => if ((y0 == (0 : Int)) = true) then (pack_reader_text N y1 y2 y3 (fun y4 y5 y6 y7 => pack_unpack_36 N x0 x1 x2 x3 x4 y5 y6 y7 x8 x9 x10 y4 true x11 x12 x13 x14 x15 x16 (([] : List Int)) (fun y8 y9 y10 y11 y12 y13 y14 y15 y16 => K0 y8 y9 y10 y11 y12 y13 y14 y15 y16) (fun y17 y18 y19 y20 y21 y22 y23 y24 y25 y26 y27 y28 y29 y30 y31 y32 y33 => rc y17 ((wi (y18 + (1 : Int)))) y19 y20 y21 y22 y23 y24 y25 y26 y27 y28 y29 y30 y31 y32 y33))) else (if ((y0 == (1 : Int)) = true) then (pack_reader_num N 2 y1 y2 y3 (fun y34 y35 y36 y37 => pack_unpack_31 N N x0 x1 y34 0 x2 x3 x4 y35 y36 y37 x8 x9 x10 (([] : List UInt8)) false x11 x12 x13 x14 x15 x16 (([] : List Int)) (fun y38 y39 y40 y41 y42 y43 y44 y45 y46 y47 y48 y49 y50 y51 y52 y53 y54 y55 y56 y57 => pack_unpack_36 N y38 y39 y40 y41 y42 y43 y44 y45 y46 y47 y48 y49 y50 y51 y52 y53 y54 y55 y56 y57 (fun y58 y59 y60 y61 y62 y63 y64 y65 y66 => K0 y58 y59 y60 y61 y62 y63 y64 y65 y66) (fun y67 y68 y69 y70 y71 y72 y73 y74 y75 y76 y77 y78 y79 y80 y81 y82 y83 => rc y67 ((wi (y68 + (1 : Int)))) y69 y70 y71 y72 y73 y74 y75 y76 y77 y78 y79 y80 y81 y82 y83)))) else (K0 0 0 false x8 x9 x10 x14 x15 x16)))) else (K1 x2 x3 x4 x5 x6 x7 x8 x9 x10 x11 x12 x13 x14 x15 x16)
noncomputable def pack_unpack_15 {R : Type} (N : Nat) : Nat → A_pack_unpack_15 R
  | 0 => fun _ _ _ _ _ _ _ _ _ _ _ _ _ _ _ _ _ _ _ => none
  | k + 1 => fun x0 x1 x2 x3 x4 x5 x6 x7 x8 x9 x10 x11 x12 x13 x14 x15 x16 K0 K1 => pack_unpack_15_b @pack_reader_num @pack_reader_text @pack_unpack_36 @pack_unpack_31 N (fun x0 x1 x2 x3 x4 x5 x6 x7 x8 x9 x10 x11 x12 x13 x14 x15 x16 => pack_unpack_15 N k x0 x1 x2 x3 x4 x5 x6 x7 x8 x9 x10 x11 x12 x13 x14 x15 x16 K0 K1) x0 x1 x2 x3 x4 x5 x6 x7 x8 x9 x10 x11 x12 x13 x14 x15 x16 K0 K1
noncomputable def H_pack_unpack_15 (pack_unpack_15 : T_pack_unpack_15) (N k : Nat) : Typed p_pack_unpack_15 := fun R x K => pack_unpack_15 N k x.1.2.2.2.1 x.1.2.2.2.2.1 x.2.1.1 x.2.1.2.2.2.2.1 x.2.1.2.2.2.2.2.1 x.2.2.1.1 x.2.2.1.2.1 x.2.2.1.2.2.1 x.2.2.2.1.1 x.2.2.2.1.2.2.2.2.1 x.2.2.2.1.2.2.2.2.2.1 x.2.2.2.2.1 x.2.2.2.2.2.1 x.2.2.2.2.2.2.1 x.2.2.2.2.2.2.2.1 x.2.2.2.2.2.2.2.2.1 x.2.2.2.2.2.2.2.2.2.1 (fun y0 y1 y2 y3 y4 y5 y6 y7 y8 => K .ret (encS o_pack_unpack_15_0 (((), y0, y1, y2, ()), ((y3, (), (), (), y4, y5, ()), y6, y7, y8, ())))) (fun y0 y1 y2 y3 y4 y5 y6 y7 y8 y9 y10 y11 y12 y13 y14 => K (.exit 0) (encS o_pack_unpack_15_1 (((), (), (), ()), ((y0, (), (), (), y1, y2, ()), (y3, y4, y5, ()), (y6, (), (), (), y7, y8, ()), y9, y10, y11, y12, y13, y14, ()))))
noncomputable def g_pack_unpack_15 (N k : Nat) : Typed p_pack_unpack_15 := H_pack_unpack_15 @pack_unpack_15 N k
noncomputable def p_pack_unpack_47 : SPat := ⟨[(2, .one (.ptr 32)), (6, .one (.ptr 33)), (7, .one (.ptr 34)), (69, .one (.val (.int .i64))), (70, .one (.val (.int .i64)))], [(32, .cells 34 [(.val .str), (.slf 35), (.slf 36), (.slf 37), (.val (.int .i64)), (.val (.int .i64))]), (33, .cells 59 [(.val (.list (.int .u8))), (.val (.int .i64)), (.val .bool)]), (34, .cells 34 [(.val .str), (.slf 38), (.slf 39), (.slf 40), (.val (.int .i64)), (.val (.int .i64))]), (35, .row 73 (.pair .str (.pair .bool (.list (.int .i64))))), (36, .row 24 z2), (37, .row 75 z0), (38, .row 73 (.pair .str (.pair .bool (.list (.int .i64))))), (39, .row 24 z2), (40, .row 75 z0)]⟩
noncomputable def o_pack_unpack_47_0 : SPat := ⟨[(2, .one (.ptr 32)), (6, .one (.ptr 33)), (7, .one (.ptr 34))], [(32, .cells 34 [(.val .str), (.slf 35), (.slf 36), (.slf 37), (.val (.int .i64)), (.val (.int .i64))]), (33, .cells 59 [(.val (.list (.int .u8))), (.val (.int .i64)), (.val .bool)]), (34, .cells 34 [(.val .str), (.slf 38), (.slf 39), (.slf 40), (.val (.int .i64)), (.val (.int .i64))]), (35, .row 73 (.pair .str (.pair .bool (.list (.int .i64))))), (36, .row 24 z2), (37, .row 75 z0), (38, .row 73 (.pair .str (.pair .bool (.list (.int .i64))))), (39, .row 24 z2), (40, .row 75 z0)]⟩
noncomputable def o_pack_unpack_47 : Outs := .cons (.exit 5) o_pack_unpack_47_0 (.nil)
@[reducible] def A_pack_unpack_47 (R : Type) : Type := Int → Int → (List UInt8) → Int → Int → d0 → Int → Bool → (List UInt8) → Int → Int → d5 → d4 → d1 → d5 → d4 → d1 → ((List UInt8) → Int → Int → d0 → Int → Bool → (List UInt8) → Int → Int → d5 → d4 → d1 → d5 → d4 → d1 → Option R) → Option R
@[reducible] def B_pack_unpack_47 (R : Type) : Type := Int → Int → (List UInt8) → Int → Int → d0 → Int → Bool → (List UInt8) → Int → Int → d5 → d4 → d1 → d5 → d4 → d1 → Option R
@[reducible] def T_pack_unpack_47 : Type 1 := {R : Type} → Nat → Nat → A_pack_unpack_47 R
noncomputable def pack_unpack_47_b (pack_reader_num : T_pack_reader_num) {R : Type} (N : Nat) (rc : B_pack_unpack_47 R) : A_pack_unpack_47 R := fun x0 x1 x2 x3 x4 x5 x6 x7 x8 x9 x10 x11 x12 x13 x14 x15 x16 K0 =>
    if ((decide ((x1 < x0))) = true) then (pack_reader_num N 1 x5 x6 x7 (fun y0 y1 y2 y3 => pack_reader_num N 2 y1 y2 y3 (fun y4 y5 y6 y7 => if ((((List.length x16) + (List.length ((y0, y4) :: ([] : List (Int × Int))))) * (16 : Nat)) ≤ (70368744177664 : Nat)) then (rc x0 ((wi (x1 + (1 : Int)))) x2 x3 x4 y5 y6 y7 x8 x9 x10 x11 x12 x13 x14 x15 ((x16 ++ ((y0, y4) :: ([] : List (Int × Int)))))) else none))) else (K0 x2 x3 x4 x5 x6 x7 x8 x9 x10 x11 x12 x13 x14 x15 x16)
noncomputable def pack_unpack_47 {R : Type} (N : Nat) : Nat → A_pack_unpack_47 R
  | 0 => fun _ _ _ _ _ _ _ _ _ _ _ _ _ _ _ _ _ _ => none
  | k + 1 => fun x0 x1 x2 x3 x4 x5 x6 x7 x8 x9 x10 x11 x12 x13 x14 x15 x16 K0 => pack_unpack_47_b @pack_reader_num N (fun x0 x1 x2 x3 x4 x5 x6 x7 x8 x9 x10 x11 x12 x13 x14 x15 x16 => pack_unpack_47 N k x0 x1 x2 x3 x4 x5 x6 x7 x8 x9 x10 x11 x12 x13 x14 x15 x16 K0) x0 x1 x2 x3 x4 x5 x6 x7 x8 x9 x10 x11 x12 x13 x14 x15 x16 K0
noncomputable def H_pack_unpack_47 (pack_unpack_47 : T_pack_unpack_47) (N k : Nat) : Typed p_pack_unpack_47 := fun R x K => pack_unpack_47 N k x.1.2.2.2.1 x.1.2.2.2.2.1 x.2.1.1 x.2.1.2.2.2.2.1 x.2.1.2.2.2.2.2.1 x.2.2.1.1 x.2.2.1.2.1 x.2.2.1.2.2.1 x.2.2.2.1.1 x.2.2.2.1.2.2.2.2.1 x.2.2.2.1.2.2.2.2.2.1 x.2.2.2.2.1 x.2.2.2.2.2.1 x.2.2.2.2.2.2.1 x.2.2.2.2.2.2.2.1 x.2.2.2.2.2.2.2.2.1 x.2.2.2.2.2.2.2.2.2.1 (fun y0 y1 y2 y3 y4 y5 y6 y7 y8 y9 y10 y11 y12 y13 y14 => K (.exit 5) (encS o_pack_unpack_47_0 (((), (), (), ()), ((y0, (), (), (), y1, y2, ()), (y3, y4, y5, ()), (y6, (), (), (), y7, y8, ()), y9, y10, y11, y12, y13, y14, ()))))
noncomputable def g_pack_unpack_47 (N k : Nat) : Typed p_pack_unpack_47 := H_pack_unpack_47 @pack_unpack_47 N k
noncomputable def b_pack_pieces : Code := Go.Proofs.Try.f95.body.getD .skip
noncomputable def p_pack_pieces_28 : SPat := ⟨[(0, .one (.val (.list (.int .u8)))), (4, .one (.slf 32)), (6, .one (.ptr 33)), (9, .one (.ptr 34)), (30, .one (.val (.int .i64))), (31, .one (.val .bool))], [(32, .row 143 z5), (33, .cells 24 [(.val (.int .i64)), (.val (.int .i64)), (.val (.int .i64))]), (34, .cells 143 [(.val (.int .i64)), (.val (.int .i64)), (.val (.int .i64)), (.val (.int .i64)), (.val (.int .i64)), (.val (.int .i64))])]⟩
noncomputable def o_pack_pieces_28_0 : SPat := ⟨[(0, .one (.val (.list (.int .u8)))), (4, .one (.slf 32)), (9, .one (.ptr 33))], [(32, .row 143 z5), (33, .cells 143 [(.val (.int .i64)), (.val (.int .i64)), (.val (.int .i64)), (.val (.int .i64)), (.val (.int .i64)), (.val (.int .i64))])]⟩
noncomputable def o_pack_pieces_28 : Outs := .cons .normal o_pack_pieces_28_0 (.nil)
@[reducible] def A_pack_pieces_28 (R : Type) : Type := d0 → Int → Bool → d6 → Int → Int → Int → Int → Int → Int → Int → Int → Int → (d0 → d6 → Int → Int → Int → Int → Int → Int → Option R) → Option R
@[reducible] def T_pack_pieces_28 : Type 1 := {R : Type} → Nat → A_pack_pieces_28 R
noncomputable def pack_pieces_28 : T_pack_pieces_28 := fun {R} N x0 x1 x2 x3 x4 x5 x6 x7 x8 x9 x10 x11 x12 K0 =>
    if (x2 = true) then (K0 x0 x3 x7 x8 x9 x10 x11 ((wi (x11 + x5)))) else (if ((x1 == (30 : Int)) = true) then (K0 x0 x3 x7 x8 x9 x10 x11 ((wi (x11 + x6)))) else (K0 x0 x3 x7 x8 x9 x10 x11 x12))
noncomputable def H_pack_pieces_28 (pack_pieces_28 : T_pack_pieces_28) (N : Nat) : Typed p_pack_pieces_28 := fun R x K => pack_pieces_28 N x.1.1 x.1.2.2.2.2.1 x.1.2.2.2.2.2.1 x.2.1 x.2.2.1.1 x.2.2.1.2.1 x.2.2.1.2.2.1 x.2.2.2.1.1 x.2.2.2.1.2.1 x.2.2.2.1.2.2.1 x.2.2.2.1.2.2.2.1 x.2.2.2.1.2.2.2.2.1 x.2.2.2.1.2.2.2.2.2.1 (fun y0 y1 y2 y3 y4 y5 y6 y7 => K .normal (encS o_pack_pieces_28_0 ((y0, (), (), ()), (y1, (y2, y3, y4, y5, y6, y7, ()), ()))))
noncomputable def g_pack_pieces_28 (N : Nat) : Typed p_pack_pieces_28 := H_pack_pieces_28 @pack_pieces_28 N
noncomputable def p_pack_pieces_34 : SPat := ⟨[(0, .one (.val (.list (.int .u8)))), (4, .one (.slf 32)), (9, .one (.ptr 33))], [(32, .row 143 z5), (33, .cells 143 [(.val (.int .i64)), (.val (.int .i64)), (.val (.int .i64)), (.val (.int .i64)), (.val (.int .i64)), (.val (.int .i64))])]⟩
noncomputable def o_pack_pieces_34_0 : SPat := ⟨[(0, .one (.val (.list (.int .u8)))), (4, .one (.slf 32)), (5, .one (.val (.int .i64)))], [(32, .row 143 z5)]⟩
noncomputable def o_pack_pieces_34 : Outs := .cons .normal o_pack_pieces_34_0 (.nil)
@[reducible] def A_pack_pieces_34 (R : Type) : Type := d0 → d6 → Int → Int → Int → Int → Int → Int → (d0 → Int → d6 → Option R) → Option R
@[reducible] def T_pack_pieces_34 : Type 1 := {R : Type} → Nat → A_pack_pieces_34 R
noncomputable def pack_pieces_34 : T_pack_pieces_34 := fun {R} N x0 x1 x2 x3 x4 x5 x6 x7 K0 =>
    if ((((List.length x1) + (List.length (((x2, (x3, x4)), (x5, (x6, x7))) :: ([] : List ((Int × Int × Int) × Int × Int × Int))))) * (48 : Nat)) ≤ (70368744177664 : Nat)) then (K0 x0 x6 ((x1 ++ (((x2, (x3, x4)), (x5, (x6, x7))) :: ([] : List ((Int × Int × Int) × Int × Int × Int)))))) else none
noncomputable def H_pack_pieces_34 (pack_pieces_34 : T_pack_pieces_34) (N : Nat) : Typed p_pack_pieces_34 := fun R x K => pack_pieces_34 N x.1.1 x.2.1 x.2.2.1.1 x.2.2.1.2.1 x.2.2.1.2.2.1 x.2.2.1.2.2.2.1 x.2.2.1.2.2.2.2.1 x.2.2.1.2.2.2.2.2.1 (fun y0 y1 y2 => K .normal (encS o_pack_pieces_34_0 ((y0, (), y1, ()), (y2, ()))))
noncomputable def g_pack_pieces_34 (N : Nat) : Typed p_pack_pieces_34 := H_pack_pieces_34 @pack_pieces_34 N
noncomputable def p_pack_pieces_7 : SPat := ⟨[(0, .one (.val (.list (.int .u8)))), (4, .one (.slf 32)), (5, .one (.val (.int .i64)))], [(32, .row 143 z5)]⟩
noncomputable def o_pack_pieces_7_0 : SPat := ⟨[(2, .one (.slf 32)), (3, .one (.val .bool))], [(32, .row 143 z5)]⟩
noncomputable def o_pack_pieces_7_1 : SPat := ⟨[(4, .one (.slf 32))], [(32, .row 143 z5)]⟩
noncomputable def o_pack_pieces_7 : Outs := .cons .ret o_pack_pieces_7_0 (.cons (.exit 0) o_pack_pieces_7_1 (.nil))
@[reducible] def A_pack_pieces_7 (R : Type) : Type := d0 → Int → d6 → (Bool → d6 → Option R) → (d6 → Option R) → Option R
@[reducible] def B_pack_pieces_7 (R : Type) : Type := d0 → Int → d6 → Option R
@[reducible] def T_pack_pieces_7 : Type 1 := {R : Type} → Nat → Nat → A_pack_pieces_7 R
noncomputable def pack_pieces_7_b (pack_At : T_pack_At) (pack_pieces_28 : T_pack_pieces_28) (pack_pieces_34 : T_pack_pieces_34) {R : Type} (N : Nat) (rc : B_pack_pieces_7 R) : A_pack_pieces_7 R := fun x0 x1 x2 K0 K1 =>
    if ((decide ((x1 < (len x0)))) = true) then (pack_At N x0 x1 (fun y0 y1 y2 y3 y4 => if ((y4 != (0 : Int)) = true) then (K0 false (([] : List ((Int × Int × Int) × Int × Int × Int)))) else (let v0 := (wi (x1 + y3)); if ((y0 == (20 : Int)) = true) then (pack_pieces_28 N x0 y0 ((y0 == (20 : Int))) x2 y0 y1 y2 y0 y1 y2 x1 v0 (-1) (fun y5 y6 y7 y8 y9 y10 y11 y12 => pack_pieces_34 N y5 y6 y7 y8 y9 y10 y11 y12 (fun y13 y14 y15 => rc y13 y14 y15))) else (if ((y0 == (21 : Int)) = true) then (pack_pieces_28 N x0 y0 ((y0 == (21 : Int))) x2 y0 y1 y2 y0 y1 y2 x1 v0 (-1) (fun y16 y17 y18 y19 y20 y21 y22 y23 => pack_pieces_34 N y16 y17 y18 y19 y20 y21 y22 y23 (fun y24 y25 y26 => rc y24 y25 y26))) else (if ((y0 == (22 : Int)) = true) then (pack_pieces_28 N x0 y0 ((y0 == (22 : Int))) x2 y0 y1 y2 y0 y1 y2 x1 v0 (-1) (fun y27 y28 y29 y30 y31 y32 y33 y34 => pack_pieces_34 N y27 y28 y29 y30 y31 y32 y33 y34 (fun y35 y36 y37 => rc y35 y36 y37))) else (if ((y0 == (27 : Int)) = true) then (pack_pieces_28 N x0 y0 ((y0 == (27 : Int))) x2 y0 y1 y2 y0 y1 y2 x1 v0 (-1) (fun y38 y39 y40 y41 y42 y43 y44 y45 => pack_pieces_34 N y38 y39 y40 y41 y42 y43 y44 y45 (fun y46 y47 y48 => rc y46 y47 y48))) else (pack_pieces_28 N x0 y0 ((y0 == (29 : Int))) x2 y0 y1 y2 y0 y1 y2 x1 v0 (-1) (fun y49 y50 y51 y52 y53 y54 y55 y56 => pack_pieces_34 N y49 y50 y51 y52 y53 y54 y55 y56 (fun y57 y58 y59 => rc y57 y58 y59))))))))) else (K1 x2)
noncomputable def pack_pieces_7 {R : Type} (N : Nat) : Nat → A_pack_pieces_7 R
  | 0 => fun _ _ _ _ _ => none
  | k + 1 => fun x0 x1 x2 K0 K1 => pack_pieces_7_b @pack_At @pack_pieces_28 @pack_pieces_34 N (fun x0 x1 x2 => pack_pieces_7 N k x0 x1 x2 K0 K1) x0 x1 x2 K0 K1
noncomputable def H_pack_pieces_7 (pack_pieces_7 : T_pack_pieces_7) (N k : Nat) : Typed p_pack_pieces_7 := fun R x K => pack_pieces_7 N k x.1.1 x.1.2.2.1 x.2.1 (fun y0 y1 => K .ret (encS o_pack_pieces_7_0 (((), y0, ()), (y1, ())))) (fun y0 => K (.exit 0) (encS o_pack_pieces_7_1 (((), ()), (y0, ()))))
noncomputable def g_pack_pieces_7 (N k : Nat) : Typed p_pack_pieces_7 := H_pack_pieces_7 @pack_pieces_7 N k
noncomputable def p_pack_pieces : SPat := ⟨[(0, .one (.val (.list (.int .u8))))], []⟩
noncomputable def q_pack_pieces_0 : SPat := ⟨[(0, .one (.slf 32)), (1, .one (.val .bool))], [(32, .row 143 z5)]⟩
@[reducible] def A_pack_pieces (R : Type) : Type := d0 → (Bool → d6 → Option R) → Option R
@[reducible] def T_pack_pieces : Type 1 := {R : Type} → Nat → A_pack_pieces R
noncomputable def pack_pieces_b (pack_pieces_7 : T_pack_pieces_7) : T_pack_pieces := fun {R} N x0 K0 =>
    pack_pieces_7 N N x0 0 (([] : List ((Int × Int × Int) × Int × Int × Int))) (fun y0 y1 => K0 y0 y1) (fun y2 => K0 true y2)
noncomputable def pack_pieces : T_pack_pieces := @pack_pieces_b @pack_pieces_7
noncomputable def g_pack_pieces (N : Nat) : TypedM p_pack_pieces [q_pack_pieces_0] := fun R x C => pack_pieces N x.1.1 (fun y0 y1 => C.1 (((), y0, ()), (y1, ())))
noncomputable def S_pack_pieces (pack_pieces : T_pack_pieces) (N : Nat) : Go.AX.Spec := specM [true] [] false 1 0 p_pack_pieces [q_pack_pieces_0] (fun R x C => pack_pieces N x.1.1 (fun y0 y1 => C.1 (((), y0, ()), (y1, ()))))
noncomputable def s_pack_pieces (N : Nat) : Go.AX.Spec := S_pack_pieces @pack_pieces N
noncomputable def L_pack_pieces (N : Nat) : List (Nat × Frag) := [(28, fragOf p_pack_pieces_28 (g_pack_pieces_28 N)), (34, fragOf p_pack_pieces_34 (g_pack_pieces_34 N)), (7, fragOf p_pack_pieces_7 (g_pack_pieces_7 N N))]
noncomputable def G_pack_pieces (N : Nat) : List (Nat × Go.AX.Spec) := [(12, s_pack_At N)]
noncomputable def b_pack_ops : Code := Go.Proofs.Try.f96.body.getD .skip
noncomputable def p_pack_ops_9 : SPat := ⟨[(0, .one (.val z6)), (5, .one (.mp 32)), (6, .one (.mp 33)), (17, .one (.val z6)), (18, .one (.val (.int .i64))), (19, .one (.val (.int .i64)))], [(32, .amap 144 (.int .i64) .bool), (33, .amap 82 (.int .i64) (.int .i64))]⟩
noncomputable def o_pack_ops_9_0 : SPat := ⟨[(0, .one (.val z6)), (5, .one (.mp 32)), (6, .one (.mp 33))], [(32, .amap 144 (.int .i64) .bool), (33, .amap 82 (.int .i64) (.int .i64))]⟩
noncomputable def o_pack_ops_9 : Outs := .cons (.exit 0) o_pack_ops_9_0 (.nil)
@[reducible] def A_pack_ops_9 (R : Type) : Type := d6 → d6 → Int → Int → d3 → d2 → (d6 → d3 → d2 → Option R) → Option R
@[reducible] def B_pack_ops_9 (R : Type) : Type := d6 → d6 → Int → Int → d3 → d2 → Option R
@[reducible] def T_pack_ops_9 : Type 1 := {R : Type} → Nat → Nat → A_pack_ops_9 R
noncomputable def pack_ops_9_b {R : Type} (N : Nat) (rc : B_pack_ops_9 R) : A_pack_ops_9 R := fun x0 x1 x2 x3 x4 x5 K0 =>
    if ((decide ((x3 < x2))) = true) then (if (((0 : Int) ≤ x3) ∧ (x3 < (len x1))) then (let v0 := (List.getD x1 (Int.toNat x3) (((0 : Int), ((0 : Int), (0 : Int))), ((0 : Int), ((0 : Int), (0 : Int))))).2.2.2; let v1 := (mset (kt := (.int .i64)) (et := .bool) (List.getD x1 (Int.toNat x3) (((0 : Int), ((0 : Int), (0 : Int))), ((0 : Int), ((0 : Int), (0 : Int))))).2.1 true x4); if ((decide ((v0 ≥ (0 : Int)))) = true) then (rc x0 x1 x2 ((wi (x3 + (1 : Int)))) v1 ((mset (kt := (.int .i64)) (et := (.int .i64)) v0 (-1 : Int) x5))) else (rc x0 x1 x2 ((wi (x3 + (1 : Int)))) v1 x5)) else none) else (K0 x0 x4 x5)
noncomputable def pack_ops_9 {R : Type} (N : Nat) : Nat → A_pack_ops_9 R
  | 0 => fun _ _ _ _ _ _ _ => none
  | k + 1 => fun x0 x1 x2 x3 x4 x5 K0 => pack_ops_9_b N (fun x0 x1 x2 x3 x4 x5 => pack_ops_9 N k x0 x1 x2 x3 x4 x5 K0) x0 x1 x2 x3 x4 x5 K0
noncomputable def H_pack_ops_9 (pack_ops_9 : T_pack_ops_9) (N k : Nat) : Typed p_pack_ops_9 := fun R x K => pack_ops_9 N k x.1.1 x.1.2.2.2.1 x.1.2.2.2.2.1 x.1.2.2.2.2.2.1 x.2.1 x.2.2.1 (fun y0 y1 y2 => K (.exit 0) (encS o_pack_ops_9_0 ((y0, (), (), ()), (y1, y2, ()))))
noncomputable def g_pack_ops_9 (N k : Nat) : Typed p_pack_ops_9 := H_pack_ops_9 @pack_ops_9 N k
noncomputable def p_pack_ops_25 : SPat := ⟨[(0, .one (.val z6)), (5, .one (.mp 32)), (6, .one (.mp 33)), (9, .one (.val (.int .i64))), (33, .one (.val z6)), (34, .one (.val (.int .i64))), (35, .one (.val (.int .i64)))], [(32, .amap 144 (.int .i64) .bool), (33, .amap 82 (.int .i64) (.int .i64))]⟩
noncomputable def o_pack_ops_25_0 : SPat := ⟨[(0, .one (.val z6)), (5, .one (.mp 32)), (6, .one (.mp 33)), (9, .one (.val (.int .i64)))], [(32, .amap 144 (.int .i64) .bool), (33, .amap 82 (.int .i64) (.int .i64))]⟩
noncomputable def o_pack_ops_25 : Outs := .cons (.exit 2) o_pack_ops_25_0 (.nil)
@[reducible] def A_pack_ops_25 (R : Type) : Type := d6 → Int → d6 → Int → Int → d3 → d2 → (d6 → Int → d3 → d2 → Option R) → Option R
@[reducible] def B_pack_ops_25 (R : Type) : Type := d6 → Int → d6 → Int → Int → d3 → d2 → Option R
@[reducible] def T_pack_ops_25 : Type 1 := {R : Type} → Nat → Nat → A_pack_ops_25 R
noncomputable def pack_ops_25_b {R : Type} (N : Nat) (rc : B_pack_ops_25 R) : A_pack_ops_25 R := fun x0 x1 x2 x3 x4 x5 x6 K0 =>
    if ((decide ((x4 < x3))) = true) then (if (((0 : Int) ≤ x4) ∧ (x4 < (len x2))) then (let v0 := (List.getD x2 (Int.toNat x4) (((0 : Int), ((0 : Int), (0 : Int))), ((0 : Int), ((0 : Int), (0 : Int))))).2.1; if (((Option.getD (mget (kt := (.int .i64)) (et := (.int .i64)) v0 x6) (0 : Int)) == (-1 : Int)) = true) then (let v1 := (wi (x1 + (1 : Int))); rc x0 v1 x2 x3 ((wi (x4 + (1 : Int)))) x5 ((mset (kt := (.int .i64)) (et := (.int .i64)) v0 v1 x6))) else (rc x0 x1 x2 x3 ((wi (x4 + (1 : Int)))) x5 x6)) else none) else (K0 x0 x1 x5 x6)
noncomputable def pack_ops_25 {R : Type} (N : Nat) : Nat → A_pack_ops_25 R
  | 0 => fun _ _ _ _ _ _ _ _ => none
  | k + 1 => fun x0 x1 x2 x3 x4 x5 x6 K0 => pack_ops_25_b N (fun x0 x1 x2 x3 x4 x5 x6 => pack_ops_25 N k x0 x1 x2 x3 x4 x5 x6 K0) x0 x1 x2 x3 x4 x5 x6 K0
noncomputable def H_pack_ops_25 (pack_ops_25 : T_pack_ops_25) (N k : Nat) : Typed p_pack_ops_25 := fun R x K => pack_ops_25 N k x.1.1 x.1.2.2.2.1 x.1.2.2.2.2.1 x.1.2.2.2.2.2.1 x.1.2.2.2.2.2.2.1 x.2.1 x.2.2.1 (fun y0 y1 y2 y3 => K (.exit 2) (encS o_pack_ops_25_0 ((y0, (), (), y1, ()), (y2, y3, ()))))
noncomputable def g_pack_ops_25 (N k : Nat) : Typed p_pack_ops_25 := H_pack_ops_25 @pack_ops_25 N k
noncomputable def p_pack_ops_60 : SPat := ⟨[(5, .one (.mp 32)), (6, .one (.mp 33)), (9, .one (.val (.int .i64))), (12, .one (.slf 34)), (14, .one (.ptr 35)), (51, .one (.val z6)), (52, .one (.val (.int .i64))), (53, .one (.val (.int .i64)))], [(32, .amap 144 (.int .i64) .bool), (33, .amap 82 (.int .i64) (.int .i64)), (34, .row 24 z2), (35, .cells 143 [(.val (.int .i64)), (.val (.int .i64)), (.val (.int .i64)), (.val (.int .i64)), (.val (.int .i64)), (.val (.int .i64))])]⟩
noncomputable def o_pack_ops_60_0 : SPat := ⟨[(5, .one (.mp 32)), (6, .one (.mp 33)), (9, .one (.val (.int .i64))), (12, .one (.slf 34)), (51, .one (.val z6)), (52, .one (.val (.int .i64))), (53, .one (.val (.int .i64)))], [(32, .amap 144 (.int .i64) .bool), (33, .amap 82 (.int .i64) (.int .i64)), (34, .row 24 z2)]⟩
noncomputable def o_pack_ops_60 : Outs := .cons .normal o_pack_ops_60_0 (.nil)
@[reducible] def A_pack_ops_60 (R : Type) : Type := Int → d6 → Int → Int → d3 → d2 → d4 → Int → Int → Int → Int → Int → Int → (Int → d6 → Int → Int → d3 → d2 → d4 → Option R) → Option R
@[reducible] def T_pack_ops_60 : Type 1 := {R : Type} → Nat → A_pack_ops_60 R
noncomputable def pack_ops_60 : T_pack_ops_60 := fun {R} N x0 x1 x2 x3 x4 x5 x6 x7 x8 x9 x10 x11 x12 K0 =>
    if ((((List.length x6) + (List.length ((x7, (x8, x9)) :: ([] : List (Int × Int × Int))))) * (24 : Nat)) ≤ (70368744177664 : Nat)) then (K0 x0 x1 x2 x3 x4 x5 ((x6 ++ ((x7, (x8, x9)) :: ([] : List (Int × Int × Int)))))) else none
noncomputable def H_pack_ops_60 (pack_ops_60 : T_pack_ops_60) (N : Nat) : Typed p_pack_ops_60 := fun R x K => pack_ops_60 N x.1.2.2.1 x.1.2.2.2.2.2.1 x.1.2.2.2.2.2.2.1 x.1.2.2.2.2.2.2.2.1 x.2.1 x.2.2.1 x.2.2.2.1 x.2.2.2.2.1.1 x.2.2.2.2.1.2.1 x.2.2.2.2.1.2.2.1 x.2.2.2.2.1.2.2.2.1 x.2.2.2.2.1.2.2.2.2.1 x.2.2.2.2.1.2.2.2.2.2.1 (fun y0 y1 y2 y3 y4 y5 y6 => K .normal (encS o_pack_ops_60_0 (((), (), y0, (), y1, y2, y3, ()), (y4, y5, y6, ()))))
noncomputable def g_pack_ops_60 (N : Nat) : Typed p_pack_ops_60 := H_pack_ops_60 @pack_ops_60 N
noncomputable def p_pack_ops_48 : SPat := ⟨[(5, .one (.mp 32)), (6, .one (.mp 33)), (9, .one (.val (.int .i64))), (12, .one (.slf 34)), (14, .one (.ptr 35)), (51, .one (.val z6)), (52, .one (.val (.int .i64))), (53, .one (.val (.int .i64)))], [(32, .amap 144 (.int .i64) .bool), (33, .amap 82 (.int .i64) (.int .i64)), (34, .row 24 z2), (35, .cells 143 [(.val (.int .i64)), (.val (.int .i64)), (.val (.int .i64)), (.val (.int .i64)), (.val (.int .i64)), (.val (.int .i64))])]⟩
noncomputable def o_pack_ops_48_0 : SPat := ⟨[(2, .one (.slf 32)), (3, .one (.val (.int .i64))), (4, .one (.val .bool))], [(32, .row 24 z2)]⟩
noncomputable def o_pack_ops_48_1 : SPat := ⟨[(5, .one (.mp 32)), (6, .one (.mp 33)), (9, .one (.val (.int .i64))), (12, .one (.slf 34)), (51, .one (.val z6)), (52, .one (.val (.int .i64))), (53, .one (.val (.int .i64)))], [(32, .amap 144 (.int .i64) .bool), (33, .amap 82 (.int .i64) (.int .i64)), (34, .row 24 z2)]⟩
noncomputable def o_pack_ops_48 : Outs := .cons .ret o_pack_ops_48_0 (.cons .normal o_pack_ops_48_1 (.nil))
@[reducible] def A_pack_ops_48 (R : Type) : Type := Int → d6 → Int → Int → d3 → d2 → d4 → Int → Int → Int → Int → Int → Int → (Int → Bool → d4 → Option R) → (Int → d6 → Int → Int → d3 → d2 → d4 → Option R) → Option R
@[reducible] def T_pack_ops_48 : Type 1 := {R : Type} → Nat → A_pack_ops_48 R
noncomputable def pack_ops_48_b (pack_ops_60 : T_pack_ops_60) : T_pack_ops_48 := fun {R} N x0 x1 x2 x3 x4 x5 x6 x7 x8 x9 x10 x11 x12 K0 K1 =>
    if ((decide ((x12 ≥ (0 : Int)))) = true) then (if ((!(Option.getD (mget (kt := (.int .i64)) (et := .bool) x12 x4) false)) = true) then (K0 0 false (([] : List (Int × Int × Int)))) else (if ((x7 == (30 : Int)) = true) then (pack_ops_60 N x0 x1 x2 x3 x4 x5 x6 x7 x8 ((Option.getD (mget (kt := (.int .i64)) (et := (.int .i64)) x12 x5) (0 : Int))) x10 x11 x12 (fun y0 y1 y2 y3 y4 y5 y6 => K1 y0 y1 y2 y3 y4 y5 y6)) else (if ((decide ((x12 ≥ (0 : Int)))) = true) then (pack_ops_60 N x0 x1 x2 x3 x4 x5 x6 x7 ((Option.getD (mget (kt := (.int .i64)) (et := (.int .i64)) x12 x5) (0 : Int))) x9 x10 x11 x12 (fun y7 y8 y9 y10 y11 y12 y13 => K1 y7 y8 y9 y10 y11 y12 y13)) else (pack_ops_60 N x0 x1 x2 x3 x4 x5 x6 x7 x8 x9 x10 x11 x12 (fun y14 y15 y16 y17 y18 y19 y20 => K1 y14 y15 y16 y17 y18 y19 y20))))) else (if ((x7 == (30 : Int)) = true) then (pack_ops_60 N x0 x1 x2 x3 x4 x5 x6 x7 x8 ((Option.getD (mget (kt := (.int .i64)) (et := (.int .i64)) x12 x5) (0 : Int))) x10 x11 x12 (fun y21 y22 y23 y24 y25 y26 y27 => K1 y21 y22 y23 y24 y25 y26 y27)) else (if ((decide ((x12 ≥ (0 : Int)))) = true) then (pack_ops_60 N x0 x1 x2 x3 x4 x5 x6 x7 ((Option.getD (mget (kt := (.int .i64)) (et := (.int .i64)) x12 x5) (0 : Int))) x9 x10 x11 x12 (fun y28 y29 y30 y31 y32 y33 y34 => K1 y28 y29 y30 y31 y32 y33 y34)) else (pack_ops_60 N x0 x1 x2 x3 x4 x5 x6 x7 x8 x9 x10 x11 x12 (fun y35 y36 y37 y38 y39 y40 y41 => K1 y35 y36 y37 y38 y39 y40 y41))))
noncomputable def pack_ops_48 : T_pack_ops_48 := @pack_ops_48_b @pack_ops_60
noncomputable def H_pack_ops_48 (pack_ops_48 : T_pack_ops_48) (N : Nat) : Typed p_pack_ops_48 := fun R x K => pack_ops_48 N x.1.2.2.1 x.1.2.2.2.2.2.1 x.1.2.2.2.2.2.2.1 x.1.2.2.2.2.2.2.2.1 x.2.1 x.2.2.1 x.2.2.2.1 x.2.2.2.2.1.1 x.2.2.2.2.1.2.1 x.2.2.2.2.1.2.2.1 x.2.2.2.2.1.2.2.2.1 x.2.2.2.2.1.2.2.2.2.1 x.2.2.2.2.1.2.2.2.2.2.1 (fun y0 y1 y2 => K .ret (encS o_pack_ops_48_0 (((), y0, y1, ()), (y2, ())))) (fun y0 y1 y2 y3 y4 y5 y6 => K .normal (encS o_pack_ops_48_1 (((), (), y0, (), y1, y2, y3, ()), (y4, y5, y6, ()))))
noncomputable def g_pack_ops_48 (N : Nat) : Typed p_pack_ops_48 := H_pack_ops_48 @pack_ops_48 N
noncomputable def p_pack_ops_41 : SPat := ⟨[(5, .one (.mp 32)), (6, .one (.mp 33)), (9, .one (.val (.int .i64))), (12, .one (.slf 34)), (51, .one (.val z6)), (52, .one (.val (.int .i64))), (53, .one (.val (.int .i64)))], [(32, .amap 144 (.int .i64) .bool), (33, .amap 82 (.int .i64) (.int .i64)), (34, .row 24 z2)]⟩
noncomputable def o_pack_ops_41_0 : SPat := ⟨[(2, .one (.slf 32)), (3, .one (.val (.int .i64))), (4, .one (.val .bool))], [(32, .row 24 z2)]⟩
noncomputable def o_pack_ops_41_1 : SPat := ⟨[(9, .one (.val (.int .i64))), (12, .one (.slf 32))], [(32, .row 24 z2)]⟩
noncomputable def o_pack_ops_41 : Outs := .cons .ret o_pack_ops_41_0 (.cons (.exit 4) o_pack_ops_41_1 (.nil))
@[reducible] def A_pack_ops_41 (R : Type) : Type := Int → d6 → Int → Int → d3 → d2 → d4 → (Int → Bool → d4 → Option R) → (Int → d4 → Option R) → Option R
@[reducible] def B_pack_ops_41 (R : Type) : Type := Int → d6 → Int → Int → d3 → d2 → d4 → Option R
@[reducible] def T_pack_ops_41 : Type 1 := {R : Type} → Nat → Nat → A_pack_ops_41 R
noncomputable def pack_ops_41_b (pack_ops_48 : T_pack_ops_48) {R : Type} (N : Nat) (rc : B_pack_ops_41 R) : A_pack_ops_41 R := fun x0 x1 x2 x3 x4 x5 x6 K0 K1 =>
    if ((decide ((x3 < x2))) = true) then (if (((0 : Int) ≤ x3) ∧ (x3 < (len x1))) then (let v0 := (List.getD x1 (Int.toNat x3) (((0 : Int), ((0 : Int), (0 : Int))), ((0 : Int), ((0 : Int), (0 : Int))))).1.1; let v1 := (List.getD x1 (Int.toNat x3) (((0 : Int), ((0 : Int), (0 : Int))), ((0 : Int), ((0 : Int), (0 : Int))))).1.2.1; let v2 := (List.getD x1 (Int.toNat x3) (((0 : Int), ((0 : Int), (0 : Int))), ((0 : Int), ((0 : Int), (0 : Int))))).1.2.2; let v3 := (List.getD x1 (Int.toNat x3) (((0 : Int), ((0 : Int), (0 : Int))), ((0 : Int), ((0 : Int), (0 : Int))))).2.1; let v4 := (List.getD x1 (Int.toNat x3) (((0 : Int), ((0 : Int), (0 : Int))), ((0 : Int), ((0 : Int), (0 : Int))))).2.2.1; let v5 := (List.getD x1 (Int.toNat x3) (((0 : Int), ((0 : Int), (0 : Int))), ((0 : Int), ((0 : Int), (0 : Int))))).2.2.2; let v6 := (Option.getD (mget (kt := (.int .i64)) (et := (.int .i64)) v3 x5) (0 : Int)); if ((decide ((v6 > (0 : Int)))) = true) then (if ((((List.length x6) + (List.length (((19 : Int), (v6, (0 : Int))) :: ([] : List (Int × Int × Int))))) * (24 : Nat)) ≤ (70368744177664 : Nat)) then (pack_ops_48 N x0 x1 x2 x3 x4 x5 ((x6 ++ (((19 : Int), (v6, (0 : Int))) :: ([] : List (Int × Int × Int))))) v0 v1 v2 v3 v4 v5 (fun y0 y1 y2 => K0 y0 y1 y2) (fun y3 y4 y5 y6 y7 y8 y9 => rc y3 y4 y5 ((wi (y6 + (1 : Int)))) y7 y8 y9)) else none) else (pack_ops_48 N x0 x1 x2 x3 x4 x5 x6 v0 v1 v2 v3 v4 v5 (fun y10 y11 y12 => K0 y10 y11 y12) (fun y13 y14 y15 y16 y17 y18 y19 => rc y13 y14 y15 ((wi (y16 + (1 : Int)))) y17 y18 y19))) else none) else (K1 x0 x6)
noncomputable def pack_ops_41 {R : Type} (N : Nat) : Nat → A_pack_ops_41 R
  | 0 => fun _ _ _ _ _ _ _ _ _ => none
  | k + 1 => fun x0 x1 x2 x3 x4 x5 x6 K0 K1 => pack_ops_41_b @pack_ops_48 N (fun x0 x1 x2 x3 x4 x5 x6 => pack_ops_41 N k x0 x1 x2 x3 x4 x5 x6 K0 K1) x0 x1 x2 x3 x4 x5 x6 K0 K1
noncomputable def H_pack_ops_41 (pack_ops_41 : T_pack_ops_41) (N k : Nat) : Typed p_pack_ops_41 := fun R x K => pack_ops_41 N k x.1.2.2.1 x.1.2.2.2.2.1 x.1.2.2.2.2.2.1 x.1.2.2.2.2.2.2.1 x.2.1 x.2.2.1 x.2.2.2.1 (fun y0 y1 y2 => K .ret (encS o_pack_ops_41_0 (((), y0, y1, ()), (y2, ())))) (fun y0 y1 => K (.exit 4) (encS o_pack_ops_41_1 ((y0, (), ()), (y1, ()))))
noncomputable def g_pack_ops_41 (N k : Nat) : Typed p_pack_ops_41 := H_pack_ops_41 @pack_ops_41 N k
noncomputable def p_pack_ops : SPat := ⟨[(0, .one (.val z6))], []⟩
noncomputable def q_pack_ops_0 : SPat := ⟨[(0, .one (.slf 32)), (1, .one (.val (.int .i64))), (2, .one (.val .bool))], [(32, .row 24 z2)]⟩
@[reducible] def A_pack_ops (R : Type) : Type := d6 → (Int → Bool → d4 → Option R) → Option R
@[reducible] def T_pack_ops : Type 1 := {R : Type} → Nat → A_pack_ops R
noncomputable def pack_ops_b (pack_ops_9 : T_pack_ops_9) (pack_ops_25 : T_pack_ops_25) (pack_ops_41 : T_pack_ops_41) : T_pack_ops := fun {R} N x0 K0 =>
    pack_ops_9 N N x0 x0 ((len x0)) 0 (([] : List (Int × Bool))) (([] : List (Int × Int))) (fun y0 y1 y2 => pack_ops_25 N N y0 0 y0 ((len y0)) 0 y1 y2 (fun y3 y4 y5 y6 => pack_ops_41 N N y4 y3 ((len y3)) 0 y5 y6 (([] : List (Int × Int × Int))) (fun y7 y8 y9 => K0 y7 y8 y9) (fun y10 y11 => K0 y10 true y11)))
noncomputable def pack_ops : T_pack_ops := @pack_ops_b @pack_ops_9 @pack_ops_25 @pack_ops_41
noncomputable def g_pack_ops (N : Nat) : TypedM p_pack_ops [q_pack_ops_0] := fun R x C => pack_ops N x.1.1 (fun y0 y1 y2 => C.1 (((), y0, y1, ()), (y2, ())))
noncomputable def S_pack_ops (pack_ops : T_pack_ops) (N : Nat) : Go.AX.Spec := specM [true] [] false 1 0 p_pack_ops [q_pack_ops_0] (fun R x C => pack_ops N x.1.1 (fun y0 y1 y2 => C.1 (((), y0, y1, ()), (y2, ()))))
noncomputable def s_pack_ops (N : Nat) : Go.AX.Spec := S_pack_ops @pack_ops N
noncomputable def L_pack_ops (N : Nat) : List (Nat × Frag) := [(9, fragOf p_pack_ops_9 (g_pack_ops_9 N N)), (25, fragOf p_pack_ops_25 (g_pack_ops_25 N N)), (60, fragOf p_pack_ops_60 (g_pack_ops_60 N)), (48, fragOf p_pack_ops_48 (g_pack_ops_48 N)), (41, fragOf p_pack_ops_41 (g_pack_ops_41 N N))]
noncomputable def G_pack_ops (N : Nat) : List (Nat × Go.AX.Spec) := []
noncomputable def p_pack_unpack_71 : SPat := ⟨[(2, .one (.ptr 32)), (6, .one (.ptr 33)), (7, .one (.ptr 34)), (10, .one (.val (.int .i64))), (12, .one (.val .bool)), (130, .one (.slf 35)), (131, .one (.val (.int .i64))), (132, .one (.val (.int .i64)))], [(32, .cells 34 [(.val .str), (.slf 36), (.slf 37), (.slf 38), (.val (.int .i64)), (.val (.int .i64))]), (33, .cells 59 [(.val (.list (.int .u8))), (.val (.int .i64)), (.val .bool)]), (34, .cells 34 [(.val .str), (.slf 39), (.slf 35), (.slf 40), (.val (.int .i64)), (.val (.int .i64))]), (35, .row 24 z2), (36, .row 73 (.pair .str (.pair .bool (.list (.int .i64))))), (37, .row 24 z2), (38, .row 75 z0), (39, .row 73 (.pair .str (.pair .bool (.list (.int .i64))))), (40, .row 75 z0)]⟩
noncomputable def o_pack_unpack_71_0 : SPat := ⟨[(2, .one (.ptr 32)), (6, .one (.ptr 33)), (7, .one (.ptr 34)), (10, .one (.val (.int .i64))), (12, .one (.val .bool))], [(32, .cells 34 [(.val .str), (.slf 35), (.slf 36), (.slf 37), (.val (.int .i64)), (.val (.int .i64))]), (33, .cells 59 [(.val (.list (.int .u8))), (.val (.int .i64)), (.val .bool)]), (34, .cells 34 [(.val .str), (.slf 38), (.slf 39), (.slf 40), (.val (.int .i64)), (.val (.int .i64))]), (35, .row 73 (.pair .str (.pair .bool (.list (.int .i64))))), (36, .row 24 z2), (37, .row 75 z0), (38, .row 73 (.pair .str (.pair .bool (.list (.int .i64))))), (39, .row 24 z2), (40, .row 75 z0)]⟩
noncomputable def o_pack_unpack_71 : Outs := .cons (.exit 7) o_pack_unpack_71_0 (.nil)
@[reducible] def A_pack_unpack_71 (R : Type) : Type := Int → Bool → Int → Int → (List UInt8) → Int → Int → d0 → Int → Bool → (List UInt8) → Int → Int → d4 → d5 → d4 → d1 → d5 → d1 → (Int → Bool → (List UInt8) → Int → Int → d0 → Int → Bool → (List UInt8) → Int → Int → d5 → d4 → d1 → d5 → d4 → d1 → Option R) → Option R
@[reducible] def B_pack_unpack_71 (R : Type) : Type := Int → Bool → Int → Int → (List UInt8) → Int → Int → d0 → Int → Bool → (List UInt8) → Int → Int → d4 → d5 → d4 → d1 → d5 → d1 → Option R
@[reducible] def T_pack_unpack_71 : Type 1 := {R : Type} → Nat → Nat → A_pack_unpack_71 R
noncomputable def pack_unpack_71_b {R : Type} (N : Nat) (rc : B_pack_unpack_71 R) : A_pack_unpack_71 R := fun x0 x1 x2 x3 x4 x5 x6 x7 x8 x9 x10 x11 x12 x13 x14 x15 x16 x17 x18 K0 =>
    if ((decide ((x3 < x2))) = true) then (if (((0 : Int) ≤ x3) ∧ (x3 < (len x13))) then (if (((List.getD x13 (Int.toNat x3) ((0 : Int), ((0 : Int), (0 : Int)))).1 == (24 : Int)) = true) then (rc x0 x1 x2 ((wi (x3 + (1 : Int)))) x4 x5 x6 x7 x8 x9 x10 ((wi (x11 + (1 : Int)))) x12 x13 x14 x15 x16 x17 x18) else (rc x0 x1 x2 ((wi (x3 + (1 : Int)))) x4 x5 x6 x7 x8 x9 x10 x11 x12 x13 x14 x15 x16 x17 x18)) else none) else (K0 x0 x1 x4 x5 x6 x7 x8 x9 x10 x11 x12 x14 x15 x16 x17 x13 x18)
noncomputable def pack_unpack_71 {R : Type} (N : Nat) : Nat → A_pack_unpack_71 R
  | 0 => fun _ _ _ _ _ _ _ _ _ _ _ _ _ _ _ _ _ _ _ _ => none
  | k + 1 => fun x0 x1 x2 x3 x4 x5 x6 x7 x8 x9 x10 x11 x12 x13 x14 x15 x16 x17 x18 K0 => pack_unpack_71_b N (fun x0 x1 x2 x3 x4 x5 x6 x7 x8 x9 x10 x11 x12 x13 x14 x15 x16 x17 x18 => pack_unpack_71 N k x0 x1 x2 x3 x4 x5 x6 x7 x8 x9 x10 x11 x12 x13 x14 x15 x16 x17 x18 K0) x0 x1 x2 x3 x4 x5 x6 x7 x8 x9 x10 x11 x12 x13 x14 x15 x16 x17 x18 K0
noncomputable def H_pack_unpack_71 (pack_unpack_71 : T_pack_unpack_71) (N k : Nat) : Typed p_pack_unpack_71 := fun R x K => pack_unpack_71 N k x.1.2.2.2.1 x.1.2.2.2.2.1 x.1.2.2.2.2.2.2.1 x.1.2.2.2.2.2.2.2.1 x.2.1.1 x.2.1.2.2.2.2.1 x.2.1.2.2.2.2.2.1 x.2.2.1.1 x.2.2.1.2.1 x.2.2.1.2.2.1 x.2.2.2.1.1 x.2.2.2.1.2.2.2.2.1 x.2.2.2.1.2.2.2.2.2.1 x.2.2.2.2.1 x.2.2.2.2.2.1 x.2.2.2.2.2.2.1 x.2.2.2.2.2.2.2.1 x.2.2.2.2.2.2.2.2.1 x.2.2.2.2.2.2.2.2.2.1 (fun y0 y1 y2 y3 y4 y5 y6 y7 y8 y9 y10 y11 y12 y13 y14 y15 y16 => K (.exit 7) (encS o_pack_unpack_71_0 (((), (), (), y0, y1, ()), ((y2, (), (), (), y3, y4, ()), (y5, y6, y7, ()), (y8, (), (), (), y9, y10, ()), y11, y12, y13, y14, y15, y16, ()))))
noncomputable def g_pack_unpack_71 (N k : Nat) : Typed p_pack_unpack_71 := H_pack_unpack_71 @pack_unpack_71 N k
noncomputable def p_pack_unpack : SPat := ⟨[(0, .one (.val (.list (.int .u8))))], []⟩
noncomputable def q_pack_unpack_0 : SPat := ⟨[(0, .agg [(.val .str), (.slf 32), (.slf 33), (.slf 34), (.val (.int .i64)), (.val (.int .i64))]), (1, .one (.val (.int .i64))), (2, .one (.val (.int .i64))), (3, .one (.val .bool))], [(32, .row 73 (.pair .str (.pair .bool (.list (.int .i64))))), (33, .row 24 z2), (34, .row 75 z0)]⟩
@[reducible] def A_pack_unpack (R : Type) : Type := d0 → ((List UInt8) → Int → Int → Int → Int → Bool → d5 → d4 → d1 → Option R) → Option R
@[reducible] def T_pack_unpack : Type 1 := {R : Type} → Nat → A_pack_unpack R
noncomputable def pack_unpack_b (pack_reader_num : T_pack_reader_num) (pack_reader_text : T_pack_reader_text) (pack_unpack_15 : T_pack_unpack_15) (pack_unpack_47 : T_pack_unpack_47) (pack_pieces : T_pack_pieces) (pack_ops : T_pack_ops) (pack_unpack_71 : T_pack_unpack_71) : T_pack_unpack := fun {R} N x0 K0 =>
    let v0 := (wi ((len x0) - (4 : Int))); if (((0 : Int) ≤ v0) ∧ (v0 ≤ (len x0))) then (if (((0 : Int) ≤ (0 : Int)) ∧ ((0 : Int) ≤ v0)) then (pack_reader_num N 3 ((List.drop (0 : Nat) (List.take (Int.toNat v0) x0))) 0 false (fun y0 y1 y2 y3 => if ((y0 != (6447617 : Int)) = true) then (K0 (([] : List UInt8)) 0 0 0 0 false (([] : List (List UInt8 × Bool × List Int))) (([] : List (Int × Int × Int))) (([] : List (Int × Int)))) else (pack_reader_text N y1 y2 y3 (fun y4 y5 y6 y7 => pack_reader_num N 2 y5 y6 y7 (fun y8 y9 y10 y11 => pack_unpack_15 N N y8 0 (([] : List UInt8)) 0 0 y9 y10 y11 y4 0 0 (([] : List (List UInt8 × Bool × List Int))) (([] : List (Int × Int × Int))) (([] : List (Int × Int))) (([] : List (List UInt8 × Bool × List Int))) (([] : List (Int × Int × Int))) (([] : List (Int × Int))) (fun y12 y13 y14 y15 y16 y17 y18 y19 y20 => K0 y15 y16 y17 y12 y13 y14 y18 y19 y20) (fun y21 y22 y23 y24 y25 y26 y27 y28 y29 y30 y31 y32 y33 y34 y35 => pack_reader_num N 1 y24 y25 y26 (fun y36 y37 y38 y39 => pack_unpack_47 N N y36 0 y21 y22 y23 y37 y38 y39 y27 y28 y29 y30 y31 y32 y33 y34 y35 (fun y40 y41 y42 y43 y44 y45 y46 y47 y48 y49 y50 y51 y52 y53 y54 => pack_reader_num N 4 y43 y44 y45 (fun y55 y56 y57 y58 => if (y58 = true) then (K0 y46 y47 y48 0 0 false y52 y53 y54) else (if (((wi (y57 + y55)) != (len y56)) = true) then (K0 y46 y47 y48 0 0 false y52 y53 y54) else (if (((0 : Int) ≤ (len y56)) ∧ ((len y56) ≤ (len y56))) then (if (((0 : Int) ≤ y57) ∧ (y57 ≤ (len y56))) then (pack_pieces N ((List.drop (Int.toNat y57) (List.take (Int.toNat (len y56)) y56))) (fun y59 y60 => if ((!y59) = true) then (K0 y46 y47 y48 0 0 false y52 y53 y54) else (pack_ops N y60 (fun y61 y62 y63 => pack_unpack_71 N N y55 y62 ((len y63)) 0 y40 y41 y42 y56 y57 y58 y46 y47 y61 y63 y49 y50 y51 y52 y54 (fun y64 y65 y66 y67 y68 y69 y70 y71 y72 y73 y74 y75 y76 y77 y78 y79 y80 => K0 y72 y73 y74 y70 y64 y65 y78 y79 y80))))) else none) else none))))))))))) else none) else none
noncomputable def pack_unpack : T_pack_unpack := @pack_unpack_b @pack_reader_num @pack_reader_text @pack_unpack_15 @pack_unpack_47 @pack_pieces @pack_ops @pack_unpack_71
noncomputable def g_pack_unpack (N : Nat) : TypedM p_pack_unpack [q_pack_unpack_0] := fun R x C => pack_unpack N x.1.1 (fun y0 y1 y2 y3 y4 y5 y6 y7 y8 => C.1 (((y0, (), (), (), y1, y2, ()), y3, y4, y5, ()), (y6, y7, y8, ())))
noncomputable def S_pack_unpack (pack_unpack : T_pack_unpack) (N : Nat) : Go.AX.Spec := specM [true] [] false 1 0 p_pack_unpack [q_pack_unpack_0] (fun R x C => pack_unpack N x.1.1 (fun y0 y1 y2 y3 y4 y5 y6 y7 y8 => C.1 (((y0, (), (), (), y1, y2, ()), y3, y4, y5, ()), (y6, y7, y8, ()))))
noncomputable def s_pack_unpack (N : Nat) : Go.AX.Spec := S_pack_unpack @pack_unpack N
noncomputable def L_pack_unpack (N : Nat) : List (Nat × Frag) := [(36, fragOf p_pack_unpack_36 (g_pack_unpack_36 N)), (31, fragOf p_pack_unpack_31 (g_pack_unpack_31 N N)), (15, fragOf p_pack_unpack_15 (g_pack_unpack_15 N N)), (47, fragOf p_pack_unpack_47 (g_pack_unpack_47 N N)), (71, fragOf p_pack_unpack_71 (g_pack_unpack_71 N N))]
noncomputable def G_pack_unpack (N : Nat) : List (Nat × Go.AX.Spec) := [(36, s_pack_reader_num N), (94, s_pack_reader_text N), (35, s_pack_reader_signed N), (95, s_pack_pieces N), (96, s_pack_ops N)]
noncomputable def b_pack_Pack : Code := Go.Proofs.Try.f16.body.getD .skip
noncomputable def b_pack_small : Code := Go.Proofs.Try.f45.body.getD .skip
noncomputable def b_ocode_Check : Code := Go.Proofs.Try.f67.body.getD .skip
noncomputable def b_ocode_large : Code := Go.Proofs.Try.f87.body.getD .skip
noncomputable def p_ocode_large_11 : SPat := ⟨[(3, .one (.val (.int .i64))), (27, .one (.val z3)), (28, .one (.val (.int .i64))), (29, .one (.val (.int .i64)))], []⟩
noncomputable def o_ocode_large_11_0 : SPat := ⟨[(3, .one (.val (.int .i64)))], []⟩
noncomputable def o_ocode_large_11 : Outs := .cons (.exit 0) o_ocode_large_11_0 (.nil)
@[reducible] def A_ocode_large_11 (R : Type) : Type := Int → d5 → Int → Int → (Int → Option R) → Option R
@[reducible] def B_ocode_large_11 (R : Type) : Type := Int → d5 → Int → Int → Option R
@[reducible] def T_ocode_large_11 : Type 1 := {R : Type} → Nat → Nat → A_ocode_large_11 R
noncomputable def ocode_large_11_b {R : Type} (N : Nat) (rc : B_ocode_large_11 R) : A_ocode_large_11 R := fun x0 x1 x2 x3 K0 =>
    if ((decide ((x3 < x2))) = true) then (if (((0 : Int) ≤ x3) ∧ (x3 < (len x1))) then (let v0 := (wi (x0 + (((List.length (List.getD x1 (Int.toNat x3) (([] : List UInt8), (false, ([] : List Int)))).2.2) : Nat) : Int))); if ((List.getD x1 (Int.toNat x3) (([] : List UInt8), (false, ([] : List Int)))).2.1 = true) then (rc ((wi (v0 + (wi (Int.tdiv (wi ((((List.length (List.getD x1 (Int.toNat x3) (([] : List UInt8), (false, ([] : List Int)))).1) : Nat) : Int) + (2 : Int))) (2 : Int)))))) x1 x2 ((wi (x3 + (1 : Int))))) else (rc v0 x1 x2 ((wi (x3 + (1 : Int)))))) else none) else (K0 x0)
noncomputable def ocode_large_11 {R : Type} (N : Nat) : Nat → A_ocode_large_11 R
  | 0 => fun _ _ _ _ _ => none
  | k + 1 => fun x0 x1 x2 x3 K0 => ocode_large_11_b N (fun x0 x1 x2 x3 => ocode_large_11 N k x0 x1 x2 x3 K0) x0 x1 x2 x3 K0
noncomputable def H_ocode_large_11 (ocode_large_11 : T_ocode_large_11) (N k : Nat) : Typed p_ocode_large_11 := fun R x K => ocode_large_11 N k x.1.1 x.1.2.1 x.1.2.2.1 x.1.2.2.2.1 (fun y0 => K (.exit 0) (encS o_ocode_large_11_0 ((y0, ()), (()))))
noncomputable def g_ocode_large_11 (N k : Nat) : Typed p_ocode_large_11 := H_ocode_large_11 @ocode_large_11 N k
noncomputable def p_ocode_large : SPat := ⟨[(0, .agg [(.val .str), (.val z3), (.val z4), (.val z1), (.val (.int .i64)), (.val (.int .i64))])], []⟩
noncomputable def q_ocode_large_0 : SPat := ⟨[(0, .one (.val .bool))], []⟩
@[reducible] def A_ocode_large (R : Type) : Type := (List UInt8) → d5 → d4 → d1 → Int → Int → (Bool → Option R) → Option R
@[reducible] def T_ocode_large : Type 1 := {R : Type} → Nat → A_ocode_large R
noncomputable def ocode_large_b (ocode_large_11 : T_ocode_large_11) : T_ocode_large := fun {R} N x0 x1 x2 x3 x4 x5 K0 =>
    if ((decide (((len x2) > (40000 : Int)))) = true) then (K0 true) else (if ((decide (((len x1) > (2000 : Int)))) = true) then (K0 true) else (if ((decide ((x4 > (200 : Int)))) = true) then (K0 true) else (if ((decide ((x5 > (20000 : Int)))) = true) then (K0 true) else (ocode_large_11 N N 0 x1 ((len x1)) 0 (fun y0 => K0 ((decide ((y0 > (7800 : Int))))))))))
noncomputable def ocode_large : T_ocode_large := @ocode_large_b @ocode_large_11
noncomputable def g_ocode_large (N : Nat) : TypedM p_ocode_large [q_ocode_large_0] := fun R x C => ocode_large N x.1.1.1 x.1.1.2.1 x.1.1.2.2.1 x.1.1.2.2.2.1 x.1.1.2.2.2.2.1 x.1.1.2.2.2.2.2.1 (fun y0 => C.1 ((y0, ()), (())))
noncomputable def S_ocode_large (ocode_large : T_ocode_large) (N : Nat) : Go.AX.Spec := specM [true] [] false 1 0 p_ocode_large [q_ocode_large_0] (fun R x C => ocode_large N x.1.1.1 x.1.1.2.1 x.1.1.2.2.1 x.1.1.2.2.2.1 x.1.1.2.2.2.2.1 x.1.1.2.2.2.2.2.1 (fun y0 => C.1 ((y0, ()), (()))))
noncomputable def s_ocode_large (N : Nat) : Go.AX.Spec := S_ocode_large @ocode_large N
noncomputable def L_ocode_large (N : Nat) : List (Nat × Frag) := [(11, fragOf p_ocode_large_11 (g_ocode_large_11 N N))]
noncomputable def G_ocode_large (N : Nat) : List (Nat × Go.AX.Spec) := []
noncomputable def b_ocode_coded : Code := Go.Proofs.Try.f88.body.getD .skip
noncomputable def b_lex_Quote : Code := Go.Proofs.Try.f104.body.getD .skip
noncomputable def b_strings_Builder_WriteByte : Code := Go.Proofs.Try.f115.body.getD .skip
noncomputable def s_strings_Builder_copyCheck (N : Nat) : Go.AX.Spec := copyCheckSpec 147 5
noncomputable def p_strings_Builder_WriteByte : SPat := ⟨[(0, .one (.ptr 0)), (1, .one (.val (.int .u8)))], [(0, .cells 147 [(.same .nilptr), (.slf 1)]), (1, .row 5 (.int .u8))]⟩
noncomputable def q_strings_Builder_WriteByte_0 : SPat := ⟨[(0, .one (.same .nilif))], [(0, .cells 147 [(.ptr 0), (.slf 1)]), (1, .row 5 (.int .u8))]⟩
@[reducible] def A_strings_Builder_WriteByte (R : Type) : Type := Int → d0 → (d0 → Option R) → Option R
@[reducible] def T_strings_Builder_WriteByte : Type 1 := {R : Type} → Nat → A_strings_Builder_WriteByte R
noncomputable def strings_Builder_WriteByte : T_strings_Builder_WriteByte := fun {R} N x0 x1 K0 =>
    if ((((List.length x1) + (List.length (x0 :: ([] : List Int)))) * (1 : Nat)) ≤ (70368744177664 : Nat)) then (K0 ((x1 ++ (x0 :: ([] : List Int))))) else none
noncomputable def g_strings_Builder_WriteByte (N : Nat) : TypedM p_strings_Builder_WriteByte [q_strings_Builder_WriteByte_0] := fun R x C => strings_Builder_WriteByte N x.1.2.1 x.2.2.1 (fun y0 => C.1 (((), ()), (((), (), ()), y0, ())))
noncomputable def S_strings_Builder_WriteByte (strings_Builder_WriteByte : T_strings_Builder_WriteByte) (N : Nat) : Go.AX.Spec := specM [false, true] (List.replicate 32 true) true 2 2 p_strings_Builder_WriteByte [q_strings_Builder_WriteByte_0] (fun R x C => strings_Builder_WriteByte N x.1.2.1 x.2.2.1 (fun y0 => C.1 (((), ()), (((), (), ()), y0, ()))))
noncomputable def s_strings_Builder_WriteByte (N : Nat) : Go.AX.Spec := S_strings_Builder_WriteByte @strings_Builder_WriteByte N
noncomputable def L_strings_Builder_WriteByte (N : Nat) : List (Nat × Frag) := []
noncomputable def G_strings_Builder_WriteByte (N : Nat) : List (Nat × Go.AX.Spec) := [(122, s_strings_Builder_copyCheck N)]
noncomputable def s_strings_IndexByte (N : Nat) : Go.AX.Spec := indexByteSpec
noncomputable def p_strings_Builder_WriteByte_w1 : SPat := ⟨[(0, .one (.ptr 0)), (1, .one (.val (.int .u8)))], [(0, .cells 147 [(.ptr 0), (.slf 1)]), (1, .row 5 (.int .u8))]⟩
noncomputable def q_strings_Builder_WriteByte_w1_0 : SPat := ⟨[(0, .one (.same .nilif))], [(0, .cells 147 [(.ptr 0), (.slf 1)]), (1, .row 5 (.int .u8))]⟩
@[reducible] def A_strings_Builder_WriteByte_w1 (R : Type) : Type := Int → d0 → (d0 → Option R) → Option R
@[reducible] def T_strings_Builder_WriteByte_w1 : Type 1 := {R : Type} → Nat → A_strings_Builder_WriteByte_w1 R
noncomputable def strings_Builder_WriteByte_w1 : T_strings_Builder_WriteByte_w1 := fun {R} N x0 x1 K0 =>
    if ((((List.length x1) + (List.length (x0 :: ([] : List Int)))) * (1 : Nat)) ≤ (70368744177664 : Nat)) then (K0 ((x1 ++ (x0 :: ([] : List Int))))) else none
noncomputable def g_strings_Builder_WriteByte_w1 (N : Nat) : TypedM p_strings_Builder_WriteByte_w1 [q_strings_Builder_WriteByte_w1_0] := fun R x C => strings_Builder_WriteByte_w1 N x.1.2.1 x.2.2.1 (fun y0 => C.1 (((), ()), (((), (), ()), y0, ())))
noncomputable def S_strings_Builder_WriteByte_w1 (strings_Builder_WriteByte_w1 : T_strings_Builder_WriteByte_w1) (N : Nat) : Go.AX.Spec := specM [false, true] (List.replicate 32 true) true 2 2 p_strings_Builder_WriteByte_w1 [q_strings_Builder_WriteByte_w1_0] (fun R x C => strings_Builder_WriteByte_w1 N x.1.2.1 x.2.2.1 (fun y0 => C.1 (((), ()), (((), (), ()), y0, ()))))
noncomputable def s_strings_Builder_WriteByte_w1 (N : Nat) : Go.AX.Spec := S_strings_Builder_WriteByte_w1 @strings_Builder_WriteByte_w1 N
noncomputable def L_strings_Builder_WriteByte_w1 (N : Nat) : List (Nat × Frag) := []
noncomputable def G_strings_Builder_WriteByte_w1 (N : Nat) : List (Nat × Go.AX.Spec) := [(122, s_strings_Builder_copyCheck N)]
noncomputable def p_lex_Quote_9 : SPat := ⟨[(0, .one (.val .str)), (4, .one (.ptr 32)), (10, .one (.val (.int .i64))), (11, .one (.val (.int .i64)))], [(32, .cells 147 [(.ptr 32), (.slf 33)]), (33, .row 5 (.int .u8))]⟩
noncomputable def o_lex_Quote_9_0 : SPat := ⟨[(2, .one (.val .str)), (3, .one (.val (.int .i64)))], []⟩
noncomputable def o_lex_Quote_9_1 : SPat := ⟨[(0, .one (.val .str)), (4, .one (.ptr 32))], [(32, .cells 147 [(.ptr 32), (.slf 33)]), (33, .row 5 (.int .u8))]⟩
noncomputable def o_lex_Quote_9 : Outs := .cons .ret o_lex_Quote_9_0 (.cons (.exit 0) o_lex_Quote_9_1 (.nil))
@[reducible] def A_lex_Quote_9 (R : Type) : Type := (List UInt8) → Int → Int → d0 → ((List UInt8) → Int → Option R) → ((List UInt8) → d0 → Option R) → Option R
@[reducible] def B_lex_Quote_9 (R : Type) : Type := (List UInt8) → Int → Int → d0 → Option R
@[reducible] def T_lex_Quote_9 : Type 1 := {R : Type} → Nat → Nat → A_lex_Quote_9 R
noncomputable def lex_Quote_9_b (strings_Builder_WriteByte_w1 : T_strings_Builder_WriteByte_w1) {R : Type} (N : Nat) (rc : B_lex_Quote_9 R) : A_lex_Quote_9 R := fun x0 x1 x2 x3 K0 K1 =>
    if ((decide ((x2 < x1))) = true) then (if (((0 : Int) ≤ x2) ∧ (x2 < (len x0))) then (let v0 := (((UInt8.toNat (List.getD x0 (Int.toNat x2) (0 : UInt8))) : Nat) : Int); let v1 := (idxByte [(10 : UInt8), (9 : UInt8), (42 : UInt8), (34 : UInt8)] v0); if ((decide ((v1 ≥ (0 : Int)))) = true) then (strings_Builder_WriteByte_w1 N 42 x3 (fun y0 => if (((0 : Int) ≤ v1) ∧ (v1 < (4 : Int))) then (strings_Builder_WriteByte_w1 N ((((UInt8.toNat (List.getD [(110 : UInt8), (116 : UInt8), (42 : UInt8), (34 : UInt8)] (Int.toNat v1) (0 : UInt8))) : Nat) : Int)) y0 (fun y1 => rc x0 x1 ((wi (x2 + (1 : Int)))) y1)) else none)) else (if ((decide ((v0 < (32 : Int)))) = true) then (K0 (([] : List UInt8)) 3) else (if ((decide ((v0 > (126 : Int)))) = true) then (K0 (([] : List UInt8)) 3) else (strings_Builder_WriteByte_w1 N v0 x3 (fun y2 => rc x0 x1 ((wi (x2 + (1 : Int)))) y2))))) else none) else (K1 x0 x3)
noncomputable def lex_Quote_9 {R : Type} (N : Nat) : Nat → A_lex_Quote_9 R
  | 0 => fun _ _ _ _ _ _ => none
  | k + 1 => fun x0 x1 x2 x3 K0 K1 => lex_Quote_9_b @strings_Builder_WriteByte_w1 N (fun x0 x1 x2 x3 => lex_Quote_9 N k x0 x1 x2 x3 K0 K1) x0 x1 x2 x3 K0 K1
noncomputable def H_lex_Quote_9 (lex_Quote_9 : T_lex_Quote_9) (N k : Nat) : Typed p_lex_Quote_9 := fun R x K => lex_Quote_9 N k x.1.1 x.1.2.2.1 x.1.2.2.2.1 x.2.2.1 (fun y0 y1 => K .ret (encS o_lex_Quote_9_0 ((y0, y1, ()), (())))) (fun y0 y1 => K (.exit 0) (encS o_lex_Quote_9_1 ((y0, (), ()), (((), (), ()), y1, ()))))
noncomputable def g_lex_Quote_9 (N k : Nat) : Typed p_lex_Quote_9 := H_lex_Quote_9 @lex_Quote_9 N k
noncomputable def s_strings_Builder_String (N : Nat) : Go.AX.Spec := stringSpec 147 5
noncomputable def p_lex_Quote : SPat := ⟨[(0, .one (.val .str))], []⟩
noncomputable def q_lex_Quote_0 : SPat := ⟨[(0, .one (.val .str)), (1, .one (.val (.int .i64)))], []⟩
@[reducible] def A_lex_Quote (R : Type) : Type := (List UInt8) → ((List UInt8) → Int → Option R) → Option R
@[reducible] def T_lex_Quote : Type 1 := {R : Type} → Nat → A_lex_Quote R
noncomputable def lex_Quote_b (strings_Builder_WriteByte : T_strings_Builder_WriteByte) (lex_Quote_9 : T_lex_Quote_9) (strings_Builder_WriteByte_w1 : T_strings_Builder_WriteByte_w1) : T_lex_Quote := fun {R} N x0 K0 =>
    strings_Builder_WriteByte N 34 (([] : List Int)) (fun y0 => lex_Quote_9 N N x0 ((len x0)) 0 y0 (fun y1 y2 => K0 y1 y2) (fun y3 y4 => if ((decide (((len y3) > (100 : Int)))) = true) then (K0 (([] : List UInt8)) 2) else (strings_Builder_WriteByte_w1 N 34 y4 (fun y5 => if (((0 : Nat) < (List.length y5)) ∧ (((List.length y5) ≤ (70368744177664 : Nat)) ∧ ((byteList y5) = true))) then (K0 ((strOf y5)) 0) else none))))
noncomputable def lex_Quote : T_lex_Quote := @lex_Quote_b @strings_Builder_WriteByte @lex_Quote_9 @strings_Builder_WriteByte_w1
noncomputable def g_lex_Quote (N : Nat) : TypedM p_lex_Quote [q_lex_Quote_0] := fun R x C => lex_Quote N x.1.1 (fun y0 y1 => C.1 ((y0, y1, ()), (())))
noncomputable def S_lex_Quote (lex_Quote : T_lex_Quote) (N : Nat) : Go.AX.Spec := specM [true] [] false 1 0 p_lex_Quote [q_lex_Quote_0] (fun R x C => lex_Quote N x.1.1 (fun y0 y1 => C.1 ((y0, y1, ()), (()))))
noncomputable def s_lex_Quote (N : Nat) : Go.AX.Spec := S_lex_Quote @lex_Quote N
noncomputable def L_lex_Quote (N : Nat) : List (Nat × Frag) := [(9, fragOf p_lex_Quote_9 (g_lex_Quote_9 N N))]
noncomputable def G_lex_Quote (N : Nat) : List (Nat × Go.AX.Spec) := [(115, specAlt 2 p_strings_Builder_WriteByte (s_strings_Builder_WriteByte N) (s_strings_Builder_WriteByte_w1 N)), (116, s_strings_IndexByte N), (117, s_strings_Builder_String N)]
noncomputable def b_ocode_kinds : Code := Go.Proofs.Try.f105.body.getD .skip
noncomputable def p_ocode_kinds : SPat := ⟨[], []⟩
noncomputable def q_ocode_kinds_0 : SPat := ⟨[(0, .agg [(.val .str), (.val (.int .i64)), (.val (.int .i64)), (.val (.int .i64)), (.val .str), (.val (.int .i64)), (.val (.int .i64)), (.val (.int .i64)), (.val .str), (.val (.int .i64)), (.val (.int .i64)), (.val (.int .i64)), (.val .str), (.val (.int .i64)), (.val (.int .i64)), (.val (.int .i64)), (.val .str), (.val (.int .i64)), (.val (.int .i64)), (.val (.int .i64)), (.val .str), (.val (.int .i64)), (.val (.int .i64)), (.val (.int .i64)), (.val .str), (.val (.int .i64)), (.val (.int .i64)), (.val (.int .i64)), (.val .str), (.val (.int .i64)), (.val (.int .i64)), (.val (.int .i64)), (.val .str), (.val (.int .i64)), (.val (.int .i64)), (.val (.int .i64)), (.val .str), (.val (.int .i64)), (.val (.int .i64)), (.val (.int .i64)), (.val .str), (.val (.int .i64)), (.val (.int .i64)), (.val (.int .i64)), (.val .str), (.val (.int .i64)), (.val (.int .i64)), (.val (.int .i64)), (.val .str), (.val (.int .i64)), (.val (.int .i64)), (.val (.int .i64)), (.val .str), (.val (.int .i64)), (.val (.int .i64)), (.val (.int .i64)), (.val .str), (.val (.int .i64)), (.val (.int .i64)), (.val (.int .i64)), (.val .str), (.val (.int .i64)), (.val (.int .i64)), (.val (.int .i64)), (.val .str), (.val (.int .i64)), (.val (.int .i64)), (.val (.int .i64)), (.val .str), (.val (.int .i64)), (.val (.int .i64)), (.val (.int .i64)), (.val .str), (.val (.int .i64)), (.val (.int .i64)), (.val (.int .i64)), (.val .str), (.val (.int .i64)), (.val (.int .i64)), (.val (.int .i64)), (.val .str), (.val (.int .i64)), (.val (.int .i64)), (.val (.int .i64)), (.val .str), (.val (.int .i64)), (.val (.int .i64)), (.val (.int .i64)), (.val .str), (.val (.int .i64)), (.val (.int .i64)), (.val (.int .i64)), (.val .str), (.val (.int .i64)), (.val (.int .i64)), (.val (.int .i64)), (.val .str), (.val (.int .i64)), (.val (.int .i64)), (.val (.int .i64)), (.val .str), (.val (.int .i64)), (.val (.int .i64)), (.val (.int .i64)), (.val .str), (.val (.int .i64)), (.val (.int .i64)), (.val (.int .i64)), (.val .str), (.val (.int .i64)), (.val (.int .i64)), (.val (.int .i64)), (.val .str), (.val (.int .i64)), (.val (.int .i64)), (.val (.int .i64)), (.val .str), (.val (.int .i64)), (.val (.int .i64)), (.val (.int .i64)), (.val .str), (.val (.int .i64)), (.val (.int .i64)), (.val (.int .i64))])], []⟩
@[reducible] def A_ocode_kinds (R : Type) : Type := ((List UInt8) → Int → Int → Int → (List UInt8) → Int → Int → Int → (List UInt8) → Int → Int → Int → (List UInt8) → Int → Int → Int → (List UInt8) → Int → Int → Int → (List UInt8) → Int → Int → Int → (List UInt8) → Int → Int → Int → (List UInt8) → Int → Int → Int → (List UInt8) → Int → Int → Int → (List UInt8) → Int → Int → Int → (List UInt8) → Int → Int → Int → (List UInt8) → Int → Int → Int → (List UInt8) → Int → Int → Int → (List UInt8) → Int → Int → Int → (List UInt8) → Int → Int → Int → (List UInt8) → Int → Int → Int → (List UInt8) → Int → Int → Int → (List UInt8) → Int → Int → Int → (List UInt8) → Int → Int → Int → (List UInt8) → Int → Int → Int → (List UInt8) → Int → Int → Int → (List UInt8) → Int → Int → Int → (List UInt8) → Int → Int → Int → (List UInt8) → Int → Int → Int → (List UInt8) → Int → Int → Int → (List UInt8) → Int → Int → Int → (List UInt8) → Int → Int → Int → (List UInt8) → Int → Int → Int → (List UInt8) → Int → Int → Int → (List UInt8) → Int → Int → Int → (List UInt8) → Int → Int → Int → Option R) → Option R
@[reducible] def T_ocode_kinds : Type 1 := {R : Type} → Nat → A_ocode_kinds R
noncomputable def ocode_kinds : T_ocode_kinds := fun {R} N K0 =>
    K0 (([] : List UInt8)) 0 0 0 ([(110 : UInt8), (117 : UInt8), (109 : UInt8)]) 1 0 1 ([(108 : UInt8), (111 : UInt8), (99 : UInt8), (97 : UInt8), (108 : UInt8)]) 2 0 1 ([(112 : UInt8), (117 : UInt8), (116 : UInt8), (108 : UInt8)]) 2 1 0 ([(97 : UInt8), (100 : UInt8), (100 : UInt8), (114 : UInt8), (108 : UInt8)]) 2 0 1 ([(103 : UInt8), (108 : UInt8), (111 : UInt8), (98 : UInt8), (97 : UInt8), (108 : UInt8)]) 3 0 1 ([(112 : UInt8), (117 : UInt8), (116 : UInt8), (103 : UInt8)]) 3 1 0 ([(97 : UInt8), (100 : UInt8), (100 : UInt8), (114 : UInt8), (103 : UInt8)]) 3 0 1 ([(115 : UInt8), (116 : UInt8), (97 : UInt8), (116 : UInt8), (105 : UInt8), (99 : UInt8)]) 4 0 1 ([(112 : UInt8), (117 : UInt8), (116 : UInt8), (115 : UInt8)]) 4 1 0 ([(97 : UInt8), (100 : UInt8), (100 : UInt8), (114 : UInt8), (115 : UInt8)]) 4 0 1 ([(112 : UInt8), (114 : UInt8), (111 : UInt8), (99 : UInt8)]) 5 0 1 ([(108 : UInt8), (111 : UInt8), (97 : UInt8), (100 : UInt8)]) 0 1 1 ([(115 : UInt8), (116 : UInt8), (111 : UInt8), (114 : UInt8), (101 : UInt8)]) 0 2 0 ([(103 : UInt8), (101 : UInt8), (116 : UInt8), (98 : UInt8)]) 0 2 1 ([(112 : UInt8), (117 : UInt8), (116 : UInt8), (98 : UInt8)]) 0 3 0 ([(98 : UInt8), (105 : UInt8), (110 : UInt8)]) 7 2 1 ([(117 : UInt8), (110 : UInt8)]) 8 1 1 ([(115 : UInt8), (116 : UInt8), (97 : UInt8), (99 : UInt8), (107 : UInt8)]) 2 0 0 ([(108 : UInt8), (97 : UInt8), (98 : UInt8), (101 : UInt8), (108 : UInt8)]) 6 0 0 ([(106 : UInt8), (117 : UInt8), (109 : UInt8), (112 : UInt8)]) 6 0 0 ([(116 : UInt8), (114 : UInt8), (117 : UInt8), (101 : UInt8)]) 6 1 0 ([(102 : UInt8), (97 : UInt8), (108 : UInt8), (115 : UInt8), (101 : UInt8)]) 6 1 0 ([(99 : UInt8), (97 : UInt8), (108 : UInt8), (108 : UInt8)]) 2 0 0 ([(101 : UInt8), (110 : UInt8), (116 : UInt8), (101 : UInt8), (114 : UInt8)]) 5 0 0 ([(114 : UInt8), (101 : UInt8), (116 : UInt8), (117 : UInt8), (114 : UInt8), (110 : UInt8)]) 0 1 0 ([(98 : UInt8), (97 : UInt8), (99 : UInt8), (107 : UInt8)]) 0 0 0 ([(114 : UInt8), (101 : UInt8), (115 : UInt8), (117 : UInt8), (108 : UInt8), (116 : UInt8)]) 6 1 0 ([(116 : UInt8), (97 : UInt8), (107 : UInt8), (101 : UInt8)]) 2 0 0 ([(115 : UInt8), (119 : UInt8), (105 : UInt8), (116 : UInt8), (99 : UInt8), (104 : UInt8)]) 6 1 0 ([(99 : UInt8), (97 : UInt8), (115 : UInt8), (101 : UInt8)]) 1 0 0
noncomputable def g_ocode_kinds (N : Nat) : TypedM p_ocode_kinds [q_ocode_kinds_0] := fun R x C => ocode_kinds N  (fun y0 y1 y2 y3 y4 y5 y6 y7 y8 y9 y10 y11 y12 y13 y14 y15 y16 y17 y18 y19 y20 y21 y22 y23 y24 y25 y26 y27 y28 y29 y30 y31 y32 y33 y34 y35 y36 y37 y38 y39 y40 y41 y42 y43 y44 y45 y46 y47 y48 y49 y50 y51 y52 y53 y54 y55 y56 y57 y58 y59 y60 y61 y62 y63 y64 y65 y66 y67 y68 y69 y70 y71 y72 y73 y74 y75 y76 y77 y78 y79 y80 y81 y82 y83 y84 y85 y86 y87 y88 y89 y90 y91 y92 y93 y94 y95 y96 y97 y98 y99 y100 y101 y102 y103 y104 y105 y106 y107 y108 y109 y110 y111 y112 y113 y114 y115 y116 y117 y118 y119 y120 y121 y122 y123 => C.1 (((y0, y1, y2, y3, y4, y5, y6, y7, y8, y9, y10, y11, y12, y13, y14, y15, y16, y17, y18, y19, y20, y21, y22, y23, y24, y25, y26, y27, y28, y29, y30, y31, y32, y33, y34, y35, y36, y37, y38, y39, y40, y41, y42, y43, y44, y45, y46, y47, y48, y49, y50, y51, y52, y53, y54, y55, y56, y57, y58, y59, y60, y61, y62, y63, y64, y65, y66, y67, y68, y69, y70, y71, y72, y73, y74, y75, y76, y77, y78, y79, y80, y81, y82, y83, y84, y85, y86, y87, y88, y89, y90, y91, y92, y93, y94, y95, y96, y97, y98, y99, y100, y101, y102, y103, y104, y105, y106, y107, y108, y109, y110, y111, y112, y113, y114, y115, y116, y117, y118, y119, y120, y121, y122, y123, ()), ()), (())))
noncomputable def S_ocode_kinds (ocode_kinds : T_ocode_kinds) (N : Nat) : Go.AX.Spec := specM [] [] false 0 0 p_ocode_kinds [q_ocode_kinds_0] (fun R x C => ocode_kinds N  (fun y0 y1 y2 y3 y4 y5 y6 y7 y8 y9 y10 y11 y12 y13 y14 y15 y16 y17 y18 y19 y20 y21 y22 y23 y24 y25 y26 y27 y28 y29 y30 y31 y32 y33 y34 y35 y36 y37 y38 y39 y40 y41 y42 y43 y44 y45 y46 y47 y48 y49 y50 y51 y52 y53 y54 y55 y56 y57 y58 y59 y60 y61 y62 y63 y64 y65 y66 y67 y68 y69 y70 y71 y72 y73 y74 y75 y76 y77 y78 y79 y80 y81 y82 y83 y84 y85 y86 y87 y88 y89 y90 y91 y92 y93 y94 y95 y96 y97 y98 y99 y100 y101 y102 y103 y104 y105 y106 y107 y108 y109 y110 y111 y112 y113 y114 y115 y116 y117 y118 y119 y120 y121 y122 y123 => C.1 (((y0, y1, y2, y3, y4, y5, y6, y7, y8, y9, y10, y11, y12, y13, y14, y15, y16, y17, y18, y19, y20, y21, y22, y23, y24, y25, y26, y27, y28, y29, y30, y31, y32, y33, y34, y35, y36, y37, y38, y39, y40, y41, y42, y43, y44, y45, y46, y47, y48, y49, y50, y51, y52, y53, y54, y55, y56, y57, y58, y59, y60, y61, y62, y63, y64, y65, y66, y67, y68, y69, y70, y71, y72, y73, y74, y75, y76, y77, y78, y79, y80, y81, y82, y83, y84, y85, y86, y87, y88, y89, y90, y91, y92, y93, y94, y95, y96, y97, y98, y99, y100, y101, y102, y103, y104, y105, y106, y107, y108, y109, y110, y111, y112, y113, y114, y115, y116, y117, y118, y119, y120, y121, y122, y123, ()), ()), (()))))
noncomputable def s_ocode_kinds (N : Nat) : Go.AX.Spec := S_ocode_kinds @ocode_kinds N
noncomputable def L_ocode_kinds (N : Nat) : List (Nat × Frag) := []
noncomputable def G_ocode_kinds (N : Nat) : List (Nat × Go.AX.Spec) := []
noncomputable def b_ocode_numbers : Code := Go.Proofs.Try.f106.body.getD .skip
noncomputable def b_ocode_in : Code := Go.Proofs.Try.f119.body.getD .skip
noncomputable def p_ocode_in : SPat := ⟨[(0, .one (.val (.int .i64))), (1, .one (.val (.int .i64))), (2, .one (.val (.int .i64)))], []⟩
noncomputable def q_ocode_in_0 : SPat := ⟨[(0, .one (.val .bool))], []⟩
@[reducible] def A_ocode_in (R : Type) : Type := Int → Int → Int → (Bool → Option R) → Option R
@[reducible] def T_ocode_in : Type 1 := {R : Type} → Nat → A_ocode_in R
noncomputable def ocode_in : T_ocode_in := fun {R} N x0 x1 x2 K0 =>
    if ((decide ((x0 ≥ x1))) = true) then (K0 ((decide ((x0 ≤ x2))))) else (K0 false)
noncomputable def g_ocode_in (N : Nat) : TypedM p_ocode_in [q_ocode_in_0] := fun R x C => ocode_in N x.1.1 x.1.2.1 x.1.2.2.1 (fun y0 => C.1 ((y0, ()), (())))
noncomputable def S_ocode_in (ocode_in : T_ocode_in) (N : Nat) : Go.AX.Spec := specM [true, true, true] [] false 3 0 p_ocode_in [q_ocode_in_0] (fun R x C => ocode_in N x.1.1 x.1.2.1 x.1.2.2.1 (fun y0 => C.1 ((y0, ()), (()))))
noncomputable def s_ocode_in (N : Nat) : Go.AX.Spec := S_ocode_in @ocode_in N
noncomputable def L_ocode_in (N : Nat) : List (Nat × Frag) := []
noncomputable def G_ocode_in (N : Nat) : List (Nat × Go.AX.Spec) := []
noncomputable def p_ocode_numbers_42 : SPat := ⟨[(3, .one (.ptr 32)), (4, .one (.ptr 33)), (7, .one (.val .bool))], [(32, .cells 24 [(.val (.int .i64)), (.val (.int .i64)), (.val (.int .i64))]), (33, .cells 34 [(.val .str), (.val z3), (.val z4), (.val z1), (.val (.int .i64)), (.val (.int .i64))])]⟩
noncomputable def o_ocode_numbers_42_0 : SPat := ⟨[(6, .one (.val .bool))], []⟩
noncomputable def o_ocode_numbers_42 : Outs := .cons .ret o_ocode_numbers_42_0 (.nil)
@[reducible] def A_ocode_numbers_42 (R : Type) : Type := Bool → Int → Int → Int → (List UInt8) → d5 → d4 → d1 → Int → Int → (Bool → Option R) → Option R
@[reducible] def T_ocode_numbers_42 : Type 1 := {R : Type} → Nat → A_ocode_numbers_42 R
noncomputable def ocode_numbers_42_b (ocode_in : T_ocode_in) : T_ocode_numbers_42 := fun {R} N x0 x1 x2 x3 x4 x5 x6 x7 x8 x9 K0 =>
    if ((x1 == (24 : Int)) = true) then (if (x0 = true) then (ocode_in N x3 0 8 (fun y0 => K0 y0)) else (K0 false)) else (if ((x1 == (29 : Int)) = true) then (if (x0 = true) then (ocode_in N x3 0 1000 (fun y1 => K0 y1)) else (K0 false)) else (if ((x1 == (30 : Int)) = true) then (if (x0 = true) then (ocode_in N x3 1 x9 (fun y2 => K0 y2)) else (K0 false)) else (if (x0 = true) then (K0 ((x3 == (0 : Int)))) else (K0 false))))
noncomputable def ocode_numbers_42 : T_ocode_numbers_42 := @ocode_numbers_42_b @ocode_in
noncomputable def H_ocode_numbers_42 (ocode_numbers_42 : T_ocode_numbers_42) (N : Nat) : Typed p_ocode_numbers_42 := fun R x K => ocode_numbers_42 N x.1.2.2.1 x.2.1.1 x.2.1.2.1 x.2.1.2.2.1 x.2.2.1.1 x.2.2.1.2.1 x.2.2.1.2.2.1 x.2.2.1.2.2.2.1 x.2.2.1.2.2.2.2.1 x.2.2.1.2.2.2.2.2.1 (fun y0 => K .ret (encS o_ocode_numbers_42_0 ((y0, ()), (()))))
noncomputable def g_ocode_numbers_42 (N : Nat) : Typed p_ocode_numbers_42 := H_ocode_numbers_42 @ocode_numbers_42 N
noncomputable def b_ocode_wide : Code := Go.Proofs.Try.f118.body.getD .skip
noncomputable def p_ocode_wide : SPat := ⟨[(0, .one (.val (.int .i64)))], []⟩
noncomputable def q_ocode_wide_0 : SPat := ⟨[(0, .one (.val .bool))], []⟩
@[reducible] def A_ocode_wide (R : Type) : Type := Int → (Bool → Option R) → Option R
@[reducible] def T_ocode_wide : Type 1 := {R : Type} → Nat → A_ocode_wide R
noncomputable def ocode_wide_b (ocode_in : T_ocode_in) : T_ocode_wide := fun {R} N x0 K0 =>
    ocode_in N x0 (-2147483648) 2147483647 (fun y0 => K0 y0)
noncomputable def ocode_wide : T_ocode_wide := @ocode_wide_b @ocode_in
noncomputable def g_ocode_wide (N : Nat) : TypedM p_ocode_wide [q_ocode_wide_0] := fun R x C => ocode_wide N x.1.1 (fun y0 => C.1 ((y0, ()), (())))
noncomputable def S_ocode_wide (ocode_wide : T_ocode_wide) (N : Nat) : Go.AX.Spec := specM [true] [] false 1 0 p_ocode_wide [q_ocode_wide_0] (fun R x C => ocode_wide N x.1.1 (fun y0 => C.1 ((y0, ()), (()))))
noncomputable def s_ocode_wide (N : Nat) : Go.AX.Spec := S_ocode_wide @ocode_wide N
noncomputable def L_ocode_wide (N : Nat) : List (Nat × Frag) := []
noncomputable def G_ocode_wide (N : Nat) : List (Nat × Go.AX.Spec) := [(119, s_ocode_in N)]
noncomputable def p_ocode_numbers : SPat := ⟨[(0, .agg [(.val (.int .i64)), (.val (.int .i64)), (.val (.int .i64))]), (1, .agg [(.val .str), (.val z3), (.val z4), (.val z1), (.val (.int .i64)), (.val (.int .i64))]), (2, .agg [(.val .str), (.val (.int .i64)), (.val (.int .i64)), (.val (.int .i64))])], []⟩
noncomputable def q_ocode_numbers_0 : SPat := ⟨[(0, .one (.val .bool))], []⟩
@[reducible] def A_ocode_numbers (R : Type) : Type := Int → Int → Int → (List UInt8) → d5 → d4 → d1 → Int → Int → (List UInt8) → Int → Int → Int → (Bool → Option R) → Option R
@[reducible] def T_ocode_numbers : Type 1 := {R : Type} → Nat → A_ocode_numbers R
noncomputable def ocode_numbers_b (ocode_numbers_42 : T_ocode_numbers_42) (ocode_wide : T_ocode_wide) (ocode_in : T_ocode_in) : T_ocode_numbers := fun {R} N x0 x1 x2 x3 x4 x5 x6 x7 x8 x9 x10 x11 x12 K0 =>
    if ((x10 == (0 : Int)) = true) then (ocode_numbers_42 N ((x1 == (0 : Int))) x0 x1 x2 x3 x4 x5 x6 x7 x8 (fun y0 => K0 y0)) else (if ((x10 == (1 : Int)) = true) then (ocode_wide N x1 (fun y1 => ocode_numbers_42 N y1 x0 x1 x2 x3 x4 x5 x6 x7 x8 (fun y2 => K0 y2))) else (if ((x10 == (2 : Int)) = true) then (ocode_in N x1 0 4000 (fun y3 => ocode_numbers_42 N y3 x0 x1 x2 x3 x4 x5 x6 x7 x8 (fun y4 => K0 y4))) else (if ((x10 == (3 : Int)) = true) then (ocode_in N x1 0 199 (fun y5 => ocode_numbers_42 N y5 x0 x1 x2 x3 x4 x5 x6 x7 x8 (fun y6 => K0 y6))) else (if ((x10 == (4 : Int)) = true) then (ocode_in N x1 0 ((wi ((len x4) - (1 : Int)))) (fun y7 => ocode_numbers_42 N y7 x0 x1 x2 x3 x4 x5 x6 x7 x8 (fun y8 => K0 y8))) else (if ((x10 == (5 : Int)) = true) then (ocode_in N x1 1 x7 (fun y9 => ocode_numbers_42 N y9 x0 x1 x2 x3 x4 x5 x6 x7 x8 (fun y10 => K0 y10))) else (if ((x10 == (6 : Int)) = true) then (ocode_in N x1 1 x8 (fun y11 => ocode_numbers_42 N y11 x0 x1 x2 x3 x4 x5 x6 x7 x8 (fun y12 => K0 y12))) else (if ((x10 == (7 : Int)) = true) then (ocode_in N x1 1 17 (fun y13 => ocode_numbers_42 N y13 x0 x1 x2 x3 x4 x5 x6 x7 x8 (fun y14 => K0 y14))) else (if ((x10 == (8 : Int)) = true) then (if ((x1 == (18 : Int)) = true) then (ocode_numbers_42 N true x0 x1 x2 x3 x4 x5 x6 x7 x8 (fun y15 => K0 y15)) else (ocode_numbers_42 N ((x1 == (19 : Int))) x0 x1 x2 x3 x4 x5 x6 x7 x8 (fun y16 => K0 y16))) else (ocode_numbers_42 N false x0 x1 x2 x3 x4 x5 x6 x7 x8 (fun y17 => K0 y17))))))))))
noncomputable def ocode_numbers : T_ocode_numbers := @ocode_numbers_b @ocode_numbers_42 @ocode_wide @ocode_in
noncomputable def g_ocode_numbers (N : Nat) : TypedM p_ocode_numbers [q_ocode_numbers_0] := fun R x C => ocode_numbers N x.1.1.1 x.1.1.2.1 x.1.1.2.2.1 x.1.2.1.1 x.1.2.1.2.1 x.1.2.1.2.2.1 x.1.2.1.2.2.2.1 x.1.2.1.2.2.2.2.1 x.1.2.1.2.2.2.2.2.1 x.1.2.2.1.1 x.1.2.2.1.2.1 x.1.2.2.1.2.2.1 x.1.2.2.1.2.2.2.1 (fun y0 => C.1 ((y0, ()), (())))
noncomputable def S_ocode_numbers (ocode_numbers : T_ocode_numbers) (N : Nat) : Go.AX.Spec := specM [true, true, true] [] false 3 0 p_ocode_numbers [q_ocode_numbers_0] (fun R x C => ocode_numbers N x.1.1.1 x.1.1.2.1 x.1.1.2.2.1 x.1.2.1.1 x.1.2.1.2.1 x.1.2.1.2.2.1 x.1.2.1.2.2.2.1 x.1.2.1.2.2.2.2.1 x.1.2.1.2.2.2.2.2.1 x.1.2.2.1.1 x.1.2.2.1.2.1 x.1.2.2.1.2.2.1 x.1.2.2.1.2.2.2.1 (fun y0 => C.1 ((y0, ()), (()))))
noncomputable def s_ocode_numbers (N : Nat) : Go.AX.Spec := S_ocode_numbers @ocode_numbers N
noncomputable def L_ocode_numbers (N : Nat) : List (Nat × Frag) := [(42, fragOf p_ocode_numbers_42 (g_ocode_numbers_42 N))]
noncomputable def G_ocode_numbers (N : Nat) : List (Nat × Go.AX.Spec) := [(119, s_ocode_in N), (118, s_ocode_wide N)]
noncomputable def p_ocode_coded_13 : SPat := ⟨[(1, .one (.ptr 32)), (5, .one (.ptr 1000)), (35, .one (.val z4)), (36, .one (.val (.int .i64))), (37, .one (.val (.int .i64)))], [(32, .cells 34 [(.val .str), (.val z3), (.val z4), (.val z1), (.val (.int .i64)), (.val (.int .i64))]), (1000, .row 133 (.pair .str z2))]⟩
noncomputable def o_ocode_coded_13_0 : SPat := ⟨[(2, .one (.val .bool))], []⟩
noncomputable def o_ocode_coded_13_1 : SPat := ⟨[(1, .one (.ptr 32))], [(32, .cells 34 [(.val .str), (.val z3), (.val z4), (.val z1), (.val (.int .i64)), (.val (.int .i64))])]⟩
noncomputable def o_ocode_coded_13 : Outs := .cons .ret o_ocode_coded_13_0 (.cons (.exit 0) o_ocode_coded_13_1 (.nil))
@[reducible] def A_ocode_coded_13 (R : Type) : Type := d4 → Int → Int → (List UInt8) → d5 → d4 → d1 → Int → Int → (List ((List UInt8 × (Int × (Int × Int))))) → (Bool → Option R) → ((List UInt8) → d5 → d4 → d1 → Int → Int → Option R) → Option R
@[reducible] def B_ocode_coded_13 (R : Type) : Type := d4 → Int → Int → (List UInt8) → d5 → d4 → d1 → Int → Int → (List ((List UInt8 × (Int × (Int × Int))))) → Option R
@[reducible] def T_ocode_coded_13 : Type 1 := {R : Type} → Nat → Nat → A_ocode_coded_13 R
noncomputable def ocode_coded_13_b (ocode_numbers : T_ocode_numbers) {R : Type} (N : Nat) (rc : B_ocode_coded_13 R) : A_ocode_coded_13 R := fun x0 x1 x2 x3 x4 x5 x6 x7 x8 x9 K0 K1 =>
    if ((decide ((x2 < x1))) = true) then (if (((0 : Int) ≤ x2) ∧ (x2 < (len x0))) then (let v0 := (List.getD x0 (Int.toNat x2) ((0 : Int), ((0 : Int), (0 : Int)))).1; if ((decide ((v0 < (1 : Int)))) = true) then (K0 false) else (if ((decide ((v0 ≥ (31 : Int)))) = true) then (K0 false) else (if (((0 : Int) ≤ v0) ∧ (v0 < (31 : Int))) then (if (v0 < (len x9)) then (ocode_numbers N v0 ((List.getD x0 (Int.toNat x2) ((0 : Int), ((0 : Int), (0 : Int)))).2.1) ((List.getD x0 (Int.toNat x2) ((0 : Int), ((0 : Int), (0 : Int)))).2.2) x3 x4 x5 x6 x7 x8 ((List.getD x9 (Int.toNat v0) (([] : List UInt8), ((0 : Int), ((0 : Int), (0 : Int))))).1) ((List.getD x9 (Int.toNat v0) (([] : List UInt8), ((0 : Int), ((0 : Int), (0 : Int))))).2.1) ((List.getD x9 (Int.toNat v0) (([] : List UInt8), ((0 : Int), ((0 : Int), (0 : Int))))).2.2.1) ((List.getD x9 (Int.toNat v0) (([] : List UInt8), ((0 : Int), ((0 : Int), (0 : Int))))).2.2.2) (fun y0 => if ((!y0) = true) then (K0 false) else (rc x0 x1 ((wi (x2 + (1 : Int)))) x3 x4 x5 x6 x7 x8 x9))) else none) else none))) else none) else (K1 x3 x4 x5 x6 x7 x8)
noncomputable def ocode_coded_13 {R : Type} (N : Nat) : Nat → A_ocode_coded_13 R
  | 0 => fun _ _ _ _ _ _ _ _ _ _ _ _ => none
  | k + 1 => fun x0 x1 x2 x3 x4 x5 x6 x7 x8 x9 K0 K1 => ocode_coded_13_b @ocode_numbers N (fun x0 x1 x2 x3 x4 x5 x6 x7 x8 x9 => ocode_coded_13 N k x0 x1 x2 x3 x4 x5 x6 x7 x8 x9 K0 K1) x0 x1 x2 x3 x4 x5 x6 x7 x8 x9 K0 K1
noncomputable def H_ocode_coded_13 (ocode_coded_13 : T_ocode_coded_13) (N k : Nat) : Typed p_ocode_coded_13 := fun R x K => ocode_coded_13 N k x.1.2.2.1 x.1.2.2.2.1 x.1.2.2.2.2.1 x.2.1.1 x.2.1.2.1 x.2.1.2.2.1 x.2.1.2.2.2.1 x.2.1.2.2.2.2.1 x.2.1.2.2.2.2.2.1 x.2.2.1 (fun y0 => K .ret (encS o_ocode_coded_13_0 ((y0, ()), (())))) (fun y0 y1 y2 y3 y4 y5 => K (.exit 0) (encS o_ocode_coded_13_1 (((), ()), ((y0, y1, y2, y3, y4, y5, ()), ()))))
noncomputable def g_ocode_coded_13 (N k : Nat) : Typed p_ocode_coded_13 := H_ocode_coded_13 @ocode_coded_13 N k
noncomputable def b_ocode_places : Code := Go.Proofs.Try.f107.body.getD .skip
noncomputable def p_ocode_places_9 : SPat := ⟨[(1, .one (.ptr 32)), (2, .one (.slf 33)), (3, .one (.slf 34)), (5, .one (.val (.int .i64))), (6, .one (.val (.int .i64))), (18, .one (.val z4)), (19, .one (.val (.int .i64))), (20, .one (.val (.int .i64)))], [(32, .cells 34 [(.val .str), (.val z3), (.val z4), (.val z1), (.val (.int .i64)), (.val (.int .i64))]), (33, .row 3 (.int .i64)), (34, .row 3 (.int .i64))]⟩
noncomputable def o_ocode_places_9_0 : SPat := ⟨[(2, .one (.slf 32)), (3, .one (.slf 33)), (4, .one (.val .bool))], [(32, .row 3 (.int .i64)), (33, .row 3 (.int .i64))]⟩
noncomputable def o_ocode_places_9_1 : SPat := ⟨[(1, .one (.ptr 32)), (2, .one (.slf 33)), (3, .one (.slf 34)), (5, .one (.val (.int .i64))), (6, .one (.val (.int .i64)))], [(32, .cells 34 [(.val .str), (.val z3), (.val z4), (.val z1), (.val (.int .i64)), (.val (.int .i64))]), (33, .row 3 (.int .i64)), (34, .row 3 (.int .i64))]⟩
noncomputable def o_ocode_places_9 : Outs := .cons .ret o_ocode_places_9_0 (.cons (.exit 0) o_ocode_places_9_1 (.nil))
@[reducible] def A_ocode_places_9 (R : Type) : Type := Int → Int → d4 → Int → Int → (List UInt8) → d5 → d4 → d1 → Int → Int → d0 → d0 → (Bool → d0 → d0 → Option R) → (Int → Int → (List UInt8) → d5 → d4 → d1 → Int → Int → d0 → d0 → Option R) → Option R
@[reducible] def B_ocode_places_9 (R : Type) : Type := Int → Int → d4 → Int → Int → (List UInt8) → d5 → d4 → d1 → Int → Int → d0 → d0 → Option R
@[reducible] def T_ocode_places_9 : Type 1 := {R : Type} → Nat → Nat → A_ocode_places_9 R
noncomputable def ocode_places_9_b {R : Type} (N : Nat) (rc : B_ocode_places_9 R) : A_ocode_places_9 R := fun x0 x1 x2 x3 x4 x5 x6 x7 x8 x9 x10 x11 x12 K0 K1 =>
    if ((decide ((x4 < x3))) = true) then (if (((0 : Int) ≤ x4) ∧ (x4 < (len x2))) then (let v0 := (List.getD x2 (Int.toNat x4) ((0 : Int), ((0 : Int), (0 : Int)))).1; let v1 := (List.getD x2 (Int.toNat x4) ((0 : Int), ((0 : Int), (0 : Int)))).2.1; if ((v0 == (24 : Int)) = true) then (let v2 := (wi (x0 + (1 : Int))); if ((v1 != v2) = true) then (K0 false (([] : List Int)) (([] : List Int))) else (rc v2 x1 x2 x3 ((wi (x4 + (1 : Int)))) x5 x6 x7 x8 x9 x10 x11 x12)) else (if ((v0 == (19 : Int)) = true) then (if (((0 : Int) ≤ v1) ∧ (v1 < (len x12))) then (if (((List.getD x12 (Int.toNat v1) (0 : Int)) != (0 : Int)) = true) then (K0 false (([] : List Int)) (([] : List Int))) else (if ((x0 == (0 : Int)) = true) then (K0 false (([] : List Int)) (([] : List Int))) else (if (((0 : Int) ≤ v1) ∧ (v1 < (len x11))) then (if (((0 : Int) ≤ v1) ∧ (v1 < (len x12))) then (rc x0 ((if (v1 > x1) then v1 else x1)) x2 x3 ((wi (x4 + (1 : Int)))) x5 x6 x7 x8 x9 x10 ((List.set x11 (Int.toNat v1) x4)) ((List.set x12 (Int.toNat v1) x0))) else none) else none))) else none) else (rc x0 x1 x2 x3 ((wi (x4 + (1 : Int)))) x5 x6 x7 x8 x9 x10 x11 x12))) else none) else (K1 x0 x1 x5 x6 x7 x8 x9 x10 x11 x12)
noncomputable def ocode_places_9 {R : Type} (N : Nat) : Nat → A_ocode_places_9 R
  | 0 => fun _ _ _ _ _ _ _ _ _ _ _ _ _ _ _ => none
  | k + 1 => fun x0 x1 x2 x3 x4 x5 x6 x7 x8 x9 x10 x11 x12 K0 K1 => ocode_places_9_b N (fun x0 x1 x2 x3 x4 x5 x6 x7 x8 x9 x10 x11 x12 => ocode_places_9 N k x0 x1 x2 x3 x4 x5 x6 x7 x8 x9 x10 x11 x12 K0 K1) x0 x1 x2 x3 x4 x5 x6 x7 x8 x9 x10 x11 x12 K0 K1
noncomputable def H_ocode_places_9 (ocode_places_9 : T_ocode_places_9) (N k : Nat) : Typed p_ocode_places_9 := fun R x K => ocode_places_9 N k x.1.2.2.2.1 x.1.2.2.2.2.1 x.1.2.2.2.2.2.1 x.1.2.2.2.2.2.2.1 x.1.2.2.2.2.2.2.2.1 x.2.1.1 x.2.1.2.1 x.2.1.2.2.1 x.2.1.2.2.2.1 x.2.1.2.2.2.2.1 x.2.1.2.2.2.2.2.1 x.2.2.1 x.2.2.2.1 (fun y0 y1 y2 => K .ret (encS o_ocode_places_9_0 (((), (), y0, ()), (y1, y2, ())))) (fun y0 y1 y2 y3 y4 y5 y6 y7 y8 y9 => K (.exit 0) (encS o_ocode_places_9_1 (((), (), (), y0, y1, ()), ((y2, y3, y4, y5, y6, y7, ()), y8, y9, ()))))
noncomputable def g_ocode_places_9 (N k : Nat) : Typed p_ocode_places_9 := H_ocode_places_9 @ocode_places_9 N k
noncomputable def p_ocode_places : SPat := ⟨[(0, .agg [(.val .str), (.val z3), (.val z4), (.val z1), (.val (.int .i64)), (.val (.int .i64))])], []⟩
noncomputable def q_ocode_places_0 : SPat := ⟨[(0, .one (.slf 32)), (1, .one (.slf 33)), (2, .one (.val .bool))], [(32, .row 3 (.int .i64)), (33, .row 3 (.int .i64))]⟩
@[reducible] def A_ocode_places (R : Type) : Type := (List UInt8) → d5 → d4 → d1 → Int → Int → (Bool → d0 → d0 → Option R) → Option R
@[reducible] def T_ocode_places : Type 1 := {R : Type} → Nat → A_ocode_places R
noncomputable def ocode_places_b (ocode_places_9 : T_ocode_places_9) : T_ocode_places := fun {R} N x0 x1 x2 x3 x4 x5 K0 =>
    let v0 := (wi (x5 + (1 : Int))); if (((0 : Int) ≤ v0) ∧ ((v0 ≤ v0) ∧ ((v0 * (8 : Int)) ≤ (70368744177664 : Int)))) then (let v1 := (List.replicate (Int.toNat v0) (0 : Int)); if (((0 : Int) ≤ v0) ∧ ((v0 ≤ v0) ∧ ((v0 * (8 : Int)) ≤ (70368744177664 : Int)))) then (ocode_places_9 N N 0 0 x2 ((len x2)) 0 x0 x1 x2 x3 x4 x5 v1 v1 (fun y0 y1 y2 => K0 y0 y1 y2) (fun y3 y4 y5 y6 y7 y8 y9 y10 y11 y12 => if ((y3 == y9) = true) then (K0 ((y4 == y10)) y11 y12) else (K0 false y11 y12))) else none) else none
noncomputable def ocode_places : T_ocode_places := @ocode_places_b @ocode_places_9
noncomputable def g_ocode_places (N : Nat) : TypedM p_ocode_places [q_ocode_places_0] := fun R x C => ocode_places N x.1.1.1 x.1.1.2.1 x.1.1.2.2.1 x.1.1.2.2.2.1 x.1.1.2.2.2.2.1 x.1.1.2.2.2.2.2.1 (fun y0 y1 y2 => C.1 (((), (), y0, ()), (y1, y2, ())))
noncomputable def S_ocode_places (ocode_places : T_ocode_places) (N : Nat) : Go.AX.Spec := specM [true] [] false 1 0 p_ocode_places [q_ocode_places_0] (fun R x C => ocode_places N x.1.1.1 x.1.1.2.1 x.1.1.2.2.1 x.1.1.2.2.2.1 x.1.1.2.2.2.2.1 x.1.1.2.2.2.2.2.1 (fun y0 y1 y2 => C.1 (((), (), y0, ()), (y1, y2, ()))))
noncomputable def s_ocode_places (N : Nat) : Go.AX.Spec := S_ocode_places @ocode_places N
noncomputable def L_ocode_places (N : Nat) : List (Nat × Frag) := [(9, fragOf p_ocode_places_9 (g_ocode_places_9 N N))]
noncomputable def G_ocode_places (N : Nat) : List (Nat × Go.AX.Spec) := []
noncomputable def b_ocode_order : Code := Go.Proofs.Try.f108.body.getD .skip
noncomputable def p_ocode_order_17 : SPat := ⟨[(0, .one (.val z4)), (3, .one (.val (.int .i64))), (28, .one (.val (.int .i64))), (29, .one (.val (.int .i64)))], []⟩
noncomputable def o_ocode_order_17_0 : SPat := ⟨[(2, .one (.val .bool))], []⟩
noncomputable def o_ocode_order_17_1 : SPat := ⟨[(0, .one (.val z4)), (3, .one (.val (.int .i64)))], []⟩
noncomputable def o_ocode_order_17 : Outs := .cons .ret o_ocode_order_17_0 (.cons (.exit 3) o_ocode_order_17_1 (.nil))
@[reducible] def A_ocode_order_17 (R : Type) : Type := d4 → Int → Int → Int → (Bool → Option R) → (d4 → Int → Option R) → Option R
@[reducible] def B_ocode_order_17 (R : Type) : Type := d4 → Int → Int → Int → Option R
@[reducible] def T_ocode_order_17 : Type 1 := {R : Type} → Nat → Nat → A_ocode_order_17 R
noncomputable def ocode_order_17_b {R : Type} (N : Nat) (rc : B_ocode_order_17 R) : A_ocode_order_17 R := fun x0 x1 x2 x3 K0 K1 =>
    if ((decide ((x3 < x2))) = true) then (let v0 := (wi ((wi (x1 + (1 : Int))) + x3)); if ((decide ((v0 ≥ (len x0)))) = true) then (K0 false) else (if (((0 : Int) ≤ v0) ∧ (v0 < (len x0))) then (if (((List.getD x0 (Int.toNat v0) ((0 : Int), ((0 : Int), (0 : Int)))).1 != (30 : Int)) = true) then (K0 false) else (rc x0 x1 x2 ((wi (x3 + (1 : Int)))))) else none)) else (K1 x0 x1)
noncomputable def ocode_order_17 {R : Type} (N : Nat) : Nat → A_ocode_order_17 R
  | 0 => fun _ _ _ _ _ _ => none
  | k + 1 => fun x0 x1 x2 x3 K0 K1 => ocode_order_17_b N (fun x0 x1 x2 x3 => ocode_order_17 N k x0 x1 x2 x3 K0 K1) x0 x1 x2 x3 K0 K1
noncomputable def H_ocode_order_17 (ocode_order_17 : T_ocode_order_17) (N k : Nat) : Typed p_ocode_order_17 := fun R x K => ocode_order_17 N k x.1.1 x.1.2.1 x.1.2.2.1 x.1.2.2.2.1 (fun y0 => K .ret (encS o_ocode_order_17_0 ((y0, ()), (())))) (fun y0 y1 => K (.exit 3) (encS o_ocode_order_17_1 ((y0, y1, ()), (()))))
noncomputable def g_ocode_order_17 (N k : Nat) : Typed p_ocode_order_17 := H_ocode_order_17 @ocode_order_17 N k
noncomputable def b_ocode_Ends : Code := Go.Proofs.Try.f113.body.getD .skip
noncomputable def p_ocode_Ends_12 : SPat := ⟨[(0, .one (.val z4)), (1, .one (.val (.int .i64))), (9, .one (.val (.int .i64))), (10, .one (.val .bool))], []⟩
noncomputable def o_ocode_Ends_12_0 : SPat := ⟨[(4, .one (.val .bool))], []⟩
noncomputable def o_ocode_Ends_12_1 : SPat := ⟨[], []⟩
noncomputable def o_ocode_Ends_12 : Outs := .cons .ret o_ocode_Ends_12_0 (.cons .normal o_ocode_Ends_12_1 (.nil))
@[reducible] def A_ocode_Ends_12 (R : Type) : Type := d4 → Int → Int → Bool → (Bool → Option R) → (Option R) → Option R
@[reducible] def T_ocode_Ends_12 : Type 1 := {R : Type} → Nat → A_ocode_Ends_12 R
noncomputable def ocode_Ends_12 : T_ocode_Ends_12 := fun {R} N x0 x1 x2 x3 K0 K1 =>
    if (x3 = true) then (K0 true) else (if ((x2 == (29 : Int)) = true) then (if (((0 : Int) ≤ x1) ∧ (x1 < (len x0))) then (K0 (((List.getD x0 (Int.toNat x1) ((0 : Int), ((0 : Int), (0 : Int)))).2.2 == (0 : Int)))) else none) else (if ((x2 == (30 : Int)) = true) then (let v0 := (wi (x1 + (1 : Int))); if ((v0 == (len x0)) = true) then (K0 true) else (if (((0 : Int) ≤ v0) ∧ (v0 < (len x0))) then (K0 (((List.getD x0 (Int.toNat v0) ((0 : Int), ((0 : Int), (0 : Int)))).1 != (30 : Int)))) else none)) else K1))
noncomputable def H_ocode_Ends_12 (ocode_Ends_12 : T_ocode_Ends_12) (N : Nat) : Typed p_ocode_Ends_12 := fun R x K => ocode_Ends_12 N x.1.1 x.1.2.1 x.1.2.2.1 x.1.2.2.2.1 (fun y0 => K .ret (encS o_ocode_Ends_12_0 ((y0, ()), (())))) (K .normal (encS o_ocode_Ends_12_1 ((()), (()))))
noncomputable def g_ocode_Ends_12 (N : Nat) : Typed p_ocode_Ends_12 := H_ocode_Ends_12 @ocode_Ends_12 N
noncomputable def p_ocode_Ends : SPat := ⟨[(0, .one (.val z4)), (1, .one (.val (.int .i64)))], []⟩
noncomputable def q_ocode_Ends_0 : SPat := ⟨[(0, .one (.val .bool))], []⟩
@[reducible] def A_ocode_Ends (R : Type) : Type := d4 → Int → (Bool → Option R) → Option R
@[reducible] def T_ocode_Ends : Type 1 := {R : Type} → Nat → A_ocode_Ends R
noncomputable def ocode_Ends_b (ocode_Ends_12 : T_ocode_Ends_12) : T_ocode_Ends := fun {R} N x0 x1 K0 =>
    if (((0 : Int) ≤ x1) ∧ (x1 < (len x0))) then (let v0 := (List.getD x0 (Int.toNat x1) ((0 : Int), ((0 : Int), (0 : Int)))).1; if ((v0 == (20 : Int)) = true) then (ocode_Ends_12 N x0 x1 v0 ((v0 == (20 : Int))) (fun y0 => K0 y0) (K0 false)) else (if ((v0 == (25 : Int)) = true) then (ocode_Ends_12 N x0 x1 v0 ((v0 == (25 : Int))) (fun y1 => K0 y1) (K0 false)) else (if ((v0 == (26 : Int)) = true) then (ocode_Ends_12 N x0 x1 v0 ((v0 == (26 : Int))) (fun y2 => K0 y2) (K0 false)) else (ocode_Ends_12 N x0 x1 v0 ((v0 == (27 : Int))) (fun y3 => K0 y3) (K0 false))))) else none
noncomputable def ocode_Ends : T_ocode_Ends := @ocode_Ends_b @ocode_Ends_12
noncomputable def g_ocode_Ends (N : Nat) : TypedM p_ocode_Ends [q_ocode_Ends_0] := fun R x C => ocode_Ends N x.1.1 x.1.2.1 (fun y0 => C.1 ((y0, ()), (())))
noncomputable def S_ocode_Ends (ocode_Ends : T_ocode_Ends) (N : Nat) : Go.AX.Spec := specM [true, true] [] false 2 0 p_ocode_Ends [q_ocode_Ends_0] (fun R x C => ocode_Ends N x.1.1 x.1.2.1 (fun y0 => C.1 ((y0, ()), (()))))
noncomputable def s_ocode_Ends (N : Nat) : Go.AX.Spec := S_ocode_Ends @ocode_Ends N
noncomputable def L_ocode_Ends (N : Nat) : List (Nat × Frag) := [(12, fragOf p_ocode_Ends_12 (g_ocode_Ends_12 N))]
noncomputable def G_ocode_Ends (N : Nat) : List (Nat × Go.AX.Spec) := []
noncomputable def p_ocode_order_44 : SPat := ⟨[(0, .one (.val z4)), (3, .one (.val (.int .i64))), (4, .one (.val .bool))], []⟩
noncomputable def o_ocode_order_44_0 : SPat := ⟨[(2, .one (.val .bool))], []⟩
noncomputable def o_ocode_order_44_1 : SPat := ⟨[(0, .one (.val z4)), (3, .one (.val (.int .i64)))], []⟩
noncomputable def o_ocode_order_44 : Outs := .cons .ret o_ocode_order_44_0 (.cons .normal o_ocode_order_44_1 (.nil))
@[reducible] def A_ocode_order_44 (R : Type) : Type := d4 → Int → Bool → (Bool → Option R) → (d4 → Int → Option R) → Option R
@[reducible] def T_ocode_order_44 : Type 1 := {R : Type} → Nat → A_ocode_order_44 R
noncomputable def ocode_order_44_b (ocode_Ends : T_ocode_Ends) : T_ocode_order_44 := fun {R} N x0 x1 x2 K0 K1 =>
    if (x2 = true) then (ocode_Ends N x0 x1 (fun y0 => if ((!y0) = true) then (K0 false) else (K1 x0 x1))) else (let v0 := (wi (x1 + (1 : Int))); if (((0 : Int) ≤ v0) ∧ (v0 < (len x0))) then (if (((List.getD x0 (Int.toNat v0) ((0 : Int), ((0 : Int), (0 : Int)))).1 == (24 : Int)) = true) then (ocode_Ends N x0 x1 (fun y1 => if ((!y1) = true) then (K0 false) else (K1 x0 x1))) else (K1 x0 x1)) else none)
noncomputable def ocode_order_44 : T_ocode_order_44 := @ocode_order_44_b @ocode_Ends
noncomputable def H_ocode_order_44 (ocode_order_44 : T_ocode_order_44) (N : Nat) : Typed p_ocode_order_44 := fun R x K => ocode_order_44 N x.1.1 x.1.2.1 x.1.2.2.1 (fun y0 => K .ret (encS o_ocode_order_44_0 ((y0, ()), (())))) (fun y0 y1 => K .normal (encS o_ocode_order_44_1 ((y0, y1, ()), (()))))
noncomputable def g_ocode_order_44 (N : Nat) : Typed p_ocode_order_44 := H_ocode_order_44 @ocode_order_44 N
noncomputable def p_ocode_order_5 : SPat := ⟨[(0, .one (.val z4)), (3, .one (.val (.int .i64)))], []⟩
noncomputable def o_ocode_order_5_0 : SPat := ⟨[(2, .one (.val .bool))], []⟩
noncomputable def o_ocode_order_5_1 : SPat := ⟨[(0, .one (.val z4))], []⟩
noncomputable def o_ocode_order_5 : Outs := .cons .ret o_ocode_order_5_0 (.cons (.exit 0) o_ocode_order_5_1 (.nil))
@[reducible] def A_ocode_order_5 (R : Type) : Type := d4 → Int → (Bool → Option R) → (d4 → Option R) → Option R
@[reducible] def B_ocode_order_5 (R : Type) : Type := d4 → Int → Option R
@[reducible] def T_ocode_order_5 : Type 1 := {R : Type} → Nat → Nat → A_ocode_order_5 R
noncomputable def ocode_order_5_b (ocode_order_17 : T_ocode_order_17) (ocode_order_44 : T_ocode_order_44) {R : Type} (N : Nat) (rc : B_ocode_order_5 R) : A_ocode_order_5 R := fun x0 x1 K0 K1 =>
    if ((decide ((x1 < (len x0)))) = true) then (let v0 := (wi (x1 + (1 : Int))); if (((0 : Int) ≤ x1) ∧ (x1 < (len x0))) then (let v1 := (List.getD x0 (Int.toNat x1) ((0 : Int), ((0 : Int), (0 : Int)))).1; if ((v1 == (29 : Int)) = true) then (if (((0 : Int) ≤ x1) ∧ (x1 < (len x0))) then (ocode_order_17 N N x0 x1 ((List.getD x0 (Int.toNat x1) ((0 : Int), ((0 : Int), (0 : Int)))).2.2) 0 (fun y0 => K0 y0) (fun y1 y2 => if (((0 : Int) ≤ y2) ∧ (y2 < (len y1))) then (let v2 := (wi (y2 + (List.getD y1 (Int.toNat y2) ((0 : Int), ((0 : Int), (0 : Int)))).2.2)); let v3 := (wi (v2 + (1 : Int))); if ((!(v3 == (len y1))) = true) then (if (((0 : Int) ≤ v3) ∧ (v3 < (len y1))) then (if (((List.getD y1 (Int.toNat v3) ((0 : Int), ((0 : Int), (0 : Int)))).1 == (30 : Int)) = true) then (K0 false) else (ocode_order_44 N y1 v2 ((v3 == (len y1))) (fun y3 => K0 y3) (fun y4 y5 => rc y4 ((wi (y5 + (1 : Int))))))) else none) else (ocode_order_44 N y1 v2 ((v3 == (len y1))) (fun y6 => K0 y6) (fun y7 y8 => rc y7 ((wi (y8 + (1 : Int))))))) else none)) else none) else (if ((v1 == (30 : Int)) = true) then (K0 false) else (if ((v1 == (19 : Int)) = true) then (if ((v0 == (len x0)) = true) then (K0 false) else (if (((0 : Int) ≤ v0) ∧ (v0 < (len x0))) then (let v4 := (List.getD x0 (Int.toNat v0) ((0 : Int), ((0 : Int), (0 : Int)))).1; if ((v4 != (18 : Int)) = true) then (if (((0 : Int) ≤ v0) ∧ (v0 < (len x0))) then (if ((v4 != (28 : Int)) = true) then (if (((0 : Int) ≤ v0) ∧ (v0 < (len x0))) then (if ((v4 != (19 : Int)) = true) then (K0 false) else (ocode_order_44 N x0 x1 ((v0 == (len x0))) (fun y9 => K0 y9) (fun y10 y11 => rc y10 ((wi (y11 + (1 : Int))))))) else none) else (ocode_order_44 N x0 x1 ((v0 == (len x0))) (fun y12 => K0 y12) (fun y13 y14 => rc y13 ((wi (y14 + (1 : Int))))))) else none) else (ocode_order_44 N x0 x1 ((v0 == (len x0))) (fun y15 => K0 y15) (fun y16 y17 => rc y16 ((wi (y17 + (1 : Int))))))) else none)) else (ocode_order_44 N x0 x1 ((v0 == (len x0))) (fun y18 => K0 y18) (fun y19 y20 => rc y19 ((wi (y20 + (1 : Int))))))))) else none) else (K1 x0)
noncomputable def ocode_order_5 {R : Type} (N : Nat) : Nat → A_ocode_order_5 R
  | 0 => fun _ _ _ _ => none
  | k + 1 => fun x0 x1 K0 K1 => ocode_order_5_b @ocode_order_17 @ocode_order_44 N (fun x0 x1 => ocode_order_5 N k x0 x1 K0 K1) x0 x1 K0 K1
noncomputable def H_ocode_order_5 (ocode_order_5 : T_ocode_order_5) (N k : Nat) : Typed p_ocode_order_5 := fun R x K => ocode_order_5 N k x.1.1 x.1.2.1 (fun y0 => K .ret (encS o_ocode_order_5_0 ((y0, ()), (())))) (fun y0 => K (.exit 0) (encS o_ocode_order_5_1 ((y0, ()), (()))))
noncomputable def g_ocode_order_5 (N k : Nat) : Typed p_ocode_order_5 := H_ocode_order_5 @ocode_order_5 N k
noncomputable def p_ocode_order : SPat := ⟨[(0, .one (.val z4))], []⟩
noncomputable def q_ocode_order_0 : SPat := ⟨[(0, .one (.val .bool))], []⟩
@[reducible] def A_ocode_order (R : Type) : Type := d4 → (Bool → Option R) → Option R
@[reducible] def T_ocode_order : Type 1 := {R : Type} → Nat → A_ocode_order R
noncomputable def ocode_order_b (ocode_order_5 : T_ocode_order_5) : T_ocode_order := fun {R} N x0 K0 =>
    ocode_order_5 N N x0 0 (fun y0 => K0 y0) (fun y1 => if (((len y1) == (0 : Int)) = true) then (K0 true) else (if (((0 : Int) ≤ (0 : Int)) ∧ ((0 : Int) < (len y1))) then (K0 (((List.getD y1 (0 : Nat) ((0 : Int), ((0 : Int), (0 : Int)))).1 == (24 : Int)))) else none))
noncomputable def ocode_order : T_ocode_order := @ocode_order_b @ocode_order_5
noncomputable def g_ocode_order (N : Nat) : TypedM p_ocode_order [q_ocode_order_0] := fun R x C => ocode_order N x.1.1 (fun y0 => C.1 ((y0, ()), (())))
noncomputable def S_ocode_order (ocode_order : T_ocode_order) (N : Nat) : Go.AX.Spec := specM [true] [] false 1 0 p_ocode_order [q_ocode_order_0] (fun R x C => ocode_order N x.1.1 (fun y0 => C.1 ((y0, ()), (()))))
noncomputable def s_ocode_order (N : Nat) : Go.AX.Spec := S_ocode_order @ocode_order N
noncomputable def L_ocode_order (N : Nat) : List (Nat × Frag) := [(17, fragOf p_ocode_order_17 (g_ocode_order_17 N N)), (44, fragOf p_ocode_order_44 (g_ocode_order_44 N)), (5, fragOf p_ocode_order_5 (g_ocode_order_5 N N))]
noncomputable def G_ocode_order (N : Nat) : List (Nat × Go.AX.Spec) := [(113, s_ocode_Ends N)]
noncomputable def b_ocode_areas : Code := Go.Proofs.Try.f109.body.getD .skip
noncomputable def b_slices_ContainsFunc_int_int : Code := Go.Proofs.Try.f120.body.getD .skip
noncomputable def b_slices_IndexFunc_int_int : Code := Go.Proofs.Try.f124.body.getD .skip
noncomputable def b_ocode_areas_1 : Code := Go.Proofs.Try.f121.body.getD .skip
noncomputable def p_ocode_areas_1 : SPat := ⟨[(0, .one (.val (.int .i64)))], []⟩
noncomputable def q_ocode_areas_1_0 : SPat := ⟨[(0, .one (.val .bool))], []⟩
@[reducible] def A_ocode_areas_1 (R : Type) : Type := Int → (Bool → Option R) → Option R
@[reducible] def T_ocode_areas_1 : Type 1 := {R : Type} → Nat → A_ocode_areas_1 R
noncomputable def ocode_areas_1_b (ocode_wide : T_ocode_wide) : T_ocode_areas_1 := fun {R} N x0 K0 =>
    ocode_wide N x0 (fun y0 => K0 ((!y0)))
noncomputable def ocode_areas_1 : T_ocode_areas_1 := @ocode_areas_1_b @ocode_wide
noncomputable def g_ocode_areas_1 (N : Nat) : TypedM p_ocode_areas_1 [q_ocode_areas_1_0] := fun R x C => ocode_areas_1 N x.1.1 (fun y0 => C.1 ((y0, ()), (())))
noncomputable def S_ocode_areas_1 (ocode_areas_1 : T_ocode_areas_1) (N : Nat) : Go.AX.Spec := specM [true] [] false 1 0 p_ocode_areas_1 [q_ocode_areas_1_0] (fun R x C => ocode_areas_1 N x.1.1 (fun y0 => C.1 ((y0, ()), (()))))
noncomputable def s_ocode_areas_1 (N : Nat) : Go.AX.Spec := S_ocode_areas_1 @ocode_areas_1 N
noncomputable def L_ocode_areas_1 (N : Nat) : List (Nat × Frag) := []
noncomputable def G_ocode_areas_1 (N : Nat) : List (Nat × Go.AX.Spec) := [(118, s_ocode_wide N)]
noncomputable def p_slices_IndexFunc_int_int_5 : SPat := ⟨[(0, .one (.val (.list (.int .i64)))), (1, .one (.fn 121)), (7, .one (.val (.int .i64))), (8, .one (.val (.int .i64)))], []⟩
noncomputable def o_slices_IndexFunc_int_int_5_0 : SPat := ⟨[(4, .one (.val (.int .i64)))], []⟩
noncomputable def o_slices_IndexFunc_int_int_5_1 : SPat := ⟨[], []⟩
noncomputable def o_slices_IndexFunc_int_int_5 : Outs := .cons .ret o_slices_IndexFunc_int_int_5_0 (.cons (.exit 0) o_slices_IndexFunc_int_int_5_1 (.nil))
@[reducible] def A_slices_IndexFunc_int_int_5 (R : Type) : Type := d0 → Int → Int → (Int → Option R) → (Option R) → Option R
@[reducible] def B_slices_IndexFunc_int_int_5 (R : Type) : Type := d0 → Int → Int → Option R
@[reducible] def T_slices_IndexFunc_int_int_5 : Type 1 := {R : Type} → Nat → Nat → A_slices_IndexFunc_int_int_5 R
noncomputable def slices_IndexFunc_int_int_5_b (ocode_areas_1 : T_ocode_areas_1) {R : Type} (N : Nat) (rc : B_slices_IndexFunc_int_int_5 R) : A_slices_IndexFunc_int_int_5 R := fun x0 x1 x2 K0 K1 =>
    if ((decide ((x2 < x1))) = true) then (if (((0 : Int) ≤ x2) ∧ (x2 < (len x0))) then (ocode_areas_1 N ((List.getD x0 (Int.toNat x2) (0 : Int))) (fun y0 => if (y0 = true) then (K0 x2) else (rc x0 x1 ((wi (x2 + (1 : Int))))))) else none) else K1
noncomputable def slices_IndexFunc_int_int_5 {R : Type} (N : Nat) : Nat → A_slices_IndexFunc_int_int_5 R
  | 0 => fun _ _ _ _ _ => none
  | k + 1 => fun x0 x1 x2 K0 K1 => slices_IndexFunc_int_int_5_b @ocode_areas_1 N (fun x0 x1 x2 => slices_IndexFunc_int_int_5 N k x0 x1 x2 K0 K1) x0 x1 x2 K0 K1
noncomputable def H_slices_IndexFunc_int_int_5 (slices_IndexFunc_int_int_5 : T_slices_IndexFunc_int_int_5) (N k : Nat) : Typed p_slices_IndexFunc_int_int_5 := fun R x K => slices_IndexFunc_int_int_5 N k x.1.1 x.1.2.2.1 x.1.2.2.2.1 (fun y0 => K .ret (encS o_slices_IndexFunc_int_int_5_0 ((y0, ()), (())))) (K (.exit 0) (encS o_slices_IndexFunc_int_int_5_1 ((()), (()))))
noncomputable def g_slices_IndexFunc_int_int_5 (N k : Nat) : Typed p_slices_IndexFunc_int_int_5 := H_slices_IndexFunc_int_int_5 @slices_IndexFunc_int_int_5 N k
noncomputable def p_slices_IndexFunc_int_int : SPat := ⟨[(0, .one (.val (.list (.int .i64)))), (1, .one (.fn 121))], []⟩
noncomputable def q_slices_IndexFunc_int_int_0 : SPat := ⟨[(0, .one (.val (.int .i64)))], []⟩
@[reducible] def A_slices_IndexFunc_int_int (R : Type) : Type := d0 → (Int → Option R) → Option R
@[reducible] def T_slices_IndexFunc_int_int : Type 1 := {R : Type} → Nat → A_slices_IndexFunc_int_int R
noncomputable def slices_IndexFunc_int_int_b (slices_IndexFunc_int_int_5 : T_slices_IndexFunc_int_int_5) : T_slices_IndexFunc_int_int := fun {R} N x0 K0 =>
    slices_IndexFunc_int_int_5 N N x0 ((len x0)) 0 (fun y0 => K0 y0) (K0 (-1))
noncomputable def slices_IndexFunc_int_int : T_slices_IndexFunc_int_int := @slices_IndexFunc_int_int_b @slices_IndexFunc_int_int_5
noncomputable def g_slices_IndexFunc_int_int (N : Nat) : TypedM p_slices_IndexFunc_int_int [q_slices_IndexFunc_int_int_0] := fun R x C => slices_IndexFunc_int_int N x.1.1 (fun y0 => C.1 ((y0, ()), (())))
noncomputable def S_slices_IndexFunc_int_int (slices_IndexFunc_int_int : T_slices_IndexFunc_int_int) (N : Nat) : Go.AX.Spec := specM [true, true] [] false 2 0 p_slices_IndexFunc_int_int [q_slices_IndexFunc_int_int_0] (fun R x C => slices_IndexFunc_int_int N x.1.1 (fun y0 => C.1 ((y0, ()), (()))))
noncomputable def s_slices_IndexFunc_int_int (N : Nat) : Go.AX.Spec := S_slices_IndexFunc_int_int @slices_IndexFunc_int_int N
noncomputable def L_slices_IndexFunc_int_int (N : Nat) : List (Nat × Frag) := [(5, fragOf p_slices_IndexFunc_int_int_5 (g_slices_IndexFunc_int_int_5 N N))]
noncomputable def G_slices_IndexFunc_int_int (N : Nat) : List (Nat × Go.AX.Spec) := [(121, s_ocode_areas_1 N)]
noncomputable def p_slices_ContainsFunc_int_int : SPat := ⟨[(0, .one (.val (.list (.int .i64)))), (1, .one (.fn 121))], []⟩
noncomputable def q_slices_ContainsFunc_int_int_0 : SPat := ⟨[(0, .one (.val .bool))], []⟩
@[reducible] def A_slices_ContainsFunc_int_int (R : Type) : Type := d0 → (Bool → Option R) → Option R
@[reducible] def T_slices_ContainsFunc_int_int : Type 1 := {R : Type} → Nat → A_slices_ContainsFunc_int_int R
noncomputable def slices_ContainsFunc_int_int_b (slices_IndexFunc_int_int : T_slices_IndexFunc_int_int) : T_slices_ContainsFunc_int_int := fun {R} N x0 K0 =>
    slices_IndexFunc_int_int N x0 (fun y0 => K0 ((decide ((y0 ≥ (0 : Int))))))
noncomputable def slices_ContainsFunc_int_int : T_slices_ContainsFunc_int_int := @slices_ContainsFunc_int_int_b @slices_IndexFunc_int_int
noncomputable def g_slices_ContainsFunc_int_int (N : Nat) : TypedM p_slices_ContainsFunc_int_int [q_slices_ContainsFunc_int_int_0] := fun R x C => slices_ContainsFunc_int_int N x.1.1 (fun y0 => C.1 ((y0, ()), (())))
noncomputable def S_slices_ContainsFunc_int_int (slices_ContainsFunc_int_int : T_slices_ContainsFunc_int_int) (N : Nat) : Go.AX.Spec := specM [true, true] [] false 2 0 p_slices_ContainsFunc_int_int [q_slices_ContainsFunc_int_int_0] (fun R x C => slices_ContainsFunc_int_int N x.1.1 (fun y0 => C.1 ((y0, ()), (()))))
noncomputable def s_slices_ContainsFunc_int_int (N : Nat) : Go.AX.Spec := S_slices_ContainsFunc_int_int @slices_ContainsFunc_int_int N
noncomputable def L_slices_ContainsFunc_int_int (N : Nat) : List (Nat × Frag) := []
noncomputable def G_slices_ContainsFunc_int_int (N : Nat) : List (Nat × Go.AX.Spec) := [(124, s_slices_IndexFunc_int_int N)]
noncomputable def p_ocode_areas_5 : SPat := ⟨[(1, .one (.ptr 32)), (11, .one (.val z3)), (12, .one (.val (.int .i64))), (13, .one (.val (.int .i64)))], [(32, .cells 34 [(.val .str), (.val z3), (.val z4), (.val z1), (.val (.int .i64)), (.val (.int .i64))])]⟩
noncomputable def o_ocode_areas_5_0 : SPat := ⟨[(2, .one (.val .bool))], []⟩
noncomputable def o_ocode_areas_5_1 : SPat := ⟨[(1, .one (.ptr 32))], [(32, .cells 34 [(.val .str), (.val z3), (.val z4), (.val z1), (.val (.int .i64)), (.val (.int .i64))])]⟩
noncomputable def o_ocode_areas_5 : Outs := .cons .ret o_ocode_areas_5_0 (.cons (.exit 0) o_ocode_areas_5_1 (.nil))
@[reducible] def A_ocode_areas_5 (R : Type) : Type := d5 → Int → Int → (List UInt8) → d5 → d4 → d1 → Int → Int → (Bool → Option R) → ((List UInt8) → d5 → d4 → d1 → Int → Int → Option R) → Option R
@[reducible] def B_ocode_areas_5 (R : Type) : Type := d5 → Int → Int → (List UInt8) → d5 → d4 → d1 → Int → Int → Option R
@[reducible] def T_ocode_areas_5 : Type 1 := {R : Type} → Nat → Nat → A_ocode_areas_5 R
noncomputable def ocode_areas_5_b (lex_Quote : T_lex_Quote) (slices_ContainsFunc_int_int : T_slices_ContainsFunc_int_int) {R : Type} (N : Nat) (rc : B_ocode_areas_5 R) : A_ocode_areas_5 R := fun x0 x1 x2 x3 x4 x5 x6 x7 x8 K0 K1 =>
    if ((decide ((x2 < x1))) = true) then (if (((0 : Int) ≤ x2) ∧ (x2 < (len x0))) then (let v0 := (List.getD x0 (Int.toNat x2) (([] : List UInt8), (false, ([] : List Int)))).1; let v1 := (List.getD x0 (Int.toNat x2) (([] : List UInt8), (false, ([] : List Int)))).2.2; if ((List.getD x0 (Int.toNat x2) (([] : List UInt8), (false, ([] : List Int)))).2.1 = true) then (lex_Quote N v0 (fun y0 y1 => if ((y1 != (0 : Int)) = true) then (K0 false) else (if ((decide (((len v1) > (0 : Int)))) = true) then (K0 false) else (rc x0 x1 ((wi (x2 + (1 : Int)))) x3 x4 x5 x6 x7 x8)))) else (if ((!(v0 == ([] : List UInt8))) = true) then (K0 false) else (if (((len v1) == (0 : Int)) = true) then (K0 false) else (slices_ContainsFunc_int_int N v1 (fun y2 => if (y2 = true) then (K0 false) else (rc x0 x1 ((wi (x2 + (1 : Int)))) x3 x4 x5 x6 x7 x8)))))) else none) else (K1 x3 x4 x5 x6 x7 x8)
noncomputable def ocode_areas_5 {R : Type} (N : Nat) : Nat → A_ocode_areas_5 R
  | 0 => fun _ _ _ _ _ _ _ _ _ _ _ => none
  | k + 1 => fun x0 x1 x2 x3 x4 x5 x6 x7 x8 K0 K1 => ocode_areas_5_b @lex_Quote @slices_ContainsFunc_int_int N (fun x0 x1 x2 x3 x4 x5 x6 x7 x8 => ocode_areas_5 N k x0 x1 x2 x3 x4 x5 x6 x7 x8 K0 K1) x0 x1 x2 x3 x4 x5 x6 x7 x8 K0 K1
noncomputable def H_ocode_areas_5 (ocode_areas_5 : T_ocode_areas_5) (N k : Nat) : Typed p_ocode_areas_5 := fun R x K => ocode_areas_5 N k x.1.2.1 x.1.2.2.1 x.1.2.2.2.1 x.2.1.1 x.2.1.2.1 x.2.1.2.2.1 x.2.1.2.2.2.1 x.2.1.2.2.2.2.1 x.2.1.2.2.2.2.2.1 (fun y0 => K .ret (encS o_ocode_areas_5_0 ((y0, ()), (())))) (fun y0 y1 y2 y3 y4 y5 => K (.exit 0) (encS o_ocode_areas_5_1 (((), ()), ((y0, y1, y2, y3, y4, y5, ()), ()))))
noncomputable def g_ocode_areas_5 (N k : Nat) : Typed p_ocode_areas_5 := H_ocode_areas_5 @ocode_areas_5 N k
noncomputable def p_ocode_areas_27 : SPat := ⟨[(1, .one (.ptr 32)), (7, .one (.mp 33)), (50, .one (.val z1)), (51, .one (.val (.int .i64))), (52, .one (.val (.int .i64)))], [(32, .cells 34 [(.val .str), (.val z3), (.val z4), (.val z1), (.val (.int .i64)), (.val (.int .i64))]), (33, .amap 144 (.int .i64) .bool)]⟩
noncomputable def o_ocode_areas_27_0 : SPat := ⟨[(2, .one (.val .bool))], []⟩
noncomputable def o_ocode_areas_27_1 : SPat := ⟨[], []⟩
noncomputable def o_ocode_areas_27 : Outs := .cons .ret o_ocode_areas_27_0 (.cons (.exit 2) o_ocode_areas_27_1 (.nil))
@[reducible] def A_ocode_areas_27 (R : Type) : Type := d1 → Int → Int → (List UInt8) → d5 → d4 → d1 → Int → Int → d3 → (Bool → Option R) → (Option R) → Option R
@[reducible] def B_ocode_areas_27 (R : Type) : Type := d1 → Int → Int → (List UInt8) → d5 → d4 → d1 → Int → Int → d3 → Option R
@[reducible] def T_ocode_areas_27 : Type 1 := {R : Type} → Nat → Nat → A_ocode_areas_27 R
noncomputable def ocode_areas_27_b (ocode_in : T_ocode_in) {R : Type} (N : Nat) (rc : B_ocode_areas_27 R) : A_ocode_areas_27 R := fun x0 x1 x2 x3 x4 x5 x6 x7 x8 x9 K0 K1 =>
    if ((decide ((x2 < x1))) = true) then (if (((0 : Int) ≤ x2) ∧ (x2 < (len x0))) then (let v0 := (List.getD x0 (Int.toNat x2) ((0 : Int), (0 : Int))).1; ocode_in N v0 1 199 (fun y0 => if ((!y0) = true) then (K0 false) else (if ((Option.getD (mget (kt := (.int .i64)) (et := .bool) v0 x9) false) = true) then (K0 false) else (ocode_in N ((List.getD x0 (Int.toNat x2) ((0 : Int), (0 : Int))).2) 1 x7 (fun y1 => if ((!y1) = true) then (K0 false) else (rc x0 x1 ((wi (x2 + (1 : Int)))) x3 x4 x5 x6 x7 x8 ((mset (kt := (.int .i64)) (et := .bool) v0 true x9)))))))) else none) else K1
noncomputable def ocode_areas_27 {R : Type} (N : Nat) : Nat → A_ocode_areas_27 R
  | 0 => fun _ _ _ _ _ _ _ _ _ _ _ _ => none
  | k + 1 => fun x0 x1 x2 x3 x4 x5 x6 x7 x8 x9 K0 K1 => ocode_areas_27_b @ocode_in N (fun x0 x1 x2 x3 x4 x5 x6 x7 x8 x9 => ocode_areas_27 N k x0 x1 x2 x3 x4 x5 x6 x7 x8 x9 K0 K1) x0 x1 x2 x3 x4 x5 x6 x7 x8 x9 K0 K1
noncomputable def H_ocode_areas_27 (ocode_areas_27 : T_ocode_areas_27) (N k : Nat) : Typed p_ocode_areas_27 := fun R x K => ocode_areas_27 N k x.1.2.2.1 x.1.2.2.2.1 x.1.2.2.2.2.1 x.2.1.1 x.2.1.2.1 x.2.1.2.2.1 x.2.1.2.2.2.1 x.2.1.2.2.2.2.1 x.2.1.2.2.2.2.2.1 x.2.2.1 (fun y0 => K .ret (encS o_ocode_areas_27_0 ((y0, ()), (())))) (K (.exit 2) (encS o_ocode_areas_27_1 ((()), (()))))
noncomputable def g_ocode_areas_27 (N k : Nat) : Typed p_ocode_areas_27 := H_ocode_areas_27 @ocode_areas_27 N k
noncomputable def p_ocode_areas : SPat := ⟨[(0, .agg [(.val .str), (.val z3), (.val z4), (.val z1), (.val (.int .i64)), (.val (.int .i64))])], []⟩
noncomputable def q_ocode_areas_0 : SPat := ⟨[(0, .one (.val .bool))], []⟩
@[reducible] def A_ocode_areas (R : Type) : Type := (List UInt8) → d5 → d4 → d1 → Int → Int → (Bool → Option R) → Option R
@[reducible] def T_ocode_areas : Type 1 := {R : Type} → Nat → A_ocode_areas R
noncomputable def ocode_areas_b (ocode_areas_5 : T_ocode_areas_5) (ocode_areas_27 : T_ocode_areas_27) : T_ocode_areas := fun {R} N x0 x1 x2 x3 x4 x5 K0 =>
    ocode_areas_5 N N x1 ((len x1)) 0 x0 x1 x2 x3 x4 x5 (fun y0 => K0 y0) (fun y1 y2 y3 y4 y5 y6 => ocode_areas_27 N N y4 ((len y4)) 0 y1 y2 y3 y4 y5 y6 (([] : List (Int × Bool))) (fun y7 => K0 y7) (K0 true))
noncomputable def ocode_areas : T_ocode_areas := @ocode_areas_b @ocode_areas_5 @ocode_areas_27
noncomputable def g_ocode_areas (N : Nat) : TypedM p_ocode_areas [q_ocode_areas_0] := fun R x C => ocode_areas N x.1.1.1 x.1.1.2.1 x.1.1.2.2.1 x.1.1.2.2.2.1 x.1.1.2.2.2.2.1 x.1.1.2.2.2.2.2.1 (fun y0 => C.1 ((y0, ()), (())))
noncomputable def S_ocode_areas (ocode_areas : T_ocode_areas) (N : Nat) : Go.AX.Spec := specM [true] [] false 1 0 p_ocode_areas [q_ocode_areas_0] (fun R x C => ocode_areas N x.1.1.1 x.1.1.2.1 x.1.1.2.2.1 x.1.1.2.2.2.1 x.1.1.2.2.2.2.1 x.1.1.2.2.2.2.2.1 (fun y0 => C.1 ((y0, ()), (()))))
noncomputable def s_ocode_areas (N : Nat) : Go.AX.Spec := S_ocode_areas @ocode_areas N
noncomputable def L_ocode_areas (N : Nat) : List (Nat × Frag) := [(5, fragOf p_ocode_areas_5 (g_ocode_areas_5 N N)), (27, fragOf p_ocode_areas_27 (g_ocode_areas_27 N N))]
noncomputable def G_ocode_areas (N : Nat) : List (Nat × Go.AX.Spec) := [(104, s_lex_Quote N), (120, s_slices_ContainsFunc_int_int N), (119, s_ocode_in N)]
noncomputable def b_ocode_Named : Code := Go.Proofs.Try.f54.body.getD .skip
noncomputable def p_ocode_Named_14 : SPat := ⟨[(1, .one (.ptr 32)), (4, .one (.val (.int .i64))), (5, .one (.val .bool))], [(32, .cells 24 [(.val (.int .i64)), (.val (.int .i64)), (.val (.int .i64))])]⟩
noncomputable def o_ocode_Named_14_0 : SPat := ⟨[(2, .one (.val (.int .i64)))], []⟩
noncomputable def o_ocode_Named_14_1 : SPat := ⟨[], []⟩
noncomputable def o_ocode_Named_14 : Outs := .cons .ret o_ocode_Named_14_0 (.cons .normal o_ocode_Named_14_1 (.nil))
@[reducible] def A_ocode_Named_14 (R : Type) : Type := Int → Bool → Int → Int → Int → (Int → Option R) → (Option R) → Option R
@[reducible] def T_ocode_Named_14 : Type 1 := {R : Type} → Nat → A_ocode_Named_14 R
noncomputable def ocode_Named_14 : T_ocode_Named_14 := fun {R} N x0 x1 x2 x3 x4 K0 K1 =>
    if (x1 = true) then (K0 x3) else (if ((x0 == (30 : Int)) = true) then (K0 x4) else K1)
noncomputable def H_ocode_Named_14 (ocode_Named_14 : T_ocode_Named_14) (N : Nat) : Typed p_ocode_Named_14 := fun R x K => ocode_Named_14 N x.1.2.1 x.1.2.2.1 x.2.1.1 x.2.1.2.1 x.2.1.2.2.1 (fun y0 => K .ret (encS o_ocode_Named_14_0 ((y0, ()), (())))) (K .normal (encS o_ocode_Named_14_1 ((()), (()))))
noncomputable def g_ocode_Named_14 (N : Nat) : Typed p_ocode_Named_14 := H_ocode_Named_14 @ocode_Named_14 N
noncomputable def p_ocode_Named : SPat := ⟨[(0, .agg [(.val (.int .i64)), (.val (.int .i64)), (.val (.int .i64))])], []⟩
noncomputable def q_ocode_Named_0 : SPat := ⟨[(0, .one (.val (.int .i64)))], []⟩
@[reducible] def A_ocode_Named (R : Type) : Type := Int → Int → Int → (Int → Option R) → Option R
@[reducible] def T_ocode_Named : Type 1 := {R : Type} → Nat → A_ocode_Named R
noncomputable def ocode_Named_b (ocode_Named_14 : T_ocode_Named_14) : T_ocode_Named := fun {R} N x0 x1 x2 K0 =>
    if ((x0 == (20 : Int)) = true) then (ocode_Named_14 N x0 ((x0 == (20 : Int))) x0 x1 x2 (fun y0 => K0 y0) (K0 0)) else (if ((x0 == (21 : Int)) = true) then (ocode_Named_14 N x0 ((x0 == (21 : Int))) x0 x1 x2 (fun y1 => K0 y1) (K0 0)) else (if ((x0 == (22 : Int)) = true) then (ocode_Named_14 N x0 ((x0 == (22 : Int))) x0 x1 x2 (fun y2 => K0 y2) (K0 0)) else (if ((x0 == (27 : Int)) = true) then (ocode_Named_14 N x0 ((x0 == (27 : Int))) x0 x1 x2 (fun y3 => K0 y3) (K0 0)) else (ocode_Named_14 N x0 ((x0 == (29 : Int))) x0 x1 x2 (fun y4 => K0 y4) (K0 0)))))
noncomputable def ocode_Named : T_ocode_Named := @ocode_Named_b @ocode_Named_14
noncomputable def g_ocode_Named (N : Nat) : TypedM p_ocode_Named [q_ocode_Named_0] := fun R x C => ocode_Named N x.1.1.1 x.1.1.2.1 x.1.1.2.2.1 (fun y0 => C.1 ((y0, ()), (())))
noncomputable def S_ocode_Named (ocode_Named : T_ocode_Named) (N : Nat) : Go.AX.Spec := specM [true] [] false 1 0 p_ocode_Named [q_ocode_Named_0] (fun R x C => ocode_Named N x.1.1.1 x.1.1.2.1 x.1.1.2.2.1 (fun y0 => C.1 ((y0, ()), (()))))
noncomputable def s_ocode_Named (N : Nat) : Go.AX.Spec := S_ocode_Named @ocode_Named N
noncomputable def L_ocode_Named (N : Nat) : List (Nat × Frag) := [(14, fragOf p_ocode_Named_14 (g_ocode_Named_14 N))]
noncomputable def G_ocode_Named (N : Nat) : List (Nat × Go.AX.Spec) := []
noncomputable def p_ocode_coded_40 : SPat := ⟨[(8, .one (.slf 32)), (9, .one (.slf 33)), (11, .one (.val (.int .i64))), (13, .one (.ptr 34)), (80, .one (.val z4)), (81, .one (.val (.int .i64))), (82, .one (.val (.int .i64)))], [(32, .row 3 (.int .i64)), (33, .row 3 (.int .i64)), (34, .cells 24 [(.val (.int .i64)), (.val (.int .i64)), (.val (.int .i64))])]⟩
noncomputable def o_ocode_coded_40_0 : SPat := ⟨[(2, .one (.val .bool))], []⟩
noncomputable def o_ocode_coded_40_1 : SPat := ⟨[(8, .one (.slf 32)), (9, .one (.slf 33)), (11, .one (.val (.int .i64))), (80, .one (.val z4)), (81, .one (.val (.int .i64))), (82, .one (.val (.int .i64)))], [(32, .row 3 (.int .i64)), (33, .row 3 (.int .i64))]⟩
noncomputable def o_ocode_coded_40 : Outs := .cons .ret o_ocode_coded_40_0 (.cons .normal o_ocode_coded_40_1 (.nil))
@[reducible] def A_ocode_coded_40 (R : Type) : Type := Int → d4 → Int → Int → d0 → d0 → Int → Int → Int → (Bool → Option R) → (Int → d4 → Int → Int → d0 → d0 → Option R) → Option R
@[reducible] def T_ocode_coded_40 : Type 1 := {R : Type} → Nat → A_ocode_coded_40 R
noncomputable def ocode_coded_40_b (ocode_Named : T_ocode_Named) : T_ocode_coded_40 := fun {R} N x0 x1 x2 x3 x4 x5 x6 x7 x8 K0 K1 =>
    ocode_Named N x6 x7 x8 (fun y0 => if ((decide ((y0 > (0 : Int)))) = true) then (if (((0 : Int) ≤ y0) ∧ (y0 < (len x5))) then (if (((List.getD x5 (Int.toNat y0) (0 : Int)) != x0) = true) then (K0 false) else (if (((0 : Int) ≤ y0) ∧ (y0 < (len x4))) then (if (((List.getD x4 (Int.toNat y0) (0 : Int)) == (0 : Int)) = true) then (K0 false) else (K1 x0 x1 x2 x3 x4 x5)) else none)) else none) else (K1 x0 x1 x2 x3 x4 x5))
noncomputable def ocode_coded_40 : T_ocode_coded_40 := @ocode_coded_40_b @ocode_Named
noncomputable def H_ocode_coded_40 (ocode_coded_40 : T_ocode_coded_40) (N : Nat) : Typed p_ocode_coded_40 := fun R x K => ocode_coded_40 N x.1.2.2.1 x.1.2.2.2.2.1 x.1.2.2.2.2.2.1 x.1.2.2.2.2.2.2.1 x.2.1 x.2.2.1 x.2.2.2.1.1 x.2.2.2.1.2.1 x.2.2.2.1.2.2.1 (fun y0 => K .ret (encS o_ocode_coded_40_0 ((y0, ()), (())))) (fun y0 y1 y2 y3 y4 y5 => K .normal (encS o_ocode_coded_40_1 (((), (), y0, y1, y2, y3, ()), (y4, y5, ()))))
noncomputable def g_ocode_coded_40 (N : Nat) : Typed p_ocode_coded_40 := H_ocode_coded_40 @ocode_coded_40 N
noncomputable def p_ocode_coded_33 : SPat := ⟨[(8, .one (.slf 32)), (9, .one (.slf 33)), (11, .one (.val (.int .i64))), (80, .one (.val z4)), (81, .one (.val (.int .i64))), (82, .one (.val (.int .i64)))], [(32, .row 3 (.int .i64)), (33, .row 3 (.int .i64))]⟩
noncomputable def o_ocode_coded_33_0 : SPat := ⟨[(2, .one (.val .bool))], []⟩
noncomputable def o_ocode_coded_33_1 : SPat := ⟨[], []⟩
noncomputable def o_ocode_coded_33 : Outs := .cons .ret o_ocode_coded_33_0 (.cons (.exit 2) o_ocode_coded_33_1 (.nil))
@[reducible] def A_ocode_coded_33 (R : Type) : Type := Int → d4 → Int → Int → d0 → d0 → (Bool → Option R) → (Option R) → Option R
@[reducible] def B_ocode_coded_33 (R : Type) : Type := Int → d4 → Int → Int → d0 → d0 → Option R
@[reducible] def T_ocode_coded_33 : Type 1 := {R : Type} → Nat → Nat → A_ocode_coded_33 R
noncomputable def ocode_coded_33_b (ocode_coded_40 : T_ocode_coded_40) {R : Type} (N : Nat) (rc : B_ocode_coded_33 R) : A_ocode_coded_33 R := fun x0 x1 x2 x3 x4 x5 K0 K1 =>
    if ((decide ((x3 < x2))) = true) then (if (((0 : Int) ≤ x3) ∧ (x3 < (len x1))) then (let v0 := (List.getD x1 (Int.toNat x3) ((0 : Int), ((0 : Int), (0 : Int)))).1; let v1 := (List.getD x1 (Int.toNat x3) ((0 : Int), ((0 : Int), (0 : Int)))).2.1; let v2 := (List.getD x1 (Int.toNat x3) ((0 : Int), ((0 : Int), (0 : Int)))).2.2; if ((v0 == (24 : Int)) = true) then (ocode_coded_40 N v1 x1 x2 x3 x4 x5 v0 v1 v2 (fun y0 => K0 y0) (fun y1 y2 y3 y4 y5 y6 => rc y1 y2 y3 ((wi (y4 + (1 : Int)))) y5 y6)) else (ocode_coded_40 N x0 x1 x2 x3 x4 x5 v0 v1 v2 (fun y7 => K0 y7) (fun y8 y9 y10 y11 y12 y13 => rc y8 y9 y10 ((wi (y11 + (1 : Int)))) y12 y13))) else none) else K1
noncomputable def ocode_coded_33 {R : Type} (N : Nat) : Nat → A_ocode_coded_33 R
  | 0 => fun _ _ _ _ _ _ _ _ => none
  | k + 1 => fun x0 x1 x2 x3 x4 x5 K0 K1 => ocode_coded_33_b @ocode_coded_40 N (fun x0 x1 x2 x3 x4 x5 => ocode_coded_33 N k x0 x1 x2 x3 x4 x5 K0 K1) x0 x1 x2 x3 x4 x5 K0 K1
noncomputable def H_ocode_coded_33 (ocode_coded_33 : T_ocode_coded_33) (N k : Nat) : Typed p_ocode_coded_33 := fun R x K => ocode_coded_33 N k x.1.2.2.1 x.1.2.2.2.1 x.1.2.2.2.2.1 x.1.2.2.2.2.2.1 x.2.1 x.2.2.1 (fun y0 => K .ret (encS o_ocode_coded_33_0 ((y0, ()), (())))) (K (.exit 2) (encS o_ocode_coded_33_1 ((()), (()))))
noncomputable def g_ocode_coded_33 (N k : Nat) : Typed p_ocode_coded_33 := H_ocode_coded_33 @ocode_coded_33 N k
noncomputable def p_ocode_coded : SPat := ⟨[(0, .agg [(.val .str), (.val z3), (.val z4), (.val z1), (.val (.int .i64)), (.val (.int .i64))])], []⟩
noncomputable def q_ocode_coded_0 : SPat := ⟨[(0, .one (.val .bool))], []⟩
@[reducible] def A_ocode_coded (R : Type) : Type := (List UInt8) → d5 → d4 → d1 → Int → Int → (Bool → Option R) → Option R
@[reducible] def T_ocode_coded : Type 1 := {R : Type} → Nat → A_ocode_coded R
noncomputable def ocode_coded_b (lex_Quote : T_lex_Quote) (ocode_kinds : T_ocode_kinds) (ocode_coded_13 : T_ocode_coded_13) (ocode_places : T_ocode_places) (ocode_order : T_ocode_order) (ocode_areas : T_ocode_areas) (ocode_coded_33 : T_ocode_coded_33) : T_ocode_coded := fun {R} N x0 x1 x2 x3 x4 x5 K0 =>
    lex_Quote N x0 (fun y0 y1 => if ((y1 != (0 : Int)) = true) then (K0 false) else (if ((decide ((x4 < (0 : Int)))) = true) then (K0 false) else (if ((decide ((x5 < (0 : Int)))) = true) then (K0 false) else (ocode_kinds N (fun y2 y3 y4 y5 y6 y7 y8 y9 y10 y11 y12 y13 y14 y15 y16 y17 y18 y19 y20 y21 y22 y23 y24 y25 y26 y27 y28 y29 y30 y31 y32 y33 y34 y35 y36 y37 y38 y39 y40 y41 y42 y43 y44 y45 y46 y47 y48 y49 y50 y51 y52 y53 y54 y55 y56 y57 y58 y59 y60 y61 y62 y63 y64 y65 y66 y67 y68 y69 y70 y71 y72 y73 y74 y75 y76 y77 y78 y79 y80 y81 y82 y83 y84 y85 y86 y87 y88 y89 y90 y91 y92 y93 y94 y95 y96 y97 y98 y99 y100 y101 y102 y103 y104 y105 y106 y107 y108 y109 y110 y111 y112 y113 y114 y115 y116 y117 y118 y119 y120 y121 y122 y123 y124 y125 => ocode_coded_13 N N x2 ((len x2)) 0 x0 x1 x2 x3 x4 x5 (((y2, (y3, (y4, y5))) :: ((y6, (y7, (y8, y9))) :: ((y10, (y11, (y12, y13))) :: ((y14, (y15, (y16, y17))) :: ((y18, (y19, (y20, y21))) :: ((y22, (y23, (y24, y25))) :: ((y26, (y27, (y28, y29))) :: ((y30, (y31, (y32, y33))) :: ((y34, (y35, (y36, y37))) :: ((y38, (y39, (y40, y41))) :: ((y42, (y43, (y44, y45))) :: ((y46, (y47, (y48, y49))) :: ((y50, (y51, (y52, y53))) :: ((y54, (y55, (y56, y57))) :: ((y58, (y59, (y60, y61))) :: ((y62, (y63, (y64, y65))) :: ((y66, (y67, (y68, y69))) :: ((y70, (y71, (y72, y73))) :: ((y74, (y75, (y76, y77))) :: ((y78, (y79, (y80, y81))) :: ((y82, (y83, (y84, y85))) :: ((y86, (y87, (y88, y89))) :: ((y90, (y91, (y92, y93))) :: ((y94, (y95, (y96, y97))) :: ((y98, (y99, (y100, y101))) :: ((y102, (y103, (y104, y105))) :: ((y106, (y107, (y108, y109))) :: ((y110, (y111, (y112, y113))) :: ((y114, (y115, (y116, y117))) :: ((y118, (y119, (y120, y121))) :: ((y122, (y123, (y124, y125))) :: ([] : List (List UInt8 × Int × Int × Int)))))))))))))))))))))))))))))))))) (fun y126 => K0 y126) (fun y127 y128 y129 y130 y131 y132 => ocode_places N y127 y128 y129 y130 y131 y132 (fun y133 y134 y135 => if ((!y133) = true) then (K0 false) else (ocode_order N y129 (fun y136 => if ((!y136) = true) then (K0 false) else (ocode_areas N y127 y128 y129 y130 y131 y132 (fun y137 => if ((!y137) = true) then (K0 false) else (ocode_coded_33 N N 0 y129 ((len y129)) 0 y134 y135 (fun y138 => K0 y138) (K0 true)))))))))))))
noncomputable def ocode_coded : T_ocode_coded := @ocode_coded_b @lex_Quote @ocode_kinds @ocode_coded_13 @ocode_places @ocode_order @ocode_areas @ocode_coded_33
noncomputable def g_ocode_coded (N : Nat) : TypedM p_ocode_coded [q_ocode_coded_0] := fun R x C => ocode_coded N x.1.1.1 x.1.1.2.1 x.1.1.2.2.1 x.1.1.2.2.2.1 x.1.1.2.2.2.2.1 x.1.1.2.2.2.2.2.1 (fun y0 => C.1 ((y0, ()), (())))
noncomputable def S_ocode_coded (ocode_coded : T_ocode_coded) (N : Nat) : Go.AX.Spec := specM [true] [] false 1 0 p_ocode_coded [q_ocode_coded_0] (fun R x C => ocode_coded N x.1.1.1 x.1.1.2.1 x.1.1.2.2.1 x.1.1.2.2.2.1 x.1.1.2.2.2.2.1 x.1.1.2.2.2.2.2.1 (fun y0 => C.1 ((y0, ()), (()))))
noncomputable def s_ocode_coded (N : Nat) : Go.AX.Spec := S_ocode_coded @ocode_coded N
noncomputable def L_ocode_coded (N : Nat) : List (Nat × Frag) := [(13, fragOf p_ocode_coded_13 (g_ocode_coded_13 N N)), (40, fragOf p_ocode_coded_40 (g_ocode_coded_40 N)), (33, fragOf p_ocode_coded_33 (g_ocode_coded_33 N N))]
noncomputable def G_ocode_coded (N : Nat) : List (Nat × Go.AX.Spec) := [(104, s_lex_Quote N), (105, s_ocode_kinds N), (106, s_ocode_numbers N), (107, s_ocode_places N), (108, s_ocode_order N), (109, s_ocode_areas N), (54, s_ocode_Named N)]
noncomputable def b_ocode_stacked : Code := Go.Proofs.Try.f89.body.getD .skip
noncomputable def b_ocode_fits : Code := Go.Proofs.Try.f110.body.getD .skip
noncomputable def p_ocode_fits_8 : SPat := ⟨[(1, .one (.val (.int .i64))), (3, .one (.val .bool)), (4, .one (.ptr 32)), (6, .one (.ptr 33)), (10, .one (.val (.int .i64))), (11, .one (.val .bool))], [(32, .cells 24 [(.val (.int .i64)), (.val (.int .i64)), (.val (.int .i64))]), (33, .cells 132 [(.val .str), (.val (.int .i64)), (.val (.int .i64)), (.val (.int .i64))])]⟩
noncomputable def o_ocode_fits_8_0 : SPat := ⟨[(8, .one (.val .bool))], []⟩
noncomputable def o_ocode_fits_8_1 : SPat := ⟨[(1, .one (.val (.int .i64))), (4, .one (.ptr 32)), (6, .one (.ptr 33))], [(32, .cells 24 [(.val (.int .i64)), (.val (.int .i64)), (.val (.int .i64))]), (33, .cells 132 [(.val .str), (.val (.int .i64)), (.val (.int .i64)), (.val (.int .i64))])]⟩
noncomputable def o_ocode_fits_8 : Outs := .cons .ret o_ocode_fits_8_0 (.cons .normal o_ocode_fits_8_1 (.nil))
@[reducible] def A_ocode_fits_8 (R : Type) : Type := Int → Bool → Int → Bool → Int → Int → Int → (List UInt8) → Int → Int → Int → (Bool → Option R) → (Int → Int → Int → Int → (List UInt8) → Int → Int → Int → Option R) → Option R
@[reducible] def T_ocode_fits_8 : Type 1 := {R : Type} → Nat → A_ocode_fits_8 R
noncomputable def ocode_fits_8_b (ocode_in : T_ocode_in) : T_ocode_fits_8 := fun {R} N x0 x1 x2 x3 x4 x5 x6 x7 x8 x9 x10 K0 K1 =>
    if (x3 = true) then (ocode_in N x5 2 ((wi (x0 - (1 : Int)))) (fun y0 => if ((!y0) = true) then (K0 false) else (K1 x0 x4 x5 x6 x7 x8 x9 x10))) else (if ((x2 == (4 : Int)) = true) then (if ((decide ((x5 < (2 : Int)))) = true) then (K0 false) else (K1 x0 x4 x5 x6 x7 x8 x9 x10)) else (if ((x2 == (23 : Int)) = true) then (ocode_in N x5 2 ((wi (x0 - (3 : Int)))) (fun y1 => if ((!y1) = true) then (K0 false) else (K1 x0 x4 x5 x6 x7 x8 x9 x10))) else (if ((x2 == (18 : Int)) = true) then (if ((!x1) = true) then (if ((decide ((x5 > (wi ((wi (x0 + (2000 : Int))) + (2 : Int)))))) = true) then (K0 false) else (K1 x0 x4 x5 x6 x7 x8 x9 x10)) else (K1 x0 x4 x5 x6 x7 x8 x9 x10)) else (K1 x0 x4 x5 x6 x7 x8 x9 x10))))
noncomputable def ocode_fits_8 : T_ocode_fits_8 := @ocode_fits_8_b @ocode_in
noncomputable def H_ocode_fits_8 (ocode_fits_8 : T_ocode_fits_8) (N : Nat) : Typed p_ocode_fits_8 := fun R x K => ocode_fits_8 N x.1.1 x.1.2.1 x.1.2.2.2.2.1 x.1.2.2.2.2.2.1 x.2.1.1 x.2.1.2.1 x.2.1.2.2.1 x.2.2.1.1 x.2.2.1.2.1 x.2.2.1.2.2.1 x.2.2.1.2.2.2.1 (fun y0 => K .ret (encS o_ocode_fits_8_0 ((y0, ()), (())))) (fun y0 y1 y2 y3 y4 y5 y6 y7 => K .normal (encS o_ocode_fits_8_1 ((y0, (), (), ()), ((y1, y2, y3, ()), (y4, y5, y6, y7, ()), ()))))
noncomputable def g_ocode_fits_8 (N : Nat) : Typed p_ocode_fits_8 := H_ocode_fits_8 @ocode_fits_8 N
noncomputable def p_ocode_fits_30 : SPat := ⟨[(1, .one (.val (.int .i64))), (4, .one (.ptr 32)), (6, .one (.ptr 33))], [(32, .cells 24 [(.val (.int .i64)), (.val (.int .i64)), (.val (.int .i64))]), (33, .cells 132 [(.val .str), (.val (.int .i64)), (.val (.int .i64)), (.val (.int .i64))])]⟩
noncomputable def o_ocode_fits_30_0 : SPat := ⟨[(8, .one (.val .bool))], []⟩
noncomputable def o_ocode_fits_30 : Outs := .cons .ret o_ocode_fits_30_0 (.nil)
@[reducible] def A_ocode_fits_30 (R : Type) : Type := Int → Int → Int → Int → (List UInt8) → Int → Int → Int → (Bool → Option R) → Option R
@[reducible] def T_ocode_fits_30 : Type 1 := {R : Type} → Nat → A_ocode_fits_30 R
noncomputable def ocode_fits_30 : T_ocode_fits_30 := fun {R} N x0 x1 x2 x3 x4 x5 x6 x7 K0 =>
    if ((x1 == (24 : Int)) = true) then (K0 true) else (K0 ((decide (((wi (x0 - x6)) ≥ (2 : Int))))))
noncomputable def H_ocode_fits_30 (ocode_fits_30 : T_ocode_fits_30) (N : Nat) : Typed p_ocode_fits_30 := fun R x K => ocode_fits_30 N x.1.1 x.2.1.1 x.2.1.2.1 x.2.1.2.2.1 x.2.2.1.1 x.2.2.1.2.1 x.2.2.1.2.2.1 x.2.2.1.2.2.2.1 (fun y0 => K .ret (encS o_ocode_fits_30_0 ((y0, ()), (()))))
noncomputable def g_ocode_fits_30 (N : Nat) : Typed p_ocode_fits_30 := H_ocode_fits_30 @ocode_fits_30 N
noncomputable def p_ocode_fits : SPat := ⟨[(0, .agg [(.val (.int .i64)), (.val (.int .i64)), (.val (.int .i64))]), (1, .one (.val (.int .i64))), (2, .agg [(.val .str), (.val (.int .i64)), (.val (.int .i64)), (.val (.int .i64))]), (3, .one (.val .bool))], []⟩
noncomputable def q_ocode_fits_0 : SPat := ⟨[(0, .one (.val .bool))], []⟩
@[reducible] def A_ocode_fits (R : Type) : Type := Int → Int → Int → Int → (List UInt8) → Int → Int → Int → Bool → (Bool → Option R) → Option R
@[reducible] def T_ocode_fits : Type 1 := {R : Type} → Nat → A_ocode_fits R
noncomputable def ocode_fits_b (ocode_fits_8 : T_ocode_fits_8) (ocode_fits_30 : T_ocode_fits_30) : T_ocode_fits := fun {R} N x0 x1 x2 x3 x4 x5 x6 x7 x8 K0 =>
    if ((x0 == (2 : Int)) = true) then (ocode_fits_8 N x3 x8 x0 ((x0 == (2 : Int))) x0 x1 x2 x4 x5 x6 x7 (fun y0 => K0 y0) (fun y1 y2 y3 y4 y5 y6 y7 y8 => ocode_fits_30 N y1 y2 y3 y4 y5 y6 y7 y8 (fun y9 => K0 y9))) else (ocode_fits_8 N x3 x8 x0 ((x0 == (3 : Int))) x0 x1 x2 x4 x5 x6 x7 (fun y10 => K0 y10) (fun y11 y12 y13 y14 y15 y16 y17 y18 => ocode_fits_30 N y11 y12 y13 y14 y15 y16 y17 y18 (fun y19 => K0 y19)))
noncomputable def ocode_fits : T_ocode_fits := @ocode_fits_b @ocode_fits_8 @ocode_fits_30
noncomputable def g_ocode_fits (N : Nat) : TypedM p_ocode_fits [q_ocode_fits_0] := fun R x C => ocode_fits N x.1.1.1 x.1.1.2.1 x.1.1.2.2.1 x.1.2.1 x.1.2.2.1.1 x.1.2.2.1.2.1 x.1.2.2.1.2.2.1 x.1.2.2.1.2.2.2.1 x.1.2.2.2.1 (fun y0 => C.1 ((y0, ()), (())))
noncomputable def S_ocode_fits (ocode_fits : T_ocode_fits) (N : Nat) : Go.AX.Spec := specM [true, true, true, true] [] false 4 0 p_ocode_fits [q_ocode_fits_0] (fun R x C => ocode_fits N x.1.1.1 x.1.1.2.1 x.1.1.2.2.1 x.1.2.1 x.1.2.2.1.1 x.1.2.2.1.2.1 x.1.2.2.1.2.2.1 x.1.2.2.1.2.2.2.1 x.1.2.2.2.1 (fun y0 => C.1 ((y0, ()), (()))))
noncomputable def s_ocode_fits (N : Nat) : Go.AX.Spec := S_ocode_fits @ocode_fits N
noncomputable def L_ocode_fits (N : Nat) : List (Nat × Frag) := [(8, fragOf p_ocode_fits_8 (g_ocode_fits_8 N)), (30, fragOf p_ocode_fits_30 (g_ocode_fits_30 N))]
noncomputable def G_ocode_fits (N : Nat) : List (Nat × Go.AX.Spec) := [(119, s_ocode_in N)]
noncomputable def b_ocode_after : Code := Go.Proofs.Try.f111.body.getD .skip
noncomputable def p_ocode_after_16 : SPat := ⟨[(3, .one (.ptr 32))], [(32, .cells 24 [(.val (.int .i64)), (.val (.int .i64)), (.val (.int .i64))])]⟩
noncomputable def o_ocode_after_16_0 : SPat := ⟨[(6, .one (.val (.int .i64)))], []⟩
noncomputable def o_ocode_after_16 : Outs := .cons .ret o_ocode_after_16_0 (.nil)
@[reducible] def A_ocode_after_16 (R : Type) : Type := Int → Int → Int → (Int → Option R) → Option R
@[reducible] def T_ocode_after_16 : Type 1 := {R : Type} → Nat → A_ocode_after_16 R
noncomputable def ocode_after_16 : T_ocode_after_16 := fun {R} N x0 x1 x2 K0 =>
    K0 ((wi (x1 + (1 : Int))))
noncomputable def H_ocode_after_16 (ocode_after_16 : T_ocode_after_16) (N : Nat) : Typed p_ocode_after_16 := fun R x K => ocode_after_16 N x.2.1.1 x.2.1.2.1 x.2.1.2.2.1 (fun y0 => K .ret (encS o_ocode_after_16_0 ((y0, ()), (()))))
noncomputable def g_ocode_after_16 (N : Nat) : Typed p_ocode_after_16 := H_ocode_after_16 @ocode_after_16 N
noncomputable def p_ocode_after_18 : SPat := ⟨[(1, .one (.val (.int .i64))), (5, .one (.ptr 32))], [(32, .cells 132 [(.val .str), (.val (.int .i64)), (.val (.int .i64)), (.val (.int .i64))])]⟩
noncomputable def o_ocode_after_18_0 : SPat := ⟨[(6, .one (.val (.int .i64)))], []⟩
noncomputable def o_ocode_after_18 : Outs := .cons .ret o_ocode_after_18_0 (.nil)
@[reducible] def A_ocode_after_18 (R : Type) : Type := Int → (List UInt8) → Int → Int → Int → (Int → Option R) → Option R
@[reducible] def T_ocode_after_18 : Type 1 := {R : Type} → Nat → A_ocode_after_18 R
noncomputable def ocode_after_18 : T_ocode_after_18 := fun {R} N x0 x1 x2 x3 x4 K0 =>
    K0 ((wi ((wi (x0 - x3)) + x4)))
noncomputable def H_ocode_after_18 (ocode_after_18 : T_ocode_after_18) (N : Nat) : Typed p_ocode_after_18 := fun R x K => ocode_after_18 N x.1.1 x.2.1.1 x.2.1.2.1 x.2.1.2.2.1 x.2.1.2.2.2.1 (fun y0 => K .ret (encS o_ocode_after_18_0 ((y0, ()), (()))))
noncomputable def g_ocode_after_18 (N : Nat) : Typed p_ocode_after_18 := H_ocode_after_18 @ocode_after_18 N
noncomputable def p_ocode_after : SPat := ⟨[(0, .agg [(.val (.int .i64)), (.val (.int .i64)), (.val (.int .i64))]), (1, .one (.val (.int .i64))), (2, .agg [(.val .str), (.val (.int .i64)), (.val (.int .i64)), (.val (.int .i64))])], []⟩
noncomputable def q_ocode_after_0 : SPat := ⟨[(0, .one (.val (.int .i64)))], []⟩
@[reducible] def A_ocode_after (R : Type) : Type := Int → Int → Int → Int → (List UInt8) → Int → Int → Int → (Int → Option R) → Option R
@[reducible] def T_ocode_after : Type 1 := {R : Type} → Nat → A_ocode_after R
noncomputable def ocode_after_b (ocode_after_16 : T_ocode_after_16) (ocode_after_18 : T_ocode_after_18) : T_ocode_after := fun {R} N x0 x1 x2 x3 x4 x5 x6 x7 K0 =>
    if ((x0 == (18 : Int)) = true) then (K0 x1) else (if ((x0 == (24 : Int)) = true) then (K0 ((wi ((2 : Int) + x2)))) else (if ((x0 == (23 : Int)) = true) then (ocode_after_16 N x0 x1 x2 (fun y0 => K0 y0)) else (if ((x0 == (28 : Int)) = true) then (ocode_after_16 N x0 x1 x2 (fun y1 => K0 y1)) else (ocode_after_18 N x3 x4 x5 x6 x7 (fun y2 => K0 y2)))))
noncomputable def ocode_after : T_ocode_after := @ocode_after_b @ocode_after_16 @ocode_after_18
noncomputable def g_ocode_after (N : Nat) : TypedM p_ocode_after [q_ocode_after_0] := fun R x C => ocode_after N x.1.1.1 x.1.1.2.1 x.1.1.2.2.1 x.1.2.1 x.1.2.2.1.1 x.1.2.2.1.2.1 x.1.2.2.1.2.2.1 x.1.2.2.1.2.2.2.1 (fun y0 => C.1 ((y0, ()), (())))
noncomputable def S_ocode_after (ocode_after : T_ocode_after) (N : Nat) : Go.AX.Spec := specM [true, true, true] [] false 3 0 p_ocode_after [q_ocode_after_0] (fun R x C => ocode_after N x.1.1.1 x.1.1.2.1 x.1.1.2.2.1 x.1.2.1 x.1.2.2.1.1 x.1.2.2.1.2.1 x.1.2.2.1.2.2.1 x.1.2.2.1.2.2.2.1 (fun y0 => C.1 ((y0, ()), (()))))
noncomputable def s_ocode_after (N : Nat) : Go.AX.Spec := S_ocode_after @ocode_after N
noncomputable def L_ocode_after (N : Nat) : List (Nat × Frag) := [(16, fragOf p_ocode_after_16 (g_ocode_after_16 N)), (18, fragOf p_ocode_after_18 (g_ocode_after_18 N))]
noncomputable def G_ocode_after (N : Nat) : List (Nat × Go.AX.Spec) := []
noncomputable def b_ocode_leads : Code := Go.Proofs.Try.f112.body.getD .skip
noncomputable def p_ocode_leads_3 : SPat := ⟨[(0, .one (.val z4)), (1, .one (.val (.int .i64)))], []⟩
noncomputable def o_ocode_leads_3_0 : SPat := ⟨[(1, .one (.val (.int .i64)))], []⟩
noncomputable def o_ocode_leads_3 : Outs := .cons (.exit 0) o_ocode_leads_3_0 (.nil)
@[reducible] def A_ocode_leads_3 (R : Type) : Type := d4 → Int → (Int → Option R) → Option R
@[reducible] def B_ocode_leads_3 (R : Type) : Type := d4 → Int → Option R
@[reducible] def T_ocode_leads_3 : Type 1 := {R : Type} → Nat → Nat → A_ocode_leads_3 R
noncomputable def ocode_leads_3_b {R : Type} (N : Nat) (rc : B_ocode_leads_3 R) : A_ocode_leads_3 R := fun x0 x1 K0 =>
    if (((0 : Int) ≤ x1) ∧ (x1 < (len x0))) then (if (((List.getD x0 (Int.toNat x1) ((0 : Int), ((0 : Int), (0 : Int)))).1 == (19 : Int)) = true) then (rc x0 ((wi (x1 + (1 : Int))))) else (K0 x1)) else none
noncomputable def ocode_leads_3 {R : Type} (N : Nat) : Nat → A_ocode_leads_3 R
  | 0 => fun _ _ _ => none
  | k + 1 => fun x0 x1 K0 => ocode_leads_3_b N (fun x0 x1 => ocode_leads_3 N k x0 x1 K0) x0 x1 K0
noncomputable def H_ocode_leads_3 (ocode_leads_3 : T_ocode_leads_3) (N k : Nat) : Typed p_ocode_leads_3 := fun R x K => ocode_leads_3 N k x.1.1 x.1.2.1 (fun y0 => K (.exit 0) (encS o_ocode_leads_3_0 ((y0, ()), (()))))
noncomputable def g_ocode_leads_3 (N k : Nat) : Typed p_ocode_leads_3 := H_ocode_leads_3 @ocode_leads_3 N k
noncomputable def p_ocode_leads : SPat := ⟨[(0, .one (.val z4)), (1, .one (.val (.int .i64)))], []⟩
noncomputable def q_ocode_leads_0 : SPat := ⟨[(0, .one (.val (.int .i64)))], []⟩
@[reducible] def A_ocode_leads (R : Type) : Type := d4 → Int → (Int → Option R) → Option R
@[reducible] def T_ocode_leads : Type 1 := {R : Type} → Nat → A_ocode_leads R
noncomputable def ocode_leads_b (ocode_leads_3 : T_ocode_leads_3) : T_ocode_leads := fun {R} N x0 x1 K0 =>
    ocode_leads_3 N N x0 x1 (fun y0 => K0 y0)
noncomputable def ocode_leads : T_ocode_leads := @ocode_leads_b @ocode_leads_3
noncomputable def g_ocode_leads (N : Nat) : TypedM p_ocode_leads [q_ocode_leads_0] := fun R x C => ocode_leads N x.1.1 x.1.2.1 (fun y0 => C.1 ((y0, ()), (())))
noncomputable def S_ocode_leads (ocode_leads : T_ocode_leads) (N : Nat) : Go.AX.Spec := specM [true, true] [] false 2 0 p_ocode_leads [q_ocode_leads_0] (fun R x C => ocode_leads N x.1.1 x.1.2.1 (fun y0 => C.1 ((y0, ()), (()))))
noncomputable def s_ocode_leads (N : Nat) : Go.AX.Spec := S_ocode_leads @ocode_leads N
noncomputable def L_ocode_leads (N : Nat) : List (Nat × Frag) := [(3, fragOf p_ocode_leads_3 (g_ocode_leads_3 N N))]
noncomputable def G_ocode_leads (N : Nat) : List (Nat × Go.AX.Spec) := []
noncomputable def p_ocode_stacked_11 : SPat := ⟨[(1, .one (.ptr 32)), (3, .one (.ptr 1000)), (4, .one (.slf 33)), (7, .one (.val (.int .i64))), (19, .one (.val z4)), (20, .one (.val (.int .i64))), (21, .one (.val (.int .i64)))], [(32, .cells 34 [(.val .str), (.val z3), (.val z4), (.val z1), (.val (.int .i64)), (.val (.int .i64))]), (33, .row 3 (.int .i64)), (1000, .row 133 (.pair .str z2))]⟩
noncomputable def o_ocode_stacked_11_0 : SPat := ⟨[(2, .one (.val .bool))], []⟩
noncomputable def o_ocode_stacked_11_1 : SPat := ⟨[], []⟩
noncomputable def o_ocode_stacked_11 : Outs := .cons .ret o_ocode_stacked_11_0 (.cons (.exit 0) o_ocode_stacked_11_1 (.nil))
@[reducible] def A_ocode_stacked_11 (R : Type) : Type := Int → d4 → Int → Int → (List UInt8) → d5 → d4 → d1 → Int → Int → d0 → (List ((List UInt8 × (Int × (Int × Int))))) → (Bool → Option R) → (Option R) → Option R
@[reducible] def B_ocode_stacked_11 (R : Type) : Type := Int → d4 → Int → Int → (List UInt8) → d5 → d4 → d1 → Int → Int → d0 → (List ((List UInt8 × (Int × (Int × Int))))) → Option R
@[reducible] def T_ocode_stacked_11 : Type 1 := {R : Type} → Nat → Nat → A_ocode_stacked_11 R
noncomputable def ocode_stacked_11_b (ocode_fits : T_ocode_fits) (ocode_after : T_ocode_after) (ocode_Named : T_ocode_Named) (ocode_leads : T_ocode_leads) (ocode_Ends : T_ocode_Ends) {R : Type} (N : Nat) (rc : B_ocode_stacked_11 R) : A_ocode_stacked_11 R := fun x0 x1 x2 x3 x4 x5 x6 x7 x8 x9 x10 x11 K0 K1 =>
    if ((decide ((x3 < x2))) = true) then (if (((0 : Int) ≤ x3) ∧ (x3 < (len x1))) then (let v0 := (List.getD x1 (Int.toNat x3) ((0 : Int), ((0 : Int), (0 : Int)))).1; let v1 := (List.getD x1 (Int.toNat x3) ((0 : Int), ((0 : Int), (0 : Int)))).2.1; let v2 := (List.getD x1 (Int.toNat x3) ((0 : Int), ((0 : Int), (0 : Int)))).2.2; if (((0 : Int) ≤ v0) ∧ (v0 < (31 : Int))) then (if (v0 < (len x11)) then (let v3 := (List.getD x11 (Int.toNat v0) (([] : List UInt8), ((0 : Int), ((0 : Int), (0 : Int))))).1; let v4 := (List.getD x11 (Int.toNat v0) (([] : List UInt8), ((0 : Int), ((0 : Int), (0 : Int))))).2.1; let v5 := (List.getD x11 (Int.toNat v0) (([] : List UInt8), ((0 : Int), ((0 : Int), (0 : Int))))).2.2.1; let v6 := (List.getD x11 (Int.toNat v0) (([] : List UInt8), ((0 : Int), ((0 : Int), (0 : Int))))).2.2.2; if ((decide ((x3 > (0 : Int)))) = true) then (let v7 := (wi (x3 - (1 : Int))); if (((0 : Int) ≤ v7) ∧ (v7 < (len x6))) then (ocode_fits N v0 v1 v2 x0 v3 v4 v5 v6 (((List.getD x6 (Int.toNat v7) ((0 : Int), ((0 : Int), (0 : Int)))).1 == (19 : Int))) (fun y0 => if ((!y0) = true) then (K0 false) else (if (((0 : Int) ≤ v0) ∧ (v0 < (31 : Int))) then (if (v0 < (len x11)) then (ocode_after N v0 v1 v2 x0 v3 v4 v5 v6 (fun y1 => if ((decide ((y1 < (2 : Int)))) = true) then (K0 false) else (if ((decide ((y1 > (4000 : Int)))) = true) then (K0 false) else (ocode_Named N v0 v1 v2 (fun y2 => if ((decide ((y2 > (0 : Int)))) = true) then (if (((0 : Int) ≤ y2) ∧ (y2 < (len x10))) then (ocode_leads N x6 ((List.getD x10 (Int.toNat y2) (0 : Int))) (fun y3 => if (((0 : Int) ≤ y3) ∧ (y3 < (len x6))) then (if ((!(((List.getD x6 (Int.toNat y3) ((0 : Int), ((0 : Int), (0 : Int)))).1 == (28 : Int)) == (v0 == (27 : Int)))) = true) then (K0 false) else (if ((v0 != (19 : Int)) = true) then (ocode_Ends N x6 x3 (fun y4 => if ((!y4) = true) then (let v8 := (wi (x3 + (1 : Int))); if ((decide ((v8 < (len x6)))) = true) then (ocode_leads N x6 v8 (fun y5 => if (((0 : Int) ≤ y5) ∧ (y5 < (len x6))) then (if (((List.getD x6 (Int.toNat y5) ((0 : Int), ((0 : Int), (0 : Int)))).1 == (28 : Int)) = true) then (K0 false) else (rc y1 x1 x2 v8 x4 x5 x6 x7 x8 x9 x10 x11)) else none)) else (rc y1 x1 x2 v8 x4 x5 x6 x7 x8 x9 x10 x11)) else (rc y1 x1 x2 ((wi (x3 + (1 : Int)))) x4 x5 x6 x7 x8 x9 x10 x11))) else (rc y1 x1 x2 ((wi (x3 + (1 : Int)))) x4 x5 x6 x7 x8 x9 x10 x11))) else none)) else none) else (if ((v0 != (19 : Int)) = true) then (ocode_Ends N x6 x3 (fun y6 => if ((!y6) = true) then (let v9 := (wi (x3 + (1 : Int))); if ((decide ((v9 < (len x6)))) = true) then (ocode_leads N x6 v9 (fun y7 => if (((0 : Int) ≤ y7) ∧ (y7 < (len x6))) then (if (((List.getD x6 (Int.toNat y7) ((0 : Int), ((0 : Int), (0 : Int)))).1 == (28 : Int)) = true) then (K0 false) else (rc y1 x1 x2 v9 x4 x5 x6 x7 x8 x9 x10 x11)) else none)) else (rc y1 x1 x2 v9 x4 x5 x6 x7 x8 x9 x10 x11)) else (rc y1 x1 x2 ((wi (x3 + (1 : Int)))) x4 x5 x6 x7 x8 x9 x10 x11))) else (rc y1 x1 x2 ((wi (x3 + (1 : Int)))) x4 x5 x6 x7 x8 x9 x10 x11))))))) else none) else none))) else none) else (ocode_fits N v0 v1 v2 x0 v3 v4 v5 v6 false (fun y8 => if ((!y8) = true) then (K0 false) else (if (((0 : Int) ≤ v0) ∧ (v0 < (31 : Int))) then (if (v0 < (len x11)) then (ocode_after N v0 v1 v2 x0 v3 v4 v5 v6 (fun y9 => if ((decide ((y9 < (2 : Int)))) = true) then (K0 false) else (if ((decide ((y9 > (4000 : Int)))) = true) then (K0 false) else (ocode_Named N v0 v1 v2 (fun y10 => if ((decide ((y10 > (0 : Int)))) = true) then (if (((0 : Int) ≤ y10) ∧ (y10 < (len x10))) then (ocode_leads N x6 ((List.getD x10 (Int.toNat y10) (0 : Int))) (fun y11 => if (((0 : Int) ≤ y11) ∧ (y11 < (len x6))) then (if ((!(((List.getD x6 (Int.toNat y11) ((0 : Int), ((0 : Int), (0 : Int)))).1 == (28 : Int)) == (v0 == (27 : Int)))) = true) then (K0 false) else (if ((v0 != (19 : Int)) = true) then (ocode_Ends N x6 x3 (fun y12 => if ((!y12) = true) then (let v10 := (wi (x3 + (1 : Int))); if ((decide ((v10 < (len x6)))) = true) then (ocode_leads N x6 v10 (fun y13 => if (((0 : Int) ≤ y13) ∧ (y13 < (len x6))) then (if (((List.getD x6 (Int.toNat y13) ((0 : Int), ((0 : Int), (0 : Int)))).1 == (28 : Int)) = true) then (K0 false) else (rc y9 x1 x2 v10 x4 x5 x6 x7 x8 x9 x10 x11)) else none)) else (rc y9 x1 x2 v10 x4 x5 x6 x7 x8 x9 x10 x11)) else (rc y9 x1 x2 ((wi (x3 + (1 : Int)))) x4 x5 x6 x7 x8 x9 x10 x11))) else (rc y9 x1 x2 ((wi (x3 + (1 : Int)))) x4 x5 x6 x7 x8 x9 x10 x11))) else none)) else none) else (if ((v0 != (19 : Int)) = true) then (ocode_Ends N x6 x3 (fun y14 => if ((!y14) = true) then (let v11 := (wi (x3 + (1 : Int))); if ((decide ((v11 < (len x6)))) = true) then (ocode_leads N x6 v11 (fun y15 => if (((0 : Int) ≤ y15) ∧ (y15 < (len x6))) then (if (((List.getD x6 (Int.toNat y15) ((0 : Int), ((0 : Int), (0 : Int)))).1 == (28 : Int)) = true) then (K0 false) else (rc y9 x1 x2 v11 x4 x5 x6 x7 x8 x9 x10 x11)) else none)) else (rc y9 x1 x2 v11 x4 x5 x6 x7 x8 x9 x10 x11)) else (rc y9 x1 x2 ((wi (x3 + (1 : Int)))) x4 x5 x6 x7 x8 x9 x10 x11))) else (rc y9 x1 x2 ((wi (x3 + (1 : Int)))) x4 x5 x6 x7 x8 x9 x10 x11))))))) else none) else none)))) else none) else none) else none) else K1
noncomputable def ocode_stacked_11 {R : Type} (N : Nat) : Nat → A_ocode_stacked_11 R
  | 0 => fun _ _ _ _ _ _ _ _ _ _ _ _ _ _ => none
  | k + 1 => fun x0 x1 x2 x3 x4 x5 x6 x7 x8 x9 x10 x11 K0 K1 => ocode_stacked_11_b @ocode_fits @ocode_after @ocode_Named @ocode_leads @ocode_Ends N (fun x0 x1 x2 x3 x4 x5 x6 x7 x8 x9 x10 x11 => ocode_stacked_11 N k x0 x1 x2 x3 x4 x5 x6 x7 x8 x9 x10 x11 K0 K1) x0 x1 x2 x3 x4 x5 x6 x7 x8 x9 x10 x11 K0 K1
noncomputable def H_ocode_stacked_11 (ocode_stacked_11 : T_ocode_stacked_11) (N k : Nat) : Typed p_ocode_stacked_11 := fun R x K => ocode_stacked_11 N k x.1.2.2.2.1 x.1.2.2.2.2.1 x.1.2.2.2.2.2.1 x.1.2.2.2.2.2.2.1 x.2.1.1 x.2.1.2.1 x.2.1.2.2.1 x.2.1.2.2.2.1 x.2.1.2.2.2.2.1 x.2.1.2.2.2.2.2.1 x.2.2.1 x.2.2.2.1 (fun y0 => K .ret (encS o_ocode_stacked_11_0 ((y0, ()), (())))) (K (.exit 0) (encS o_ocode_stacked_11_1 ((()), (()))))
noncomputable def g_ocode_stacked_11 (N k : Nat) : Typed p_ocode_stacked_11 := H_ocode_stacked_11 @ocode_stacked_11 N k
noncomputable def p_ocode_stacked : SPat := ⟨[(0, .agg [(.val .str), (.val z3), (.val z4), (.val z1), (.val (.int .i64)), (.val (.int .i64))])], []⟩
noncomputable def q_ocode_stacked_0 : SPat := ⟨[(0, .one (.val .bool))], []⟩
@[reducible] def A_ocode_stacked (R : Type) : Type := (List UInt8) → d5 → d4 → d1 → Int → Int → (Bool → Option R) → Option R
@[reducible] def T_ocode_stacked : Type 1 := {R : Type} → Nat → A_ocode_stacked R
noncomputable def ocode_stacked_b (ocode_kinds : T_ocode_kinds) (ocode_places : T_ocode_places) (ocode_stacked_11 : T_ocode_stacked_11) : T_ocode_stacked := fun {R} N x0 x1 x2 x3 x4 x5 K0 =>
    ocode_kinds N (fun y0 y1 y2 y3 y4 y5 y6 y7 y8 y9 y10 y11 y12 y13 y14 y15 y16 y17 y18 y19 y20 y21 y22 y23 y24 y25 y26 y27 y28 y29 y30 y31 y32 y33 y34 y35 y36 y37 y38 y39 y40 y41 y42 y43 y44 y45 y46 y47 y48 y49 y50 y51 y52 y53 y54 y55 y56 y57 y58 y59 y60 y61 y62 y63 y64 y65 y66 y67 y68 y69 y70 y71 y72 y73 y74 y75 y76 y77 y78 y79 y80 y81 y82 y83 y84 y85 y86 y87 y88 y89 y90 y91 y92 y93 y94 y95 y96 y97 y98 y99 y100 y101 y102 y103 y104 y105 y106 y107 y108 y109 y110 y111 y112 y113 y114 y115 y116 y117 y118 y119 y120 y121 y122 y123 => ocode_places N x0 x1 x2 x3 x4 x5 (fun y124 y125 y126 => ocode_stacked_11 N N 0 x2 ((len x2)) 0 x0 x1 x2 x3 x4 x5 y125 (((y0, (y1, (y2, y3))) :: ((y4, (y5, (y6, y7))) :: ((y8, (y9, (y10, y11))) :: ((y12, (y13, (y14, y15))) :: ((y16, (y17, (y18, y19))) :: ((y20, (y21, (y22, y23))) :: ((y24, (y25, (y26, y27))) :: ((y28, (y29, (y30, y31))) :: ((y32, (y33, (y34, y35))) :: ((y36, (y37, (y38, y39))) :: ((y40, (y41, (y42, y43))) :: ((y44, (y45, (y46, y47))) :: ((y48, (y49, (y50, y51))) :: ((y52, (y53, (y54, y55))) :: ((y56, (y57, (y58, y59))) :: ((y60, (y61, (y62, y63))) :: ((y64, (y65, (y66, y67))) :: ((y68, (y69, (y70, y71))) :: ((y72, (y73, (y74, y75))) :: ((y76, (y77, (y78, y79))) :: ((y80, (y81, (y82, y83))) :: ((y84, (y85, (y86, y87))) :: ((y88, (y89, (y90, y91))) :: ((y92, (y93, (y94, y95))) :: ((y96, (y97, (y98, y99))) :: ((y100, (y101, (y102, y103))) :: ((y104, (y105, (y106, y107))) :: ((y108, (y109, (y110, y111))) :: ((y112, (y113, (y114, y115))) :: ((y116, (y117, (y118, y119))) :: ((y120, (y121, (y122, y123))) :: ([] : List (List UInt8 × Int × Int × Int)))))))))))))))))))))))))))))))))) (fun y127 => K0 y127) (K0 true)))
noncomputable def ocode_stacked : T_ocode_stacked := @ocode_stacked_b @ocode_kinds @ocode_places @ocode_stacked_11
noncomputable def g_ocode_stacked (N : Nat) : TypedM p_ocode_stacked [q_ocode_stacked_0] := fun R x C => ocode_stacked N x.1.1.1 x.1.1.2.1 x.1.1.2.2.1 x.1.1.2.2.2.1 x.1.1.2.2.2.2.1 x.1.1.2.2.2.2.2.1 (fun y0 => C.1 ((y0, ()), (())))
noncomputable def S_ocode_stacked (ocode_stacked : T_ocode_stacked) (N : Nat) : Go.AX.Spec := specM [true] [] false 1 0 p_ocode_stacked [q_ocode_stacked_0] (fun R x C => ocode_stacked N x.1.1.1 x.1.1.2.1 x.1.1.2.2.1 x.1.1.2.2.2.1 x.1.1.2.2.2.2.1 x.1.1.2.2.2.2.2.1 (fun y0 => C.1 ((y0, ()), (()))))
noncomputable def s_ocode_stacked (N : Nat) : Go.AX.Spec := S_ocode_stacked @ocode_stacked N
noncomputable def L_ocode_stacked (N : Nat) : List (Nat × Frag) := [(11, fragOf p_ocode_stacked_11 (g_ocode_stacked_11 N N))]
noncomputable def G_ocode_stacked (N : Nat) : List (Nat × Go.AX.Spec) := [(105, s_ocode_kinds N), (107, s_ocode_places N), (110, s_ocode_fits N), (111, s_ocode_after N), (54, s_ocode_Named N), (112, s_ocode_leads N), (113, s_ocode_Ends N)]
noncomputable def p_ocode_Check : SPat := ⟨[(0, .agg [(.val .str), (.val z3), (.val z4), (.val z1), (.val (.int .i64)), (.val (.int .i64))])], []⟩
noncomputable def q_ocode_Check_0 : SPat := ⟨[(0, .one (.val (.int .i64)))], []⟩
@[reducible] def A_ocode_Check (R : Type) : Type := (List UInt8) → d5 → d4 → d1 → Int → Int → (Int → Option R) → Option R
@[reducible] def T_ocode_Check : Type 1 := {R : Type} → Nat → A_ocode_Check R
noncomputable def ocode_Check_b (ocode_large : T_ocode_large) (ocode_coded : T_ocode_coded) (ocode_stacked : T_ocode_stacked) : T_ocode_Check := fun {R} N x0 x1 x2 x3 x4 x5 K0 =>
    ocode_large N x0 x1 x2 x3 x4 x5 (fun y0 => if (y0 = true) then (K0 2) else (ocode_coded N x0 x1 x2 x3 x4 x5 (fun y1 => if ((!y1) = true) then (K0 60) else (ocode_stacked N x0 x1 x2 x3 x4 x5 (fun y2 => if ((!y2) = true) then (K0 61) else (K0 0))))))
noncomputable def ocode_Check : T_ocode_Check := @ocode_Check_b @ocode_large @ocode_coded @ocode_stacked
noncomputable def g_ocode_Check (N : Nat) : TypedM p_ocode_Check [q_ocode_Check_0] := fun R x C => ocode_Check N x.1.1.1 x.1.1.2.1 x.1.1.2.2.1 x.1.1.2.2.2.1 x.1.1.2.2.2.2.1 x.1.1.2.2.2.2.2.1 (fun y0 => C.1 ((y0, ()), (())))
noncomputable def S_ocode_Check (ocode_Check : T_ocode_Check) (N : Nat) : Go.AX.Spec := specM [true] [] false 1 0 p_ocode_Check [q_ocode_Check_0] (fun R x C => ocode_Check N x.1.1.1 x.1.1.2.1 x.1.1.2.2.1 x.1.1.2.2.2.1 x.1.1.2.2.2.2.1 x.1.1.2.2.2.2.2.1 (fun y0 => C.1 ((y0, ()), (()))))
noncomputable def s_ocode_Check (N : Nat) : Go.AX.Spec := S_ocode_Check @ocode_Check N
noncomputable def L_ocode_Check (N : Nat) : List (Nat × Frag) := []
noncomputable def G_ocode_Check (N : Nat) : List (Nat × Go.AX.Spec) := [(87, s_ocode_large N), (88, s_ocode_coded N), (89, s_ocode_stacked N)]
noncomputable def b_pack_body : Code := Go.Proofs.Try.f68.body.getD .skip
noncomputable def b_pack_marks : Code := Go.Proofs.Try.f90.body.getD .skip
noncomputable def p_pack_marks_7 : SPat := ⟨[(3, .one (.mp 32)), (7, .one (.val z4)), (8, .one (.val (.int .i64))), (9, .one (.val (.int .i64)))], [(32, .amap 82 (.int .i64) (.int .i64))]⟩
noncomputable def o_pack_marks_7_0 : SPat := ⟨[(3, .one (.mp 32))], [(32, .amap 82 (.int .i64) (.int .i64))]⟩
noncomputable def o_pack_marks_7 : Outs := .cons (.exit 0) o_pack_marks_7_0 (.nil)
@[reducible] def A_pack_marks_7 (R : Type) : Type := d4 → Int → Int → d2 → (d2 → Option R) → Option R
@[reducible] def B_pack_marks_7 (R : Type) : Type := d4 → Int → Int → d2 → Option R
@[reducible] def T_pack_marks_7 : Type 1 := {R : Type} → Nat → Nat → A_pack_marks_7 R
noncomputable def pack_marks_7_b {R : Type} (N : Nat) (rc : B_pack_marks_7 R) : A_pack_marks_7 R := fun x0 x1 x2 x3 K0 =>
    if ((decide ((x2 < x1))) = true) then (if (((0 : Int) ≤ x2) ∧ (x2 < (len x0))) then (if (((List.getD x0 (Int.toNat x2) ((0 : Int), ((0 : Int), (0 : Int)))).1 == (19 : Int)) = true) then (rc x0 x1 ((wi (x2 + (1 : Int)))) ((mset (kt := (.int .i64)) (et := (.int .i64)) (List.getD x0 (Int.toNat x2) ((0 : Int), ((0 : Int), (0 : Int)))).2.1 x2 x3))) else (rc x0 x1 ((wi (x2 + (1 : Int)))) x3)) else none) else (K0 x3)
noncomputable def pack_marks_7 {R : Type} (N : Nat) : Nat → A_pack_marks_7 R
  | 0 => fun _ _ _ _ _ => none
  | k + 1 => fun x0 x1 x2 x3 K0 => pack_marks_7_b N (fun x0 x1 x2 x3 => pack_marks_7 N k x0 x1 x2 x3 K0) x0 x1 x2 x3 K0
noncomputable def H_pack_marks_7 (pack_marks_7 : T_pack_marks_7) (N k : Nat) : Typed p_pack_marks_7 := fun R x K => pack_marks_7 N k x.1.2.1 x.1.2.2.1 x.1.2.2.2.1 x.2.1 (fun y0 => K (.exit 0) (encS o_pack_marks_7_0 (((), ()), (y0, ()))))
noncomputable def g_pack_marks_7 (N k : Nat) : Typed p_pack_marks_7 := H_pack_marks_7 @pack_marks_7 N k
noncomputable def p_pack_marks : SPat := ⟨[(0, .one (.val z4))], []⟩
noncomputable def q_pack_marks_0 : SPat := ⟨[(0, .one (.mp 32))], [(32, .amap 82 (.int .i64) (.int .i64))]⟩
@[reducible] def A_pack_marks (R : Type) : Type := d4 → (d2 → Option R) → Option R
@[reducible] def T_pack_marks : Type 1 := {R : Type} → Nat → A_pack_marks R
noncomputable def pack_marks_b (pack_marks_7 : T_pack_marks_7) : T_pack_marks := fun {R} N x0 K0 =>
    pack_marks_7 N N x0 ((len x0)) 0 (([] : List (Int × Int))) (fun y0 => K0 y0)
noncomputable def pack_marks : T_pack_marks := @pack_marks_b @pack_marks_7
noncomputable def g_pack_marks (N : Nat) : TypedM p_pack_marks [q_pack_marks_0] := fun R x C => pack_marks N x.1.1 (fun y0 => C.1 (((), ()), (y0, ())))
noncomputable def S_pack_marks (pack_marks : T_pack_marks) (N : Nat) : Go.AX.Spec := specM [true] [] false 1 0 p_pack_marks [q_pack_marks_0] (fun R x C => pack_marks N x.1.1 (fun y0 => C.1 (((), ()), (y0, ()))))
noncomputable def s_pack_marks (N : Nat) : Go.AX.Spec := S_pack_marks @pack_marks N
noncomputable def L_pack_marks (N : Nat) : List (Nat × Frag) := [(7, fragOf p_pack_marks_7 (g_pack_marks_7 N N))]
noncomputable def G_pack_marks (N : Nat) : List (Nat × Go.AX.Spec) := []
noncomputable def b_pack_laid : Code := Go.Proofs.Try.f91.body.getD .skip
noncomputable def p_pack_laid_7 : SPat := ⟨[(0, .one (.val z4)), (1, .one (.mp 0)), (4, .one (.ptr 32)), (5, .one (.slf 33)), (17, .one (.val z4)), (18, .one (.val (.int .i64))), (19, .one (.val (.int .i64)))], [(0, .amap 82 (.int .i64) (.int .i64)), (32, .cells 63 [(.slf 34), (.slf 35), (.val (.int .i64))]), (33, .row 3 (.int .i64)), (34, .row 3 (.int .i64)), (35, .row 3 (.int .i64))]⟩
noncomputable def o_pack_laid_7_0 : SPat := ⟨[(0, .one (.val z4)), (1, .one (.mp 0)), (4, .one (.ptr 32)), (5, .one (.slf 33))], [(0, .amap 82 (.int .i64) (.int .i64)), (32, .cells 63 [(.slf 34), (.slf 35), (.val (.int .i64))]), (33, .row 3 (.int .i64)), (34, .row 3 (.int .i64)), (35, .row 3 (.int .i64))]⟩
noncomputable def o_pack_laid_7 : Outs := .cons (.exit 0) o_pack_laid_7_0 (.nil)
@[reducible] def A_pack_laid_7 (R : Type) : Type := d4 → d4 → Int → Int → d2 → Int → d0 → d0 → d0 → (d4 → d2 → Int → d0 → d0 → d0 → Option R) → Option R
@[reducible] def B_pack_laid_7 (R : Type) : Type := d4 → d4 → Int → Int → d2 → Int → d0 → d0 → d0 → Option R
@[reducible] def T_pack_laid_7 : Type 1 := {R : Type} → Nat → Nat → A_pack_laid_7 R
noncomputable def pack_laid_7_b (ocode_Named : T_ocode_Named) (pack_class : T_pack_class) {R : Type} (N : Nat) (rc : B_pack_laid_7 R) : A_pack_laid_7 R := fun x0 x1 x2 x3 x4 x5 x6 x7 x8 K0 =>
    if ((decide ((x3 < x2))) = true) then (if (((0 : Int) ≤ x3) ∧ (x3 < (len x1))) then (let v0 := (List.getD x1 (Int.toNat x3) ((0 : Int), ((0 : Int), (0 : Int)))).1; let v1 := (List.getD x1 (Int.toNat x3) ((0 : Int), ((0 : Int), (0 : Int)))).2.1; ocode_Named N v0 v1 ((List.getD x1 (Int.toNat x3) ((0 : Int), ((0 : Int), (0 : Int)))).2.2) (fun y0 => if ((y0 == (0 : Int)) = true) then (pack_class N v1 (fun y1 => if (((0 : Int) ≤ x3) ∧ (x3 < (len x6))) then (rc x0 x1 x2 ((wi (x3 + (1 : Int)))) x4 x5 ((List.set x6 (Int.toNat x3) y1)) x7 x8) else none)) else (if ((v0 == (30 : Int)) = true) then (pack_class N v1 (fun y2 => if (((0 : Int) ≤ x3) ∧ (x3 < (len x6))) then (rc x0 x1 x2 ((wi (x3 + (1 : Int)))) x4 x5 ((List.set x6 (Int.toNat x3) y2)) x7 x8) else none)) else (rc x0 x1 x2 ((wi (x3 + (1 : Int)))) x4 x5 x6 x7 x8)))) else none) else (K0 x0 x4 x5 x6 x7 x8)
noncomputable def pack_laid_7 {R : Type} (N : Nat) : Nat → A_pack_laid_7 R
  | 0 => fun _ _ _ _ _ _ _ _ _ _ => none
  | k + 1 => fun x0 x1 x2 x3 x4 x5 x6 x7 x8 K0 => pack_laid_7_b @ocode_Named @pack_class N (fun x0 x1 x2 x3 x4 x5 x6 x7 x8 => pack_laid_7 N k x0 x1 x2 x3 x4 x5 x6 x7 x8 K0) x0 x1 x2 x3 x4 x5 x6 x7 x8 K0
noncomputable def H_pack_laid_7 (pack_laid_7 : T_pack_laid_7) (N k : Nat) : Typed p_pack_laid_7 := fun R x K => pack_laid_7 N k x.1.1 x.1.2.2.2.2.1 x.1.2.2.2.2.2.1 x.1.2.2.2.2.2.2.1 x.2.1 x.2.2.1.2.2.1 x.2.2.2.1 x.2.2.2.2.1 x.2.2.2.2.2.1 (fun y0 y1 y2 y3 y4 y5 => K (.exit 0) (encS o_pack_laid_7_0 ((y0, (), (), (), ()), (y1, ((), (), y2, ()), y3, y4, y5, ()))))
noncomputable def g_pack_laid_7 (N k : Nat) : Typed p_pack_laid_7 := H_pack_laid_7 @pack_laid_7 N k
noncomputable def b_pack_placed : Code := Go.Proofs.Try.f114.body.getD .skip
noncomputable def b_pack_bytes : Code := Go.Proofs.Try.f60.body.getD .skip
noncomputable def p_pack_bytes : SPat := ⟨[(0, .one (.val (.int .i64)))], []⟩
noncomputable def q_pack_bytes_0 : SPat := ⟨[(0, .one (.val (.int .i64)))], []⟩
@[reducible] def A_pack_bytes (R : Type) : Type := Int → (Int → Option R) → Option R
@[reducible] def T_pack_bytes : Type 1 := {R : Type} → Nat → A_pack_bytes R
noncomputable def pack_bytes : T_pack_bytes := fun {R} N x0 K0 =>
    if (((0 : Int) ≤ x0) ∧ (x0 < (4 : Int))) then (K0 ((List.getD [(0 : Int), (1 : Int), (2 : Int), (4 : Int)] (Int.toNat x0) (0 : Int)))) else none
noncomputable def g_pack_bytes (N : Nat) : TypedM p_pack_bytes [q_pack_bytes_0] := fun R x C => pack_bytes N x.1.1 (fun y0 => C.1 ((y0, ()), (())))
noncomputable def S_pack_bytes (pack_bytes : T_pack_bytes) (N : Nat) : Go.AX.Spec := specM [true] [] false 1 0 p_pack_bytes [q_pack_bytes_0] (fun R x C => pack_bytes N x.1.1 (fun y0 => C.1 ((y0, ()), (()))))
noncomputable def s_pack_bytes (N : Nat) : Go.AX.Spec := S_pack_bytes @pack_bytes N
noncomputable def L_pack_bytes (N : Nat) : List (Nat × Frag) := []
noncomputable def G_pack_bytes (N : Nat) : List (Nat × Go.AX.Spec) := []
noncomputable def p_pack_placed_7 : SPat := ⟨[(1, .one (.val (.list (.int .i64)))), (4, .one (.ptr 32)), (5, .one (.ptr 33)), (10, .one (.val z4)), (11, .one (.val (.int .i64))), (12, .one (.val (.int .i64)))], [(32, .cells 63 [(.slf 34), (.slf 35), (.val (.int .i64))]), (33, .cells 63 [(.slf 36), (.val (.list (.int .i64))), (.val (.int .i64))]), (34, .row 3 (.int .i64)), (35, .row 3 (.int .i64)), (36, .row 3 (.int .i64))]⟩
noncomputable def o_pack_placed_7_0 : SPat := ⟨[(4, .one (.ptr 32)), (5, .one (.ptr 33))], [(32, .cells 63 [(.slf 34), (.slf 35), (.val (.int .i64))]), (33, .cells 63 [(.slf 36), (.val (.list (.int .i64))), (.val (.int .i64))]), (34, .row 3 (.int .i64)), (35, .row 3 (.int .i64)), (36, .row 3 (.int .i64))]⟩
noncomputable def o_pack_placed_7 : Outs := .cons (.exit 0) o_pack_placed_7_0 (.nil)
@[reducible] def A_pack_placed_7 (R : Type) : Type := d0 → d4 → Int → Int → Int → d0 → Int → d0 → d0 → d0 → (Int → d0 → Int → d0 → d0 → d0 → Option R) → Option R
@[reducible] def B_pack_placed_7 (R : Type) : Type := d0 → d4 → Int → Int → Int → d0 → Int → d0 → d0 → d0 → Option R
@[reducible] def T_pack_placed_7 : Type 1 := {R : Type} → Nat → Nat → A_pack_placed_7 R
noncomputable def pack_placed_7_b (pack_bytes : T_pack_bytes) (pack_extra : T_pack_extra) {R : Type} (N : Nat) (rc : B_pack_placed_7 R) : A_pack_placed_7 R := fun x0 x1 x2 x3 x4 x5 x6 x7 x8 x9 K0 =>
    if ((decide ((x3 < x2))) = true) then (if (((0 : Int) ≤ x3) ∧ (x3 < (len x1))) then (let v0 := (List.getD x1 (Int.toNat x3) ((0 : Int), ((0 : Int), (0 : Int)))).1; if ((((List.length x9) + (List.length (x6 :: ([] : List Int)))) * (8 : Nat)) ≤ (70368744177664 : Nat)) then (if ((v0 != (19 : Int)) = true) then (if (((0 : Int) ≤ x3) ∧ (x3 < (len x0))) then (pack_bytes N ((List.getD x0 (Int.toNat x3) (0 : Int))) (fun y0 => pack_extra N v0 (fun y1 => rc x0 x1 x2 ((wi (x3 + (1 : Int)))) x4 x5 ((wi (x6 + (wi ((wi ((1 : Int) + y0)) + y1))))) x7 x8 ((x9 ++ (x6 :: ([] : List Int))))))) else none) else (rc x0 x1 x2 ((wi (x3 + (1 : Int)))) x4 x5 x6 x7 x8 ((x9 ++ (x6 :: ([] : List Int)))))) else none) else none) else (K0 x4 x5 x6 x7 x8 x9)
noncomputable def pack_placed_7 {R : Type} (N : Nat) : Nat → A_pack_placed_7 R
  | 0 => fun _ _ _ _ _ _ _ _ _ _ _ => none
  | k + 1 => fun x0 x1 x2 x3 x4 x5 x6 x7 x8 x9 K0 => pack_placed_7_b @pack_bytes @pack_extra N (fun x0 x1 x2 x3 x4 x5 x6 x7 x8 x9 => pack_placed_7 N k x0 x1 x2 x3 x4 x5 x6 x7 x8 x9 K0) x0 x1 x2 x3 x4 x5 x6 x7 x8 x9 K0
noncomputable def H_pack_placed_7 (pack_placed_7 : T_pack_placed_7) (N k : Nat) : Typed p_pack_placed_7 := fun R x K => pack_placed_7 N k x.1.1 x.1.2.2.2.1 x.1.2.2.2.2.1 x.1.2.2.2.2.2.1 x.2.1.2.2.1 x.2.2.1.2.1 x.2.2.1.2.2.1 x.2.2.2.1 x.2.2.2.2.1 x.2.2.2.2.2.1 (fun y0 y1 y2 y3 y4 y5 => K (.exit 0) (encS o_pack_placed_7_0 (((), (), ()), (((), (), y0, ()), ((), y1, y2, ()), y3, y4, y5, ()))))
noncomputable def g_pack_placed_7 (N k : Nat) : Typed p_pack_placed_7 := H_pack_placed_7 @pack_placed_7 N k
noncomputable def p_pack_placed : SPat := ⟨[(0, .one (.val z4)), (1, .one (.val (.list (.int .i64))))], []⟩
noncomputable def q_pack_placed_0 : SPat := ⟨[(0, .agg [(.slf 32), (.val (.list (.int .i64))), (.val (.int .i64))])], [(32, .row 3 (.int .i64))]⟩
@[reducible] def A_pack_placed (R : Type) : Type := d4 → d0 → (d0 → Int → d0 → Option R) → Option R
@[reducible] def T_pack_placed : Type 1 := {R : Type} → Nat → A_pack_placed R
noncomputable def pack_placed_b (pack_placed_7 : T_pack_placed_7) : T_pack_placed := fun {R} N x0 x1 K0 =>
    pack_placed_7 N N x1 x0 ((len x0)) 0 0 x1 0 (([] : List Int)) (([] : List Int)) (([] : List Int)) (fun y0 y1 y2 y3 y4 y5 => K0 y1 y2 y5)
noncomputable def pack_placed : T_pack_placed := @pack_placed_b @pack_placed_7
noncomputable def g_pack_placed (N : Nat) : TypedM p_pack_placed [q_pack_placed_0] := fun R x C => pack_placed N x.1.1 x.1.2.1 (fun y0 y1 y2 => C.1 ((((), y0, y1, ()), ()), (y2, ())))
noncomputable def S_pack_placed (pack_placed : T_pack_placed) (N : Nat) : Go.AX.Spec := specM [true, true] [] false 2 0 p_pack_placed [q_pack_placed_0] (fun R x C => pack_placed N x.1.1 x.1.2.1 (fun y0 y1 y2 => C.1 ((((), y0, y1, ()), ()), (y2, ()))))
noncomputable def s_pack_placed (N : Nat) : Go.AX.Spec := S_pack_placed @pack_placed N
noncomputable def L_pack_placed (N : Nat) : List (Nat × Frag) := [(7, fragOf p_pack_placed_7 (g_pack_placed_7 N N))]
noncomputable def G_pack_placed (N : Nat) : List (Nat × Go.AX.Spec) := [(60, s_pack_bytes N), (37, s_pack_extra N)]
noncomputable def b_pack_layout_end : Code := Go.Proofs.Try.f92.body.getD .skip
noncomputable def p_pack_layout_end : SPat := ⟨[(0, .agg [(.val (.list (.int .i64))), (.val (.list (.int .i64))), (.val (.int .i64))]), (1, .one (.val z4)), (2, .one (.val (.int .i64)))], []⟩
noncomputable def q_pack_layout_end_0 : SPat := ⟨[(0, .one (.val (.int .i64)))], []⟩
@[reducible] def A_pack_layout_end (R : Type) : Type := d0 → d0 → Int → d4 → Int → (Int → Option R) → Option R
@[reducible] def T_pack_layout_end : Type 1 := {R : Type} → Nat → A_pack_layout_end R
noncomputable def pack_layout_end_b (pack_bytes : T_pack_bytes) (pack_extra : T_pack_extra) : T_pack_layout_end := fun {R} N x0 x1 x2 x3 x4 K0 =>
    if (((0 : Int) ≤ x4) ∧ (x4 < (len x0))) then (if (((0 : Int) ≤ x4) ∧ (x4 < (len x1))) then (pack_bytes N ((List.getD x1 (Int.toNat x4) (0 : Int))) (fun y0 => if (((0 : Int) ≤ x4) ∧ (x4 < (len x3))) then (pack_extra N ((List.getD x3 (Int.toNat x4) ((0 : Int), ((0 : Int), (0 : Int)))).1) (fun y1 => K0 ((wi ((wi ((wi ((List.getD x0 (Int.toNat x4) (0 : Int)) + (1 : Int))) + y0)) + y1))))) else none)) else none) else none
noncomputable def pack_layout_end : T_pack_layout_end := @pack_layout_end_b @pack_bytes @pack_extra
noncomputable def g_pack_layout_end (N : Nat) : TypedM p_pack_layout_end [q_pack_layout_end_0] := fun R x C => pack_layout_end N x.1.1.1 x.1.1.2.1 x.1.1.2.2.1 x.1.2.1 x.1.2.2.1 (fun y0 => C.1 ((y0, ()), (())))
noncomputable def S_pack_layout_end (pack_layout_end : T_pack_layout_end) (N : Nat) : Go.AX.Spec := specM [true, true, true] [] false 3 0 p_pack_layout_end [q_pack_layout_end_0] (fun R x C => pack_layout_end N x.1.1.1 x.1.1.2.1 x.1.1.2.2.1 x.1.2.1 x.1.2.2.1 (fun y0 => C.1 ((y0, ()), (()))))
noncomputable def s_pack_layout_end (N : Nat) : Go.AX.Spec := S_pack_layout_end @pack_layout_end N
noncomputable def L_pack_layout_end (N : Nat) : List (Nat × Frag) := []
noncomputable def G_pack_layout_end (N : Nat) : List (Nat × Go.AX.Spec) := [(60, s_pack_bytes N), (37, s_pack_extra N)]
noncomputable def p_pack_laid_25 : SPat := ⟨[(0, .one (.val z4)), (1, .one (.mp 0)), (4, .one (.ptr 32)), (5, .one (.val (.list (.int .i64)))), (8, .one (.ptr 33)), (9, .one (.val .bool)), (10, .one (.slf 34)), (45, .one (.val z4)), (46, .one (.val (.int .i64))), (47, .one (.val (.int .i64)))], [(0, .amap 82 (.int .i64) (.int .i64)), (32, .cells 63 [(.slf 35), (.slf 36), (.val (.int .i64))]), (33, .cells 63 [(.slf 37), (.val (.list (.int .i64))), (.val (.int .i64))]), (34, .row 3 (.int .i64)), (35, .row 3 (.int .i64)), (36, .row 3 (.int .i64)), (37, .row 3 (.int .i64))]⟩
noncomputable def o_pack_laid_25_0 : SPat := ⟨[(0, .one (.val z4)), (1, .one (.mp 0)), (4, .one (.ptr 32)), (8, .one (.ptr 33)), (9, .one (.val .bool)), (10, .one (.slf 34))], [(0, .amap 82 (.int .i64) (.int .i64)), (32, .cells 63 [(.slf 35), (.slf 36), (.val (.int .i64))]), (33, .cells 63 [(.slf 37), (.val (.list (.int .i64))), (.val (.int .i64))]), (34, .row 3 (.int .i64)), (35, .row 3 (.int .i64)), (36, .row 3 (.int .i64)), (37, .row 3 (.int .i64))]⟩
noncomputable def o_pack_laid_25 : Outs := .cons (.exit 4) o_pack_laid_25_0 (.nil)
@[reducible] def A_pack_laid_25 (R : Type) : Type := d4 → d0 → Bool → d4 → Int → Int → d2 → Int → d0 → Int → d0 → d0 → d0 → d0 → (d4 → Bool → d2 → Int → d0 → Int → d0 → d0 → d0 → d0 → Option R) → Option R
@[reducible] def B_pack_laid_25 (R : Type) : Type := d4 → d0 → Bool → d4 → Int → Int → d2 → Int → d0 → Int → d0 → d0 → d0 → d0 → Option R
@[reducible] def T_pack_laid_25 : Type 1 := {R : Type} → Nat → Nat → A_pack_laid_25 R
noncomputable def pack_laid_25_b (ocode_Named : T_ocode_Named) (pack_layout_end : T_pack_layout_end) (pack_class : T_pack_class) {R : Type} (N : Nat) (rc : B_pack_laid_25 R) : A_pack_laid_25 R := fun x0 x1 x2 x3 x4 x5 x6 x7 x8 x9 x10 x11 x12 x13 K0 =>
    if ((decide ((x5 < x4))) = true) then (if (((0 : Int) ≤ x5) ∧ (x5 < (len x3))) then (let v0 := (List.getD x3 (Int.toNat x5) ((0 : Int), ((0 : Int), (0 : Int)))).1; let v1 := (List.getD x3 (Int.toNat x5) ((0 : Int), ((0 : Int), (0 : Int)))).2.1; ocode_Named N v0 v1 ((List.getD x3 (Int.toNat x5) ((0 : Int), ((0 : Int), (0 : Int)))).2.2) (fun y0 => if ((decide ((y0 > (0 : Int)))) = true) then (if ((v0 != (30 : Int)) = true) then (let v2 := (Option.getD (mget (kt := (.int .i64)) (et := (.int .i64)) v1 x6) (0 : Int)); if (((0 : Int) ≤ v2) ∧ (v2 < (len x13))) then (pack_layout_end N x13 x8 x9 x0 x5 (fun y1 => pack_class N ((wi ((List.getD x13 (Int.toNat v2) (0 : Int)) - y1))) (fun y2 => if (((0 : Int) ≤ x5) ∧ (x5 < (len x1))) then (if ((decide ((y2 > (List.getD x1 (Int.toNat x5) (0 : Int))))) = true) then (if (((0 : Int) ≤ x5) ∧ (x5 < (len x10))) then (rc x0 x1 true x3 x4 ((wi (x5 + (1 : Int)))) x6 x7 x8 x9 ((List.set x10 (Int.toNat x5) y2)) x11 x12 x13) else none) else (rc x0 x1 x2 x3 x4 ((wi (x5 + (1 : Int)))) x6 x7 x8 x9 x10 x11 x12 x13)) else none))) else none) else (rc x0 x1 x2 x3 x4 ((wi (x5 + (1 : Int)))) x6 x7 x8 x9 x10 x11 x12 x13)) else (rc x0 x1 x2 x3 x4 ((wi (x5 + (1 : Int)))) x6 x7 x8 x9 x10 x11 x12 x13))) else none) else (K0 x0 x2 x6 x7 x8 x9 x10 x11 x12 x13)
noncomputable def pack_laid_25 {R : Type} (N : Nat) : Nat → A_pack_laid_25 R
  | 0 => fun _ _ _ _ _ _ _ _ _ _ _ _ _ _ _ => none
  | k + 1 => fun x0 x1 x2 x3 x4 x5 x6 x7 x8 x9 x10 x11 x12 x13 K0 => pack_laid_25_b @ocode_Named @pack_layout_end @pack_class N (fun x0 x1 x2 x3 x4 x5 x6 x7 x8 x9 x10 x11 x12 x13 => pack_laid_25 N k x0 x1 x2 x3 x4 x5 x6 x7 x8 x9 x10 x11 x12 x13 K0) x0 x1 x2 x3 x4 x5 x6 x7 x8 x9 x10 x11 x12 x13 K0
noncomputable def H_pack_laid_25 (pack_laid_25 : T_pack_laid_25) (N k : Nat) : Typed p_pack_laid_25 := fun R x K => pack_laid_25 N k x.1.1 x.1.2.2.2.1 x.1.2.2.2.2.2.1 x.1.2.2.2.2.2.2.2.1 x.1.2.2.2.2.2.2.2.2.1 x.1.2.2.2.2.2.2.2.2.2.1 x.2.1 x.2.2.1.2.2.1 x.2.2.2.1.2.1 x.2.2.2.1.2.2.1 x.2.2.2.2.1 x.2.2.2.2.2.1 x.2.2.2.2.2.2.1 x.2.2.2.2.2.2.2.1 (fun y0 y1 y2 y3 y4 y5 y6 y7 y8 y9 => K (.exit 4) (encS o_pack_laid_25_0 ((y0, (), (), (), y1, (), ()), (y2, ((), (), y3, ()), ((), y4, y5, ()), y6, y7, y8, y9, ()))))
noncomputable def g_pack_laid_25 (N k : Nat) : Typed p_pack_laid_25 := H_pack_laid_25 @pack_laid_25 N k
noncomputable def p_pack_laid_17 : SPat := ⟨[(0, .one (.val z4)), (1, .one (.mp 0)), (4, .one (.ptr 32)), (5, .one (.slf 33))], [(0, .amap 82 (.int .i64) (.int .i64)), (32, .cells 63 [(.slf 34), (.slf 35), (.val (.int .i64))]), (33, .row 3 (.int .i64)), (34, .row 3 (.int .i64)), (35, .row 3 (.int .i64))]⟩
noncomputable def o_pack_laid_17_0 : SPat := ⟨[(4, .one (.ptr 32))], [(0, .amap 82 (.int .i64) (.int .i64)), (32, .cells 63 [(.slf 33), (.val (.list (.int .i64))), (.val (.int .i64))]), (33, .row 3 (.int .i64))]⟩
noncomputable def o_pack_laid_17 : Outs := .cons .ret o_pack_laid_17_0 (.nil)
@[reducible] def A_pack_laid_17 (R : Type) : Type := d4 → d2 → Int → d0 → d0 → d0 → (d2 → d0 → Int → d0 → Option R) → Option R
@[reducible] def B_pack_laid_17 (R : Type) : Type := d4 → d2 → Int → d0 → d0 → d0 → Option R
@[reducible] def T_pack_laid_17 : Type 1 := {R : Type} → Nat → Nat → A_pack_laid_17 R
noncomputable def pack_laid_17_b (pack_placed : T_pack_placed) (pack_laid_25 : T_pack_laid_25) {R : Type} (N : Nat) (rc : B_pack_laid_17 R) : A_pack_laid_17 R := fun x0 x1 x2 x3 x4 x5 K0 =>
    pack_placed N x0 x3 (fun y0 y1 y2 => if ((((0 : Nat) + (List.length x3)) * (8 : Nat)) ≤ (70368744177664 : Nat)) then (pack_laid_25 N N x0 x3 false x0 ((len x0)) 0 x1 x2 y0 y1 x3 x4 x5 y2 (fun y3 y4 y5 y6 y7 y8 y9 y10 y11 y12 => if ((!y4) = true) then (K0 y5 y7 y8 y12) else (rc y3 y5 y6 y9 y10 y11))) else none)
noncomputable def pack_laid_17 {R : Type} (N : Nat) : Nat → A_pack_laid_17 R
  | 0 => fun _ _ _ _ _ _ _ => none
  | k + 1 => fun x0 x1 x2 x3 x4 x5 K0 => pack_laid_17_b @pack_placed @pack_laid_25 N (fun x0 x1 x2 x3 x4 x5 => pack_laid_17 N k x0 x1 x2 x3 x4 x5 K0) x0 x1 x2 x3 x4 x5 K0
noncomputable def H_pack_laid_17 (pack_laid_17 : T_pack_laid_17) (N k : Nat) : Typed p_pack_laid_17 := fun R x K => pack_laid_17 N k x.1.1 x.2.1 x.2.2.1.2.2.1 x.2.2.2.1 x.2.2.2.2.1 x.2.2.2.2.2.1 (fun y0 y1 y2 y3 => K .ret (encS o_pack_laid_17_0 (((), ()), (y0, ((), y1, y2, ()), y3, ()))))
noncomputable def g_pack_laid_17 (N k : Nat) : Typed p_pack_laid_17 := H_pack_laid_17 @pack_laid_17 N k
noncomputable def p_pack_laid : SPat := ⟨[(0, .one (.val z4)), (1, .one (.mp 0))], [(0, .amap 82 (.int .i64) (.int .i64))]⟩
noncomputable def q_pack_laid_0 : SPat := ⟨[(0, .agg [(.slf 32), (.val (.list (.int .i64))), (.val (.int .i64))])], [(0, .amap 82 (.int .i64) (.int .i64)), (32, .row 3 (.int .i64))]⟩
@[reducible] def A_pack_laid (R : Type) : Type := d4 → d2 → (d0 → Int → d2 → d0 → Option R) → Option R
@[reducible] def T_pack_laid : Type 1 := {R : Type} → Nat → A_pack_laid R
noncomputable def pack_laid_b (pack_laid_7 : T_pack_laid_7) (pack_laid_17 : T_pack_laid_17) : T_pack_laid := fun {R} N x0 x1 K0 =>
    if (((0 : Int) ≤ (len x0)) ∧ (((len x0) ≤ (len x0)) ∧ (((len x0) * (8 : Int)) ≤ (70368744177664 : Int)))) then (pack_laid_7 N N x0 x0 ((len x0)) 0 x1 0 ((List.replicate (Int.toNat (len x0)) (0 : Int))) (([] : List Int)) (([] : List Int)) (fun y0 y1 y2 y3 y4 y5 => pack_laid_17 N N y0 y1 y2 y3 y4 y5 (fun y6 y7 y8 y9 => K0 y7 y8 y6 y9))) else none
noncomputable def pack_laid : T_pack_laid := @pack_laid_b @pack_laid_7 @pack_laid_17
noncomputable def g_pack_laid (N : Nat) : TypedM p_pack_laid [q_pack_laid_0] := fun R x C => pack_laid N x.1.1 x.2.1 (fun y0 y1 y2 y3 => C.1 ((((), y0, y1, ()), ()), (y2, y3, ())))
noncomputable def S_pack_laid (pack_laid : T_pack_laid) (N : Nat) : Go.AX.Spec := specM [true, false] [] false 2 1 p_pack_laid [q_pack_laid_0] (fun R x C => pack_laid N x.1.1 x.2.1 (fun y0 y1 y2 y3 => C.1 ((((), y0, y1, ()), ()), (y2, y3, ()))))
noncomputable def s_pack_laid (N : Nat) : Go.AX.Spec := S_pack_laid @pack_laid N
noncomputable def L_pack_laid (N : Nat) : List (Nat × Frag) := [(7, fragOf p_pack_laid_7 (g_pack_laid_7 N N)), (25, fragOf p_pack_laid_25 (g_pack_laid_25 N N)), (17, fragOf p_pack_laid_17 (g_pack_laid_17 N N))]
noncomputable def G_pack_laid (N : Nat) : List (Nat × Go.AX.Spec) := [(54, s_ocode_Named N), (38, s_pack_class N), (114, s_pack_placed N), (92, s_pack_layout_end N)]
noncomputable def b_pack_buffer_byte : Code := Go.Proofs.Try.f46.body.getD .skip
noncomputable def p_pack_buffer_byte : SPat := ⟨[(0, .one (.ptr 0)), (1, .one (.val (.int .i64)))], [(0, .cells 68 [(.slf 1)]), (1, .row 5 (.int .u8))]⟩
noncomputable def q_pack_buffer_byte_0 : SPat := ⟨[(0, .one (.ptr 0))], [(0, .cells 68 [(.slf 1)]), (1, .row 5 (.int .u8))]⟩
@[reducible] def A_pack_buffer_byte (R : Type) : Type := Int → d0 → (d0 → Option R) → Option R
@[reducible] def T_pack_buffer_byte : Type 1 := {R : Type} → Nat → A_pack_buffer_byte R
noncomputable def pack_buffer_byte : T_pack_buffer_byte := fun {R} N x0 x1 K0 =>
    if ((((List.length x1) + (List.length ((IntKind.wrap .u8 x0) :: ([] : List Int)))) * (1 : Nat)) ≤ (70368744177664 : Nat)) then (K0 ((x1 ++ ((IntKind.wrap .u8 x0) :: ([] : List Int))))) else none
noncomputable def g_pack_buffer_byte (N : Nat) : TypedM p_pack_buffer_byte [q_pack_buffer_byte_0] := fun R x C => pack_buffer_byte N x.1.2.1 x.2.2.1 (fun y0 => C.1 (((), ()), (((), ()), y0, ())))
noncomputable def S_pack_buffer_byte (pack_buffer_byte : T_pack_buffer_byte) (N : Nat) : Go.AX.Spec := specM [false, true] (List.replicate 32 true) true 2 2 p_pack_buffer_byte [q_pack_buffer_byte_0] (fun R x C => pack_buffer_byte N x.1.2.1 x.2.2.1 (fun y0 => C.1 (((), ()), (((), ()), y0, ()))))
noncomputable def s_pack_buffer_byte (N : Nat) : Go.AX.Spec := S_pack_buffer_byte @pack_buffer_byte N
noncomputable def L_pack_buffer_byte (N : Nat) : List (Nat × Frag) := []
noncomputable def G_pack_buffer_byte (N : Nat) : List (Nat × Go.AX.Spec) := []
noncomputable def b_pack_buffer_num : Code := Go.Proofs.Try.f48.body.getD .skip
noncomputable def p_pack_buffer_num_5 : SPat := ⟨[(0, .one (.ptr 0)), (1, .one (.val (.int .i64))), (7, .one (.val (.int .i64)))], [(0, .cells 68 [(.slf 1)]), (1, .row 5 (.int .u8))]⟩
noncomputable def o_pack_buffer_num_5_0 : SPat := ⟨[(0, .one (.ptr 0))], [(0, .cells 68 [(.slf 1)]), (1, .row 5 (.int .u8))]⟩
noncomputable def o_pack_buffer_num_5 : Outs := .cons (.exit 0) o_pack_buffer_num_5_0 (.nil)
@[reducible] def A_pack_buffer_num_5 (R : Type) : Type := Int → Int → d0 → (d0 → Option R) → Option R
@[reducible] def B_pack_buffer_num_5 (R : Type) : Type := Int → Int → d0 → Option R
@[reducible] def T_pack_buffer_num_5 : Type 1 := {R : Type} → Nat → Nat → A_pack_buffer_num_5 R
noncomputable def pack_buffer_num_5_b (pack_buffer_byte : T_pack_buffer_byte) {R : Type} (N : Nat) (rc : B_pack_buffer_num_5 R) : A_pack_buffer_num_5 R := fun x0 x1 x2 K0 =>
    if ((decide ((x1 ≥ (0 : Int)))) = true) then (let v0 := (wi ((8 : Int) * x1)); if (v0 < (0 : Int)) then none else (pack_buffer_byte N ((shrI .i64 x0 v0)) x2 (fun y0 => rc x0 ((wi (x1 - (1 : Int)))) y0))) else (K0 x2)
noncomputable def pack_buffer_num_5 {R : Type} (N : Nat) : Nat → A_pack_buffer_num_5 R
  | 0 => fun _ _ _ _ => none
  | k + 1 => fun x0 x1 x2 K0 => pack_buffer_num_5_b @pack_buffer_byte N (fun x0 x1 x2 => pack_buffer_num_5 N k x0 x1 x2 K0) x0 x1 x2 K0
noncomputable def H_pack_buffer_num_5 (pack_buffer_num_5 : T_pack_buffer_num_5) (N k : Nat) : Typed p_pack_buffer_num_5 := fun R x K => pack_buffer_num_5 N k x.1.2.1 x.1.2.2.1 x.2.2.1 (fun y0 => K (.exit 0) (encS o_pack_buffer_num_5_0 (((), ()), (((), ()), y0, ()))))
noncomputable def g_pack_buffer_num_5 (N k : Nat) : Typed p_pack_buffer_num_5 := H_pack_buffer_num_5 @pack_buffer_num_5 N k
noncomputable def p_pack_buffer_num : SPat := ⟨[(0, .one (.ptr 0)), (1, .one (.val (.int .i64))), (2, .one (.val (.int .i64)))], [(0, .cells 68 [(.slf 1)]), (1, .row 5 (.int .u8))]⟩
noncomputable def q_pack_buffer_num_0 : SPat := ⟨[(0, .one (.ptr 0))], [(0, .cells 68 [(.slf 1)]), (1, .row 5 (.int .u8))]⟩
@[reducible] def A_pack_buffer_num (R : Type) : Type := Int → Int → d0 → (d0 → Option R) → Option R
@[reducible] def T_pack_buffer_num : Type 1 := {R : Type} → Nat → A_pack_buffer_num R
noncomputable def pack_buffer_num_b (pack_buffer_num_5 : T_pack_buffer_num_5) : T_pack_buffer_num := fun {R} N x0 x1 x2 K0 =>
    pack_buffer_num_5 N N x0 ((wi (x1 - (1 : Int)))) x2 (fun y0 => K0 y0)
noncomputable def pack_buffer_num : T_pack_buffer_num := @pack_buffer_num_b @pack_buffer_num_5
noncomputable def g_pack_buffer_num (N : Nat) : TypedM p_pack_buffer_num [q_pack_buffer_num_0] := fun R x C => pack_buffer_num N x.1.2.1 x.1.2.2.1 x.2.2.1 (fun y0 => C.1 (((), ()), (((), ()), y0, ())))
noncomputable def S_pack_buffer_num (pack_buffer_num : T_pack_buffer_num) (N : Nat) : Go.AX.Spec := specM [false, true, true] (List.replicate 32 true) true 3 2 p_pack_buffer_num [q_pack_buffer_num_0] (fun R x C => pack_buffer_num N x.1.2.1 x.1.2.2.1 x.2.2.1 (fun y0 => C.1 (((), ()), (((), ()), y0, ()))))
noncomputable def s_pack_buffer_num (N : Nat) : Go.AX.Spec := S_pack_buffer_num @pack_buffer_num N
noncomputable def L_pack_buffer_num (N : Nat) : List (Nat × Frag) := [(5, fragOf p_pack_buffer_num_5 (g_pack_buffer_num_5 N N))]
noncomputable def G_pack_buffer_num (N : Nat) : List (Nat × Go.AX.Spec) := [(46, s_pack_buffer_byte N)]
noncomputable def p_pack_body_26 : SPat := ⟨[(0, .one (.val z4)), (3, .one (.ptr 32)), (4, .one (.mp 33)), (5, .one (.ptr 34)), (6, .one (.ptr 35)), (7, .one (.val (.int .i64))), (8, .one (.ptr 36)), (9, .one (.val (.int .i64))), (10, .one (.val (.int .i64))), (18, .one (.val z4)), (19, .one (.val (.int .i64))), (20, .one (.val (.int .i64)))], [(32, .cells 63 [(.slf 37), (.slf 38), (.val (.int .i64))]), (33, .amap 82 (.int .i64) (.int .i64)), (34, .cells 63 [(.slf 39), (.val (.list (.int .i64))), (.val (.int .i64))]), (35, .cells 68 [(.slf 40)]), (36, .cells 24 [(.val (.int .i64)), (.val (.int .i64)), (.val (.int .i64))]), (37, .row 3 (.int .i64)), (38, .row 3 (.int .i64)), (39, .row 3 (.int .i64)), (40, .row 5 (.int .u8))]⟩
noncomputable def o_pack_body_26_0 : SPat := ⟨[(0, .one (.val z4)), (3, .one (.ptr 32)), (4, .one (.mp 33)), (5, .one (.ptr 34)), (6, .one (.ptr 35)), (18, .one (.val z4)), (19, .one (.val (.int .i64))), (20, .one (.val (.int .i64)))], [(32, .cells 63 [(.slf 36), (.slf 37), (.val (.int .i64))]), (33, .amap 82 (.int .i64) (.int .i64)), (34, .cells 63 [(.slf 38), (.val (.list (.int .i64))), (.val (.int .i64))]), (35, .cells 68 [(.slf 39)]), (36, .row 3 (.int .i64)), (37, .row 3 (.int .i64)), (38, .row 3 (.int .i64)), (39, .row 5 (.int .u8))]⟩
noncomputable def o_pack_body_26 : Outs := .cons .normal o_pack_body_26_0 (.nil)
@[reducible] def A_pack_body_26 (R : Type) : Type := d4 → Int → Int → Int → d4 → Int → Int → Int → d2 → d0 → Int → Int → Int → Int → d0 → d0 → d0 → d0 → (d4 → d4 → Int → Int → Int → d2 → d0 → Int → d0 → d0 → d0 → d0 → Option R) → Option R
@[reducible] def T_pack_body_26 : Type 1 := {R : Type} → Nat → A_pack_body_26 R
noncomputable def pack_body_26_b (pack_buffer_byte : T_pack_buffer_byte) (pack_bytes : T_pack_bytes) (pack_buffer_num : T_pack_buffer_num) (pack_extra : T_pack_extra) : T_pack_body_26 := fun {R} N x0 x1 x2 x3 x4 x5 x6 x7 x8 x9 x10 x11 x12 x13 x14 x15 x16 x17 K0 =>
    if (((0 : Int) ≤ x1) ∧ (x1 < (len x9))) then (let v0 := (List.getD x9 (Int.toNat x1) (0 : Int)); pack_buffer_byte N ((wi (x11 + (wi ((32 : Int) * v0))))) x17 (fun y0 => if (((0 : Int) ≤ x1) ∧ (x1 < (len x9))) then (pack_bytes N v0 (fun y1 => pack_buffer_num N x2 y1 y0 (fun y2 => pack_extra N x11 (fun y3 => pack_buffer_num N x3 y3 y2 (fun y4 => K0 x0 x4 x5 x6 x7 x8 x9 x10 x14 x15 x16 y4))))) else none)) else none
noncomputable def pack_body_26 : T_pack_body_26 := @pack_body_26_b @pack_buffer_byte @pack_bytes @pack_buffer_num @pack_extra
noncomputable def H_pack_body_26 (pack_body_26 : T_pack_body_26) (N : Nat) : Typed p_pack_body_26 := fun R x K => pack_body_26 N x.1.1 x.1.2.2.2.2.2.1 x.1.2.2.2.2.2.2.2.1 x.1.2.2.2.2.2.2.2.2.1 x.1.2.2.2.2.2.2.2.2.2.1 x.1.2.2.2.2.2.2.2.2.2.2.1 x.1.2.2.2.2.2.2.2.2.2.2.2.1 x.2.1.2.2.1 x.2.2.1 x.2.2.2.1.2.1 x.2.2.2.1.2.2.1 x.2.2.2.2.2.1.1 x.2.2.2.2.2.1.2.1 x.2.2.2.2.2.1.2.2.1 x.2.2.2.2.2.2.1 x.2.2.2.2.2.2.2.1 x.2.2.2.2.2.2.2.2.1 x.2.2.2.2.2.2.2.2.2.1 (fun y0 y1 y2 y3 y4 y5 y6 y7 y8 y9 y10 y11 => K .normal (encS o_pack_body_26_0 ((y0, (), (), (), (), y1, y2, y3, ()), (((), (), y4, ()), y5, ((), y6, y7, ()), ((), ()), y8, y9, y10, y11, ()))))
noncomputable def g_pack_body_26 (N : Nat) : Typed p_pack_body_26 := H_pack_body_26 @pack_body_26 N
noncomputable def p_pack_body_11 : SPat := ⟨[(0, .one (.val z4)), (3, .one (.ptr 32)), (4, .one (.mp 33)), (5, .one (.ptr 34)), (6, .one (.ptr 35)), (18, .one (.val z4)), (19, .one (.val (.int .i64))), (20, .one (.val (.int .i64)))], [(32, .cells 63 [(.slf 36), (.slf 37), (.val (.int .i64))]), (33, .amap 82 (.int .i64) (.int .i64)), (34, .cells 63 [(.slf 38), (.val (.list (.int .i64))), (.val (.int .i64))]), (35, .cells 68 [(.slf 39)]), (36, .row 3 (.int .i64)), (37, .row 3 (.int .i64)), (38, .row 3 (.int .i64)), (39, .row 5 (.int .u8))]⟩
noncomputable def o_pack_body_11_0 : SPat := ⟨[(3, .one (.ptr 32)), (5, .one (.ptr 33)), (6, .one (.ptr 34))], [(32, .cells 63 [(.slf 35), (.slf 36), (.val (.int .i64))]), (33, .cells 63 [(.slf 37), (.val (.list (.int .i64))), (.val (.int .i64))]), (34, .cells 68 [(.slf 38)]), (35, .row 3 (.int .i64)), (36, .row 3 (.int .i64)), (37, .row 3 (.int .i64)), (38, .row 5 (.int .u8))]⟩
noncomputable def o_pack_body_11 : Outs := .cons (.exit 0) o_pack_body_11_0 (.nil)
@[reducible] def A_pack_body_11 (R : Type) : Type := d4 → d4 → Int → Int → Int → d2 → d0 → Int → d0 → d0 → d0 → d0 → (Int → d0 → Int → d0 → d0 → d0 → d0 → Option R) → Option R
@[reducible] def B_pack_body_11 (R : Type) : Type := d4 → d4 → Int → Int → Int → d2 → d0 → Int → d0 → d0 → d0 → d0 → Option R
@[reducible] def T_pack_body_11 : Type 1 := {R : Type} → Nat → Nat → A_pack_body_11 R
noncomputable def pack_body_11_b (pack_layout_end : T_pack_layout_end) (pack_body_26 : T_pack_body_26) (ocode_Named : T_ocode_Named) {R : Type} (N : Nat) (rc : B_pack_body_11 R) : A_pack_body_11 R := fun x0 x1 x2 x3 x4 x5 x6 x7 x8 x9 x10 x11 K0 =>
    if ((decide ((x3 < x2))) = true) then (if (((0 : Int) ≤ x3) ∧ (x3 < (len x1))) then (let v0 := (List.getD x1 (Int.toNat x3) ((0 : Int), ((0 : Int), (0 : Int)))).1; let v1 := (List.getD x1 (Int.toNat x3) ((0 : Int), ((0 : Int), (0 : Int)))).2.1; let v2 := (List.getD x1 (Int.toNat x3) ((0 : Int), ((0 : Int), (0 : Int)))).2.2; if ((v0 == (19 : Int)) = true) then (rc x0 x1 x2 ((wi (x3 + (1 : Int)))) x4 x5 x6 x7 x8 x9 x10 x11) else (if ((v0 == (30 : Int)) = true) then (let v3 := (Option.getD (mget (kt := (.int .i64)) (et := (.int .i64)) v2 x5) (0 : Int)); if (((0 : Int) ≤ v3) ∧ (v3 < (len x10))) then (pack_layout_end N x10 x6 x7 x0 x3 (fun y0 => pack_body_26 N x0 x3 v1 ((wi ((List.getD x10 (Int.toNat v3) (0 : Int)) - y0))) x1 x2 x3 x4 x5 x6 x7 v0 v1 v2 x8 x9 x10 x11 (fun y1 y2 y3 y4 y5 y6 y7 y8 y9 y10 y11 y12 => rc y1 y2 y3 ((wi (y4 + (1 : Int)))) y5 y6 y7 y8 y9 y10 y11 y12))) else none) else (ocode_Named N v0 v1 v2 (fun y13 => if ((decide ((y13 > (0 : Int)))) = true) then (let v4 := (Option.getD (mget (kt := (.int .i64)) (et := (.int .i64)) v1 x5) (0 : Int)); if (((0 : Int) ≤ v4) ∧ (v4 < (len x10))) then (pack_layout_end N x10 x6 x7 x0 x3 (fun y14 => pack_body_26 N x0 x3 ((wi ((List.getD x10 (Int.toNat v4) (0 : Int)) - y14))) v2 x1 x2 x3 x4 x5 x6 x7 v0 v1 v2 x8 x9 x10 x11 (fun y15 y16 y17 y18 y19 y20 y21 y22 y23 y24 y25 y26 => rc y15 y16 y17 ((wi (y18 + (1 : Int)))) y19 y20 y21 y22 y23 y24 y25 y26))) else none) else (pack_body_26 N x0 x3 v1 v2 x1 x2 x3 x4 x5 x6 x7 v0 v1 v2 x8 x9 x10 x11 (fun y27 y28 y29 y30 y31 y32 y33 y34 y35 y36 y37 y38 => rc y27 y28 y29 ((wi (y30 + (1 : Int)))) y31 y32 y33 y34 y35 y36 y37 y38)))))) else none) else (K0 x4 x6 x7 x8 x9 x10 x11)
noncomputable def pack_body_11 {R : Type} (N : Nat) : Nat → A_pack_body_11 R
  | 0 => fun _ _ _ _ _ _ _ _ _ _ _ _ _ => none
  | k + 1 => fun x0 x1 x2 x3 x4 x5 x6 x7 x8 x9 x10 x11 K0 => pack_body_11_b @pack_layout_end @pack_body_26 @ocode_Named N (fun x0 x1 x2 x3 x4 x5 x6 x7 x8 x9 x10 x11 => pack_body_11 N k x0 x1 x2 x3 x4 x5 x6 x7 x8 x9 x10 x11 K0) x0 x1 x2 x3 x4 x5 x6 x7 x8 x9 x10 x11 K0
noncomputable def H_pack_body_11 (pack_body_11 : T_pack_body_11) (N k : Nat) : Typed p_pack_body_11 := fun R x K => pack_body_11 N k x.1.1 x.1.2.2.2.2.2.1 x.1.2.2.2.2.2.2.1 x.1.2.2.2.2.2.2.2.1 x.2.1.2.2.1 x.2.2.1 x.2.2.2.1.2.1 x.2.2.2.1.2.2.1 x.2.2.2.2.2.1 x.2.2.2.2.2.2.1 x.2.2.2.2.2.2.2.1 x.2.2.2.2.2.2.2.2.1 (fun y0 y1 y2 y3 y4 y5 y6 => K (.exit 0) (encS o_pack_body_11_0 (((), (), (), ()), (((), (), y0, ()), ((), y1, y2, ()), ((), ()), y3, y4, y5, y6, ()))))
noncomputable def g_pack_body_11 (N k : Nat) : Typed p_pack_body_11 := H_pack_body_11 @pack_body_11 N k
noncomputable def p_pack_body : SPat := ⟨[(0, .one (.val z4))], []⟩
noncomputable def q_pack_body_0 : SPat := ⟨[(0, .one (.slf 32)), (1, .agg [(.slf 33), (.val (.list (.int .i64))), (.val (.int .i64))])], [(32, .row 5 (.int .u8)), (33, .row 3 (.int .i64))]⟩
@[reducible] def A_pack_body (R : Type) : Type := d4 → (d0 → Int → d0 → d0 → Option R) → Option R
@[reducible] def T_pack_body : Type 1 := {R : Type} → Nat → A_pack_body R
noncomputable def pack_body_b (pack_marks : T_pack_marks) (pack_laid : T_pack_laid) (pack_body_11 : T_pack_body_11) : T_pack_body := fun {R} N x0 K0 =>
    pack_marks N x0 (fun y0 => pack_laid N x0 y0 (fun y1 y2 y3 y4 => pack_body_11 N N x0 x0 ((len x0)) 0 0 y3 y1 y2 (([] : List Int)) (([] : List Int)) y4 (([] : List Int)) (fun y5 y6 y7 y8 y9 y10 y11 => K0 y6 y7 y11 y10)))
noncomputable def pack_body : T_pack_body := @pack_body_b @pack_marks @pack_laid @pack_body_11
noncomputable def g_pack_body (N : Nat) : TypedM p_pack_body [q_pack_body_0] := fun R x C => pack_body N x.1.1 (fun y0 y1 y2 y3 => C.1 (((), ((), y0, y1, ()), ()), (y2, y3, ())))
noncomputable def S_pack_body (pack_body : T_pack_body) (N : Nat) : Go.AX.Spec := specM [true] [] false 1 0 p_pack_body [q_pack_body_0] (fun R x C => pack_body N x.1.1 (fun y0 y1 y2 y3 => C.1 (((), ((), y0, y1, ()), ()), (y2, y3, ()))))
noncomputable def s_pack_body (N : Nat) : Go.AX.Spec := S_pack_body @pack_body N
noncomputable def L_pack_body (N : Nat) : List (Nat × Frag) := [(26, fragOf p_pack_body_26 (g_pack_body_26 N)), (11, fragOf p_pack_body_11 (g_pack_body_11 N N))]
noncomputable def G_pack_body (N : Nat) : List (Nat × Go.AX.Spec) := [(90, s_pack_marks N), (91, s_pack_laid N), (92, s_pack_layout_end N), (46, s_pack_buffer_byte N), (60, s_pack_bytes N), (48, s_pack_buffer_num N), (37, s_pack_extra N), (54, s_ocode_Named N)]
noncomputable def p_pack_small : SPat := ⟨[(0, .agg [(.val .str), (.val z3), (.val z4), (.val z1), (.val (.int .i64)), (.val (.int .i64))])], []⟩
noncomputable def q_pack_small_0 : SPat := ⟨[(0, .one (.slf 32)), (1, .agg [(.slf 33), (.slf 34), (.val (.int .i64))]), (2, .one (.val (.int .i64)))], [(32, .row 5 (.int .u8)), (33, .row 3 (.int .i64)), (34, .row 3 (.int .i64))]⟩
noncomputable def q_pack_small_1 : SPat := ⟨[(0, .one (.slf 32)), (1, .agg [(.slf 33), (.val (.list (.int .i64))), (.val (.int .i64))]), (2, .one (.val (.int .i64)))], [(32, .row 5 (.int .u8)), (33, .row 3 (.int .i64))]⟩
@[reducible] def A_pack_small (R : Type) : Type := (List UInt8) → d5 → d4 → d1 → Int → Int → (Int → Int → d0 → d0 → d0 → Option R) → (d0 → Int → Int → d0 → d0 → Option R) → Option R
@[reducible] def T_pack_small : Type 1 := {R : Type} → Nat → A_pack_small R
noncomputable def pack_small_b (ocode_Check : T_ocode_Check) (pack_body : T_pack_body) : T_pack_small := fun {R} N x0 x1 x2 x3 x4 x5 K0 K1 =>
    ocode_Check N x0 x1 x2 x3 x4 x5 (fun y0 => if ((y0 != (0 : Int)) = true) then (K0 0 y0 (([] : List Int)) (([] : List Int)) (([] : List Int))) else (pack_body N x2 (fun y1 y2 y3 y4 => if ((decide (((len y3) > (32767 : Int)))) = true) then (K0 0 2 (([] : List Int)) (([] : List Int)) (([] : List Int))) else (if ((decide (((len x0) > (255 : Int)))) = true) then (K0 0 2 (([] : List Int)) (([] : List Int)) (([] : List Int))) else (if ((decide (((len x3) > (255 : Int)))) = true) then (K0 0 2 (([] : List Int)) (([] : List Int)) (([] : List Int))) else (K1 y1 y2 0 y3 y4))))))
noncomputable def pack_small : T_pack_small := @pack_small_b @ocode_Check @pack_body
noncomputable def g_pack_small (N : Nat) : TypedM p_pack_small [q_pack_small_0, q_pack_small_1] := fun R x C => pack_small N x.1.1.1 x.1.1.2.1 x.1.1.2.2.1 x.1.1.2.2.2.1 x.1.1.2.2.2.2.1 x.1.1.2.2.2.2.2.1 (fun y0 y1 y2 y3 y4 => C.1 (((), ((), (), y0, ()), y1, ()), (y2, y3, y4, ()))) (fun y0 y1 y2 y3 y4 => C.2.1 (((), ((), y0, y1, ()), y2, ()), (y3, y4, ())))
noncomputable def S_pack_small (pack_small : T_pack_small) (N : Nat) : Go.AX.Spec := specM [true] [] false 1 0 p_pack_small [q_pack_small_0, q_pack_small_1] (fun R x C => pack_small N x.1.1.1 x.1.1.2.1 x.1.1.2.2.1 x.1.1.2.2.2.1 x.1.1.2.2.2.2.1 x.1.1.2.2.2.2.2.1 (fun y0 y1 y2 y3 y4 => C.1 (((), ((), (), y0, ()), y1, ()), (y2, y3, y4, ()))) (fun y0 y1 y2 y3 y4 => C.2.1 (((), ((), y0, y1, ()), y2, ()), (y3, y4, ()))))
noncomputable def s_pack_small (N : Nat) : Go.AX.Spec := S_pack_small @pack_small N
noncomputable def L_pack_small (N : Nat) : List (Nat × Frag) := []
noncomputable def G_pack_small (N : Nat) : List (Nat × Go.AX.Spec) := [(67, s_ocode_Check N), (68, s_pack_body N)]
noncomputable def b_pack_buffer_text : Code := Go.Proofs.Try.f47.body.getD .skip
noncomputable def p_pack_buffer_text : SPat := ⟨[(0, .one (.ptr 0)), (1, .one (.val .str))], [(0, .cells 68 [(.slf 1)]), (1, .row 5 (.int .u8))]⟩
noncomputable def q_pack_buffer_text_0 : SPat := ⟨[(0, .one (.ptr 0))], [(0, .cells 68 [(.slf 1)]), (1, .row 5 (.int .u8))]⟩
@[reducible] def A_pack_buffer_text (R : Type) : Type := (List UInt8) → d0 → (d0 → Option R) → Option R
@[reducible] def T_pack_buffer_text : Type 1 := {R : Type} → Nat → A_pack_buffer_text R
noncomputable def pack_buffer_text_b (pack_buffer_byte : T_pack_buffer_byte) : T_pack_buffer_text := fun {R} N x0 x1 K0 =>
    pack_buffer_byte N ((len x0)) x1 (fun y0 => if ((((List.length y0) + (List.length (List.map (fun b : UInt8 => (((UInt8.toNat b) : Nat) : Int)) x0))) * (1 : Nat)) ≤ (70368744177664 : Nat)) then (K0 ((y0 ++ (List.map (fun b : UInt8 => (((UInt8.toNat b) : Nat) : Int)) x0)))) else none)
noncomputable def pack_buffer_text : T_pack_buffer_text := @pack_buffer_text_b @pack_buffer_byte
noncomputable def g_pack_buffer_text (N : Nat) : TypedM p_pack_buffer_text [q_pack_buffer_text_0] := fun R x C => pack_buffer_text N x.1.2.1 x.2.2.1 (fun y0 => C.1 (((), ()), (((), ()), y0, ())))
noncomputable def S_pack_buffer_text (pack_buffer_text : T_pack_buffer_text) (N : Nat) : Go.AX.Spec := specM [false, true] (List.replicate 32 true) true 2 2 p_pack_buffer_text [q_pack_buffer_text_0] (fun R x C => pack_buffer_text N x.1.2.1 x.2.2.1 (fun y0 => C.1 (((), ()), (((), ()), y0, ()))))
noncomputable def s_pack_buffer_text (N : Nat) : Go.AX.Spec := S_pack_buffer_text @pack_buffer_text N
noncomputable def L_pack_buffer_text (N : Nat) : List (Nat × Frag) := []
noncomputable def G_pack_buffer_text (N : Nat) : List (Nat × Go.AX.Spec) := [(46, s_pack_buffer_byte N)]
noncomputable def p_pack_Pack_27 : SPat := ⟨[(1, .one (.ptr 32)), (4, .one (.slf 33)), (7, .one (.ptr 34)), (37, .one (.val z3)), (38, .one (.val (.int .i64))), (39, .one (.val (.int .i64))), (57, .one (.val (.list (.int .i64)))), (58, .one (.val (.int .i64))), (59, .one (.val (.int .i64)))], [(32, .cells 34 [(.val .str), (.val z3), (.val z4), (.val z1), (.val (.int .i64)), (.val (.int .i64))]), (33, .row 5 (.int .u8)), (34, .cells 68 [(.slf 35)]), (35, .row 5 (.int .u8))]⟩
noncomputable def o_pack_Pack_27_0 : SPat := ⟨[(1, .one (.ptr 32)), (4, .one (.slf 33)), (7, .one (.ptr 34)), (37, .one (.val z3)), (38, .one (.val (.int .i64))), (39, .one (.val (.int .i64)))], [(32, .cells 34 [(.val .str), (.val z3), (.val z4), (.val z1), (.val (.int .i64)), (.val (.int .i64))]), (33, .row 5 (.int .u8)), (34, .cells 68 [(.slf 35)]), (35, .row 5 (.int .u8))]⟩
noncomputable def o_pack_Pack_27 : Outs := .cons (.exit 2) o_pack_Pack_27_0 (.nil)
@[reducible] def A_pack_Pack_27 (R : Type) : Type := d5 → Int → Int → d0 → Int → Int → (List UInt8) → d5 → d4 → d1 → Int → Int → d0 → d0 → (d5 → Int → Int → (List UInt8) → d5 → d4 → d1 → Int → Int → d0 → d0 → Option R) → Option R
@[reducible] def B_pack_Pack_27 (R : Type) : Type := d5 → Int → Int → d0 → Int → Int → (List UInt8) → d5 → d4 → d1 → Int → Int → d0 → d0 → Option R
@[reducible] def T_pack_Pack_27 : Type 1 := {R : Type} → Nat → Nat → A_pack_Pack_27 R
noncomputable def pack_Pack_27_b (pack_buffer_num : T_pack_buffer_num) {R : Type} (N : Nat) (rc : B_pack_Pack_27 R) : A_pack_Pack_27 R := fun x0 x1 x2 x3 x4 x5 x6 x7 x8 x9 x10 x11 x12 x13 K0 =>
    if ((decide ((x5 < x4))) = true) then (if (((0 : Int) ≤ x5) ∧ (x5 < (len x3))) then (pack_buffer_num N ((List.getD x3 (Int.toNat x5) (0 : Int))) 4 x13 (fun y0 => rc x0 x1 x2 x3 x4 ((wi (x5 + (1 : Int)))) x6 x7 x8 x9 x10 x11 x12 y0)) else none) else (K0 x0 x1 x2 x6 x7 x8 x9 x10 x11 x12 x13)
noncomputable def pack_Pack_27 {R : Type} (N : Nat) : Nat → A_pack_Pack_27 R
  | 0 => fun _ _ _ _ _ _ _ _ _ _ _ _ _ _ _ => none
  | k + 1 => fun x0 x1 x2 x3 x4 x5 x6 x7 x8 x9 x10 x11 x12 x13 K0 => pack_Pack_27_b @pack_buffer_num N (fun x0 x1 x2 x3 x4 x5 x6 x7 x8 x9 x10 x11 x12 x13 => pack_Pack_27 N k x0 x1 x2 x3 x4 x5 x6 x7 x8 x9 x10 x11 x12 x13 K0) x0 x1 x2 x3 x4 x5 x6 x7 x8 x9 x10 x11 x12 x13 K0
noncomputable def H_pack_Pack_27 (pack_Pack_27 : T_pack_Pack_27) (N k : Nat) : Typed p_pack_Pack_27 := fun R x K => pack_Pack_27 N k x.1.2.2.2.1 x.1.2.2.2.2.1 x.1.2.2.2.2.2.1 x.1.2.2.2.2.2.2.1 x.1.2.2.2.2.2.2.2.1 x.1.2.2.2.2.2.2.2.2.1 x.2.1.1 x.2.1.2.1 x.2.1.2.2.1 x.2.1.2.2.2.1 x.2.1.2.2.2.2.1 x.2.1.2.2.2.2.2.1 x.2.2.1 x.2.2.2.2.1 (fun y0 y1 y2 y3 y4 y5 y6 y7 y8 y9 y10 => K (.exit 2) (encS o_pack_Pack_27_0 (((), (), (), y0, y1, y2, ()), ((y3, y4, y5, y6, y7, y8, ()), y9, ((), ()), y10, ()))))
noncomputable def g_pack_Pack_27 (N k : Nat) : Typed p_pack_Pack_27 := H_pack_Pack_27 @pack_Pack_27 N k
noncomputable def p_pack_Pack_15 : SPat := ⟨[(1, .one (.ptr 32)), (4, .one (.slf 33)), (7, .one (.ptr 34)), (37, .one (.val z3)), (38, .one (.val (.int .i64))), (39, .one (.val (.int .i64)))], [(32, .cells 34 [(.val .str), (.val z3), (.val z4), (.val z1), (.val (.int .i64)), (.val (.int .i64))]), (33, .row 5 (.int .u8)), (34, .cells 68 [(.slf 35)]), (35, .row 5 (.int .u8))]⟩
noncomputable def o_pack_Pack_15_0 : SPat := ⟨[(1, .one (.ptr 32)), (4, .one (.slf 33)), (7, .one (.ptr 34))], [(32, .cells 34 [(.val .str), (.val z3), (.val z4), (.val z1), (.val (.int .i64)), (.val (.int .i64))]), (33, .row 5 (.int .u8)), (34, .cells 68 [(.slf 35)]), (35, .row 5 (.int .u8))]⟩
noncomputable def o_pack_Pack_15 : Outs := .cons (.exit 0) o_pack_Pack_15_0 (.nil)
@[reducible] def A_pack_Pack_15 (R : Type) : Type := d5 → Int → Int → (List UInt8) → d5 → d4 → d1 → Int → Int → d0 → d0 → ((List UInt8) → d5 → d4 → d1 → Int → Int → d0 → d0 → Option R) → Option R
@[reducible] def B_pack_Pack_15 (R : Type) : Type := d5 → Int → Int → (List UInt8) → d5 → d4 → d1 → Int → Int → d0 → d0 → Option R
@[reducible] def T_pack_Pack_15 : Type 1 := {R : Type} → Nat → Nat → A_pack_Pack_15 R
noncomputable def pack_Pack_15_b (pack_buffer_byte : T_pack_buffer_byte) (pack_buffer_text : T_pack_buffer_text) (pack_buffer_num : T_pack_buffer_num) (pack_Pack_27 : T_pack_Pack_27) {R : Type} (N : Nat) (rc : B_pack_Pack_15 R) : A_pack_Pack_15 R := fun x0 x1 x2 x3 x4 x5 x6 x7 x8 x9 x10 K0 =>
    if ((decide ((x2 < x1))) = true) then (if (((0 : Int) ≤ x2) ∧ (x2 < (len x0))) then (let v0 := (List.getD x0 (Int.toNat x2) (([] : List UInt8), (false, ([] : List Int)))).2.2; if ((List.getD x0 (Int.toNat x2) (([] : List UInt8), (false, ([] : List Int)))).2.1 = true) then (pack_buffer_byte N 0 x10 (fun y0 => pack_buffer_text N ((List.getD x0 (Int.toNat x2) (([] : List UInt8), (false, ([] : List Int)))).1) y0 (fun y1 => rc x0 x1 ((wi (x2 + (1 : Int)))) x3 x4 x5 x6 x7 x8 x9 y1))) else (pack_buffer_byte N 1 x10 (fun y2 => pack_buffer_num N ((len v0)) 2 y2 (fun y3 => pack_Pack_27 N N x0 x1 x2 v0 ((len v0)) 0 x3 x4 x5 x6 x7 x8 x9 y3 (fun y4 y5 y6 y7 y8 y9 y10 y11 y12 y13 y14 => rc y4 y5 ((wi (y6 + (1 : Int)))) y7 y8 y9 y10 y11 y12 y13 y14))))) else none) else (K0 x3 x4 x5 x6 x7 x8 x9 x10)
noncomputable def pack_Pack_15 {R : Type} (N : Nat) : Nat → A_pack_Pack_15 R
  | 0 => fun _ _ _ _ _ _ _ _ _ _ _ _ => none
  | k + 1 => fun x0 x1 x2 x3 x4 x5 x6 x7 x8 x9 x10 K0 => pack_Pack_15_b @pack_buffer_byte @pack_buffer_text @pack_buffer_num @pack_Pack_27 N (fun x0 x1 x2 x3 x4 x5 x6 x7 x8 x9 x10 => pack_Pack_15 N k x0 x1 x2 x3 x4 x5 x6 x7 x8 x9 x10 K0) x0 x1 x2 x3 x4 x5 x6 x7 x8 x9 x10 K0
noncomputable def H_pack_Pack_15 (pack_Pack_15 : T_pack_Pack_15) (N k : Nat) : Typed p_pack_Pack_15 := fun R x K => pack_Pack_15 N k x.1.2.2.2.1 x.1.2.2.2.2.1 x.1.2.2.2.2.2.1 x.2.1.1 x.2.1.2.1 x.2.1.2.2.1 x.2.1.2.2.2.1 x.2.1.2.2.2.2.1 x.2.1.2.2.2.2.2.1 x.2.2.1 x.2.2.2.2.1 (fun y0 y1 y2 y3 y4 y5 y6 y7 => K (.exit 0) (encS o_pack_Pack_15_0 (((), (), (), ()), ((y0, y1, y2, y3, y4, y5, ()), y6, ((), ()), y7, ()))))
noncomputable def g_pack_Pack_15 (N k : Nat) : Typed p_pack_Pack_15 := H_pack_Pack_15 @pack_Pack_15 N k
noncomputable def p_pack_Pack_41 : SPat := ⟨[(4, .one (.slf 32)), (7, .one (.ptr 33)), (74, .one (.val z1)), (75, .one (.val (.int .i64))), (76, .one (.val (.int .i64)))], [(32, .row 5 (.int .u8)), (33, .cells 68 [(.slf 34)]), (34, .row 5 (.int .u8))]⟩
noncomputable def o_pack_Pack_41_0 : SPat := ⟨[(4, .one (.slf 32)), (7, .one (.ptr 33))], [(32, .row 5 (.int .u8)), (33, .cells 68 [(.slf 34)]), (34, .row 5 (.int .u8))]⟩
noncomputable def o_pack_Pack_41 : Outs := .cons (.exit 4) o_pack_Pack_41_0 (.nil)
@[reducible] def A_pack_Pack_41 (R : Type) : Type := d1 → Int → Int → d0 → d0 → (d0 → d0 → Option R) → Option R
@[reducible] def B_pack_Pack_41 (R : Type) : Type := d1 → Int → Int → d0 → d0 → Option R
@[reducible] def T_pack_Pack_41 : Type 1 := {R : Type} → Nat → Nat → A_pack_Pack_41 R
noncomputable def pack_Pack_41_b (pack_buffer_byte : T_pack_buffer_byte) (pack_buffer_num : T_pack_buffer_num) {R : Type} (N : Nat) (rc : B_pack_Pack_41 R) : A_pack_Pack_41 R := fun x0 x1 x2 x3 x4 K0 =>
    if ((decide ((x2 < x1))) = true) then (if (((0 : Int) ≤ x2) ∧ (x2 < (len x0))) then (pack_buffer_byte N ((List.getD x0 (Int.toNat x2) ((0 : Int), (0 : Int))).1) x4 (fun y0 => pack_buffer_num N ((List.getD x0 (Int.toNat x2) ((0 : Int), (0 : Int))).2) 2 y0 (fun y1 => rc x0 x1 ((wi (x2 + (1 : Int)))) x3 y1))) else none) else (K0 x3 x4)
noncomputable def pack_Pack_41 {R : Type} (N : Nat) : Nat → A_pack_Pack_41 R
  | 0 => fun _ _ _ _ _ _ => none
  | k + 1 => fun x0 x1 x2 x3 x4 K0 => pack_Pack_41_b @pack_buffer_byte @pack_buffer_num N (fun x0 x1 x2 x3 x4 => pack_Pack_41 N k x0 x1 x2 x3 x4 K0) x0 x1 x2 x3 x4 K0
noncomputable def H_pack_Pack_41 (pack_Pack_41 : T_pack_Pack_41) (N k : Nat) : Typed p_pack_Pack_41 := fun R x K => pack_Pack_41 N k x.1.2.2.1 x.1.2.2.2.1 x.1.2.2.2.2.1 x.2.1 x.2.2.2.1 (fun y0 y1 => K (.exit 4) (encS o_pack_Pack_41_0 (((), (), ()), (y0, ((), ()), y1, ()))))
noncomputable def g_pack_Pack_41 (N k : Nat) : Typed p_pack_Pack_41 := H_pack_Pack_41 @pack_Pack_41 N k
noncomputable def p_pack_Pack : SPat := ⟨[(0, .agg [(.val .str), (.val z3), (.val z4), (.val z1), (.val (.int .i64)), (.val (.int .i64))])], []⟩
noncomputable def q_pack_Pack_0 : SPat := ⟨[(0, .one (.slf 32)), (1, .one (.val (.int .i64)))], [(32, .row 5 (.int .u8))]⟩
@[reducible] def A_pack_Pack (R : Type) : Type := (List UInt8) → d5 → d4 → d1 → Int → Int → (Int → d0 → Option R) → Option R
@[reducible] def T_pack_Pack : Type 1 := {R : Type} → Nat → A_pack_Pack R
noncomputable def pack_Pack_b (pack_small : T_pack_small) (pack_buffer_byte : T_pack_buffer_byte) (pack_buffer_text : T_pack_buffer_text) (pack_buffer_num : T_pack_buffer_num) (pack_Pack_15 : T_pack_Pack_15) (pack_Pack_41 : T_pack_Pack_41) (pack_Sum : T_pack_Sum) : T_pack_Pack := fun {R} N x0 x1 x2 x3 x4 x5 K0 =>
    pack_small N x0 x1 x2 x3 x4 x5 (fun y0 y1 y2 y3 y4 => if ((y1 != (0 : Int)) = true) then (K0 y1 (([] : List Int))) else (pack_buffer_byte N 98 (([] : List Int)) (fun y5 => pack_buffer_byte N 98 y5 (fun y6 => pack_buffer_byte N 1 y6 (fun y7 => pack_buffer_text N x0 y7 (fun y8 => pack_buffer_num N ((len x1)) 2 y8 (fun y9 => pack_Pack_15 N N x1 ((len x1)) 0 x0 x1 x2 x3 x4 x5 y2 y9 (fun y10 y11 y12 y13 y14 y15 y16 y17 => pack_buffer_byte N ((len y13)) y17 (fun y18 => pack_Pack_41 N N y13 ((len y13)) 0 y16 y18 (fun y19 y20 => pack_buffer_num N ((len y19)) 4 y20 (fun y21 => if ((((List.length y21) + (List.length y19)) * (1 : Nat)) ≤ (70368744177664 : Nat)) then (pack_Sum N ((y21 ++ y19)) (fun y22 => pack_buffer_num N y22 4 ((y21 ++ y19)) (fun y23 => K0 0 y23))) else none))))))))))) (fun y24 y25 y26 y27 y28 => if ((y26 != (0 : Int)) = true) then (K0 y26 (([] : List Int))) else (pack_buffer_byte N 98 (([] : List Int)) (fun y29 => pack_buffer_byte N 98 y29 (fun y30 => pack_buffer_byte N 1 y30 (fun y31 => pack_buffer_text N x0 y31 (fun y32 => pack_buffer_num N ((len x1)) 2 y32 (fun y33 => pack_Pack_15 N N x1 ((len x1)) 0 x0 x1 x2 x3 x4 x5 y27 y33 (fun y34 y35 y36 y37 y38 y39 y40 y41 => pack_buffer_byte N ((len y37)) y41 (fun y42 => pack_Pack_41 N N y37 ((len y37)) 0 y40 y42 (fun y43 y44 => pack_buffer_num N ((len y43)) 4 y44 (fun y45 => if ((((List.length y45) + (List.length y43)) * (1 : Nat)) ≤ (70368744177664 : Nat)) then (pack_Sum N ((y45 ++ y43)) (fun y46 => pack_buffer_num N y46 4 ((y45 ++ y43)) (fun y47 => K0 0 y47))) else none)))))))))))
noncomputable def pack_Pack : T_pack_Pack := @pack_Pack_b @pack_small @pack_buffer_byte @pack_buffer_text @pack_buffer_num @pack_Pack_15 @pack_Pack_41 @pack_Sum
noncomputable def g_pack_Pack (N : Nat) : TypedM p_pack_Pack [q_pack_Pack_0] := fun R x C => pack_Pack N x.1.1.1 x.1.1.2.1 x.1.1.2.2.1 x.1.1.2.2.2.1 x.1.1.2.2.2.2.1 x.1.1.2.2.2.2.2.1 (fun y0 y1 => C.1 (((), y0, ()), (y1, ())))
noncomputable def S_pack_Pack (pack_Pack : T_pack_Pack) (N : Nat) : Go.AX.Spec := specM [true] [] false 1 0 p_pack_Pack [q_pack_Pack_0] (fun R x C => pack_Pack N x.1.1.1 x.1.1.2.1 x.1.1.2.2.1 x.1.1.2.2.2.1 x.1.1.2.2.2.2.1 x.1.1.2.2.2.2.2.1 (fun y0 y1 => C.1 (((), y0, ()), (y1, ()))))
noncomputable def s_pack_Pack (N : Nat) : Go.AX.Spec := S_pack_Pack @pack_Pack N
noncomputable def L_pack_Pack (N : Nat) : List (Nat × Frag) := [(27, fragOf p_pack_Pack_27 (g_pack_Pack_27 N N)), (15, fragOf p_pack_Pack_15 (g_pack_Pack_15 N N)), (41, fragOf p_pack_Pack_41 (g_pack_Pack_41 N N))]
noncomputable def G_pack_Pack (N : Nat) : List (Nat × Go.AX.Spec) := [(45, s_pack_small N), (46, s_pack_buffer_byte N), (47, s_pack_buffer_text N), (48, s_pack_buffer_num N), (31, s_pack_Sum N)]
noncomputable def b_slices_Equal_byte_byte : Code := Go.Proofs.Try.f77.body.getD .skip
noncomputable def p_slices_Equal_byte_byte_9 : SPat := ⟨[(0, .one (.val (.list (.int .u8)))), (1, .one (.val (.list (.int .u8)))), (12, .one (.val (.int .i64))), (13, .one (.val (.int .i64)))], []⟩
noncomputable def o_slices_Equal_byte_byte_9_0 : SPat := ⟨[(4, .one (.val .bool))], []⟩
noncomputable def o_slices_Equal_byte_byte_9_1 : SPat := ⟨[], []⟩
noncomputable def o_slices_Equal_byte_byte_9 : Outs := .cons .ret o_slices_Equal_byte_byte_9_0 (.cons (.exit 0) o_slices_Equal_byte_byte_9_1 (.nil))
@[reducible] def A_slices_Equal_byte_byte_9 (R : Type) : Type := d0 → d0 → Int → Int → (Bool → Option R) → (Option R) → Option R
@[reducible] def B_slices_Equal_byte_byte_9 (R : Type) : Type := d0 → d0 → Int → Int → Option R
@[reducible] def T_slices_Equal_byte_byte_9 : Type 1 := {R : Type} → Nat → Nat → A_slices_Equal_byte_byte_9 R
noncomputable def slices_Equal_byte_byte_9_b {R : Type} (N : Nat) (rc : B_slices_Equal_byte_byte_9 R) : A_slices_Equal_byte_byte_9 R := fun x0 x1 x2 x3 K0 K1 =>
    if ((decide ((x3 < x2))) = true) then (if (((0 : Int) ≤ x3) ∧ (x3 < (len x0))) then (if (((0 : Int) ≤ x3) ∧ (x3 < (len x1))) then (if (((List.getD x0 (Int.toNat x3) (0 : Int)) != (List.getD x1 (Int.toNat x3) (0 : Int))) = true) then (K0 false) else (rc x0 x1 x2 ((wi (x3 + (1 : Int)))))) else none) else none) else K1
noncomputable def slices_Equal_byte_byte_9 {R : Type} (N : Nat) : Nat → A_slices_Equal_byte_byte_9 R
  | 0 => fun _ _ _ _ _ _ => none
  | k + 1 => fun x0 x1 x2 x3 K0 K1 => slices_Equal_byte_byte_9_b N (fun x0 x1 x2 x3 => slices_Equal_byte_byte_9 N k x0 x1 x2 x3 K0 K1) x0 x1 x2 x3 K0 K1
noncomputable def H_slices_Equal_byte_byte_9 (slices_Equal_byte_byte_9 : T_slices_Equal_byte_byte_9) (N k : Nat) : Typed p_slices_Equal_byte_byte_9 := fun R x K => slices_Equal_byte_byte_9 N k x.1.1 x.1.2.1 x.1.2.2.1 x.1.2.2.2.1 (fun y0 => K .ret (encS o_slices_Equal_byte_byte_9_0 ((y0, ()), (())))) (K (.exit 0) (encS o_slices_Equal_byte_byte_9_1 ((()), (()))))
noncomputable def g_slices_Equal_byte_byte_9 (N k : Nat) : Typed p_slices_Equal_byte_byte_9 := H_slices_Equal_byte_byte_9 @slices_Equal_byte_byte_9 N k
noncomputable def p_slices_Equal_byte_byte : SPat := ⟨[(0, .one (.val (.list (.int .u8)))), (1, .one (.val (.list (.int .u8))))], []⟩
noncomputable def q_slices_Equal_byte_byte_0 : SPat := ⟨[(0, .one (.val .bool))], []⟩
@[reducible] def A_slices_Equal_byte_byte (R : Type) : Type := d0 → d0 → (Bool → Option R) → Option R
@[reducible] def T_slices_Equal_byte_byte : Type 1 := {R : Type} → Nat → A_slices_Equal_byte_byte R
noncomputable def slices_Equal_byte_byte_b (slices_Equal_byte_byte_9 : T_slices_Equal_byte_byte_9) : T_slices_Equal_byte_byte := fun {R} N x0 x1 K0 =>
    if (((len x0) != (len x1)) = true) then (K0 false) else (slices_Equal_byte_byte_9 N N x0 x1 ((len x0)) 0 (fun y0 => K0 y0) (K0 true))
noncomputable def slices_Equal_byte_byte : T_slices_Equal_byte_byte := @slices_Equal_byte_byte_b @slices_Equal_byte_byte_9
noncomputable def g_slices_Equal_byte_byte (N : Nat) : TypedM p_slices_Equal_byte_byte [q_slices_Equal_byte_byte_0] := fun R x C => slices_Equal_byte_byte N x.1.1 x.1.2.1 (fun y0 => C.1 ((y0, ()), (())))
noncomputable def S_slices_Equal_byte_byte (slices_Equal_byte_byte : T_slices_Equal_byte_byte) (N : Nat) : Go.AX.Spec := specM [true, true] [] false 2 0 p_slices_Equal_byte_byte [q_slices_Equal_byte_byte_0] (fun R x C => slices_Equal_byte_byte N x.1.1 x.1.2.1 (fun y0 => C.1 ((y0, ()), (()))))
noncomputable def s_slices_Equal_byte_byte (N : Nat) : Go.AX.Spec := S_slices_Equal_byte_byte @slices_Equal_byte_byte N
noncomputable def L_slices_Equal_byte_byte (N : Nat) : List (Nat × Frag) := [(9, fragOf p_slices_Equal_byte_byte_9 (g_slices_Equal_byte_byte_9 N N))]
noncomputable def G_slices_Equal_byte_byte (N : Nat) : List (Nat × Go.AX.Spec) := []
noncomputable def p_pack_opened_18 : SPat := ⟨[(2, .one (.ptr 32)), (6, .one (.ptr 33)), (7, .one (.val (.int .i64))), (8, .one (.val (.int .i64))), (9, .one (.val .bool))], [(32, .cells 34 [(.val .str), (.slf 34), (.slf 35), (.slf 36), (.val (.int .i64)), (.val (.int .i64))]), (33, .cells 34 [(.val .str), (.slf 37), (.slf 38), (.slf 39), (.val (.int .i64)), (.val (.int .i64))]), (34, .row 73 (.pair .str (.pair .bool (.list (.int .i64))))), (35, .row 24 z2), (36, .row 75 z0), (37, .row 73 (.pair .str (.pair .bool (.list (.int .i64))))), (38, .row 24 z2), (39, .row 75 z0)]⟩
noncomputable def o_pack_opened_18_0 : SPat := ⟨[(2, .one (.ptr 32)), (3, .one (.val (.int .i64))), (4, .one (.val (.int .i64))), (5, .one (.val (.int .i64)))], [(32, .cells 34 [(.val .str), (.slf 33), (.slf 34), (.slf 35), (.val (.int .i64)), (.val (.int .i64))]), (33, .row 73 (.pair .str (.pair .bool (.list (.int .i64))))), (34, .row 24 z2), (35, .row 75 z0)]⟩
noncomputable def o_pack_opened_18 : Outs := .cons .ret o_pack_opened_18_0 (.nil)
@[reducible] def A_pack_opened_18 (R : Type) : Type := Int → Int → Bool → (List UInt8) → Int → Int → (List UInt8) → Int → Int → d5 → d4 → d1 → d5 → d4 → d1 → (Int → Int → Int → (List UInt8) → Int → Int → d5 → d4 → d1 → Option R) → Option R
@[reducible] def T_pack_opened_18 : Type 1 := {R : Type} → Nat → A_pack_opened_18 R
noncomputable def pack_opened_18_b (ocode_Check : T_ocode_Check) : T_pack_opened_18 := fun {R} N x0 x1 x2 x3 x4 x5 x6 x7 x8 x9 x10 x11 x12 x13 x14 K0 =>
    if ((!x2) = true) then (K0 0 0 3 (([] : List UInt8)) 0 0 (([] : List (List UInt8 × Bool × List Int))) (([] : List (Int × Int × Int))) (([] : List (Int × Int)))) else (ocode_Check N x6 x12 x13 x14 x7 x8 (fun y0 => if ((y0 != (0 : Int)) = true) then (K0 0 0 3 (([] : List UInt8)) 0 0 (([] : List (List UInt8 × Bool × List Int))) (([] : List (Int × Int × Int))) (([] : List (Int × Int)))) else (K0 x0 x1 0 x6 x7 x8 x12 x13 x14)))
noncomputable def pack_opened_18 : T_pack_opened_18 := @pack_opened_18_b @ocode_Check
noncomputable def H_pack_opened_18 (pack_opened_18 : T_pack_opened_18) (N : Nat) : Typed p_pack_opened_18 := fun R x K => pack_opened_18 N x.1.2.2.1 x.1.2.2.2.1 x.1.2.2.2.2.1 x.2.1.1 x.2.1.2.2.2.2.1 x.2.1.2.2.2.2.2.1 x.2.2.1.1 x.2.2.1.2.2.2.2.1 x.2.2.1.2.2.2.2.2.1 x.2.2.2.1 x.2.2.2.2.1 x.2.2.2.2.2.1 x.2.2.2.2.2.2.1 x.2.2.2.2.2.2.2.1 x.2.2.2.2.2.2.2.2.1 (fun y0 y1 y2 y3 y4 y5 y6 y7 y8 => K .ret (encS o_pack_opened_18_0 (((), y0, y1, y2, ()), ((y3, (), (), (), y4, y5, ()), y6, y7, y8, ()))))
noncomputable def g_pack_opened_18 (N : Nat) : Typed p_pack_opened_18 := H_pack_opened_18 @pack_opened_18 N
noncomputable def p_pack_opened : SPat := ⟨[(0, .one (.val (.list (.int .u8))))], []⟩
noncomputable def q_pack_opened_0 : SPat := ⟨[(0, .agg [(.val .str), (.slf 32), (.slf 33), (.slf 34), (.val (.int .i64)), (.val (.int .i64))]), (1, .one (.val (.int .i64))), (2, .one (.val (.int .i64))), (3, .one (.val (.int .i64)))], [(32, .row 73 (.pair .str (.pair .bool (.list (.int .i64))))), (33, .row 24 z2), (34, .row 75 z0)]⟩
@[reducible] def A_pack_opened (R : Type) : Type := d0 → ((List UInt8) → Int → Int → Int → Int → Int → d5 → d4 → d1 → Option R) → Option R
@[reducible] def T_pack_opened : Type 1 := {R : Type} → Nat → A_pack_opened R
noncomputable def pack_opened_b (pack_reader_num : T_pack_reader_num) (pack_Sum : T_pack_Sum) (pack_unpack : T_pack_unpack) (pack_Pack : T_pack_Pack) (slices_Equal_byte_byte : T_slices_Equal_byte_byte) (pack_opened_18 : T_pack_opened_18) : T_pack_opened := fun {R} N x0 K0 =>
    if ((decide (((len x0) < (15 : Int)))) = true) then (K0 (([] : List UInt8)) 0 0 0 0 7 (([] : List (List UInt8 × Bool × List Int))) (([] : List (Int × Int × Int))) (([] : List (Int × Int)))) else (let v0 := (wi ((len x0) - (4 : Int))); pack_reader_num N 4 x0 v0 false (fun y0 y1 y2 y3 => if (((0 : Int) ≤ v0) ∧ (v0 ≤ (len x0))) then (if (((0 : Int) ≤ (0 : Int)) ∧ ((0 : Int) ≤ v0)) then (pack_Sum N ((List.drop (0 : Nat) (List.take (Int.toNat v0) x0))) (fun y4 => if ((y0 != y4) = true) then (K0 (([] : List UInt8)) 0 0 0 0 8 (([] : List (List UInt8 × Bool × List Int))) (([] : List (Int × Int × Int))) (([] : List (Int × Int)))) else (pack_unpack N x0 (fun y5 y6 y7 y8 y9 y10 y11 y12 y13 => if (y10 = true) then (pack_Pack N y5 y11 y12 y13 y6 y7 (fun y14 y15 => if ((y14 == (0 : Int)) = true) then (slices_Equal_byte_byte N y15 x0 (fun y16 => pack_opened_18 N y8 y9 y16 (([] : List UInt8)) 0 0 y5 y6 y7 (([] : List (List UInt8 × Bool × List Int))) (([] : List (Int × Int × Int))) (([] : List (Int × Int))) y11 y12 y13 (fun y17 y18 y19 y20 y21 y22 y23 y24 y25 => K0 y20 y21 y22 y17 y18 y19 y23 y24 y25))) else (pack_opened_18 N y8 y9 false (([] : List UInt8)) 0 0 y5 y6 y7 (([] : List (List UInt8 × Bool × List Int))) (([] : List (Int × Int × Int))) (([] : List (Int × Int))) y11 y12 y13 (fun y26 y27 y28 y29 y30 y31 y32 y33 y34 => K0 y29 y30 y31 y26 y27 y28 y32 y33 y34)))) else (pack_opened_18 N y8 y9 y10 (([] : List UInt8)) 0 0 y5 y6 y7 (([] : List (List UInt8 × Bool × List Int))) (([] : List (Int × Int × Int))) (([] : List (Int × Int))) y11 y12 y13 (fun y35 y36 y37 y38 y39 y40 y41 y42 y43 => K0 y38 y39 y40 y35 y36 y37 y41 y42 y43)))))) else none) else none))
noncomputable def pack_opened : T_pack_opened := @pack_opened_b @pack_reader_num @pack_Sum @pack_unpack @pack_Pack @slices_Equal_byte_byte @pack_opened_18
noncomputable def g_pack_opened (N : Nat) : TypedM p_pack_opened [q_pack_opened_0] := fun R x C => pack_opened N x.1.1 (fun y0 y1 y2 y3 y4 y5 y6 y7 y8 => C.1 (((y0, (), (), (), y1, y2, ()), y3, y4, y5, ()), (y6, y7, y8, ())))
noncomputable def S_pack_opened (pack_opened : T_pack_opened) (N : Nat) : Go.AX.Spec := specM [true] [] false 1 0 p_pack_opened [q_pack_opened_0] (fun R x C => pack_opened N x.1.1 (fun y0 y1 y2 y3 y4 y5 y6 y7 y8 => C.1 (((y0, (), (), (), y1, y2, ()), y3, y4, y5, ()), (y6, y7, y8, ()))))
noncomputable def s_pack_opened (N : Nat) : Go.AX.Spec := S_pack_opened @pack_opened N
noncomputable def L_pack_opened (N : Nat) : List (Nat × Frag) := [(18, fragOf p_pack_opened_18 (g_pack_opened_18 N))]
noncomputable def G_pack_opened (N : Nat) : List (Nat × Go.AX.Spec) := [(36, s_pack_reader_num N), (31, s_pack_Sum N), (76, s_pack_unpack N), (16, s_pack_Pack N), (77, s_slices_Equal_byte_byte N), (67, s_ocode_Check N)]
noncomputable def p_pack_Unpack : SPat := ⟨[(0, .one (.val (.list (.int .u8))))], []⟩
noncomputable def q_pack_Unpack_0 : SPat := ⟨[(0, .agg [(.val .str), (.slf 32), (.slf 33), (.slf 34), (.val (.int .i64)), (.val (.int .i64))]), (1, .one (.val (.int .i64)))], [(32, .row 73 (.pair .str (.pair .bool (.list (.int .i64))))), (33, .row 24 z2), (34, .row 75 z0)]⟩
@[reducible] def A_pack_Unpack (R : Type) : Type := d0 → ((List UInt8) → Int → Int → Int → d5 → d4 → d1 → Option R) → Option R
@[reducible] def T_pack_Unpack : Type 1 := {R : Type} → Nat → A_pack_Unpack R
noncomputable def pack_Unpack_b (pack_opened : T_pack_opened) : T_pack_Unpack := fun {R} N x0 K0 =>
    pack_opened N x0 (fun y0 y1 y2 y3 y4 y5 y6 y7 y8 => K0 y0 y1 y2 y5 y6 y7 y8)
noncomputable def pack_Unpack : T_pack_Unpack := @pack_Unpack_b @pack_opened
noncomputable def g_pack_Unpack (N : Nat) : TypedM p_pack_Unpack [q_pack_Unpack_0] := fun R x C => pack_Unpack N x.1.1 (fun y0 y1 y2 y3 y4 y5 y6 => C.1 (((y0, (), (), (), y1, y2, ()), y3, ()), (y4, y5, y6, ())))
noncomputable def S_pack_Unpack (pack_Unpack : T_pack_Unpack) (N : Nat) : Go.AX.Spec := specM [true] [] false 1 0 p_pack_Unpack [q_pack_Unpack_0] (fun R x C => pack_Unpack N x.1.1 (fun y0 y1 y2 y3 y4 y5 y6 => C.1 (((y0, (), (), (), y1, y2, ()), y3, ()), (y4, y5, y6, ()))))
noncomputable def s_pack_Unpack (N : Nat) : Go.AX.Spec := S_pack_Unpack @pack_Unpack N
noncomputable def L_pack_Unpack (N : Nat) : List (Nat × Frag) := []
noncomputable def G_pack_Unpack (N : Nat) : List (Nat × Go.AX.Spec) := [(62, s_pack_opened N)]
noncomputable def b_ref00_EqBytes : Code := Go.Proofs.Try.f18.body.getD .skip
noncomputable def p_ref00_EqBytes_9 : SPat := ⟨[(0, .one (.val (.list (.int .u8)))), (1, .one (.val (.list (.int .u8)))), (5, .one (.val (.int .i64)))], []⟩
noncomputable def o_ref00_EqBytes_9_0 : SPat := ⟨[(4, .one (.val .bool))], []⟩
noncomputable def o_ref00_EqBytes_9_1 : SPat := ⟨[], []⟩
noncomputable def o_ref00_EqBytes_9 : Outs := .cons .ret o_ref00_EqBytes_9_0 (.cons (.exit 0) o_ref00_EqBytes_9_1 (.nil))
@[reducible] def A_ref00_EqBytes_9 (R : Type) : Type := d0 → d0 → Int → (Bool → Option R) → (Option R) → Option R
@[reducible] def B_ref00_EqBytes_9 (R : Type) : Type := d0 → d0 → Int → Option R
@[reducible] def T_ref00_EqBytes_9 : Type 1 := {R : Type} → Nat → Nat → A_ref00_EqBytes_9 R
noncomputable def ref00_EqBytes_9_b {R : Type} (N : Nat) (rc : B_ref00_EqBytes_9 R) : A_ref00_EqBytes_9 R := fun x0 x1 x2 K0 K1 =>
    if ((decide ((x2 < (len x0)))) = true) then (if (((0 : Int) ≤ x2) ∧ (x2 < (len x0))) then (if (((0 : Int) ≤ x2) ∧ (x2 < (len x1))) then (if (((List.getD x0 (Int.toNat x2) (0 : Int)) != (List.getD x1 (Int.toNat x2) (0 : Int))) = true) then (K0 false) else (rc x0 x1 ((wi (x2 + (1 : Int)))))) else none) else none) else K1
noncomputable def ref00_EqBytes_9 {R : Type} (N : Nat) : Nat → A_ref00_EqBytes_9 R
  | 0 => fun _ _ _ _ _ => none
  | k + 1 => fun x0 x1 x2 K0 K1 => ref00_EqBytes_9_b N (fun x0 x1 x2 => ref00_EqBytes_9 N k x0 x1 x2 K0 K1) x0 x1 x2 K0 K1
noncomputable def H_ref00_EqBytes_9 (ref00_EqBytes_9 : T_ref00_EqBytes_9) (N k : Nat) : Typed p_ref00_EqBytes_9 := fun R x K => ref00_EqBytes_9 N k x.1.1 x.1.2.1 x.1.2.2.1 (fun y0 => K .ret (encS o_ref00_EqBytes_9_0 ((y0, ()), (())))) (K (.exit 0) (encS o_ref00_EqBytes_9_1 ((()), (()))))
noncomputable def g_ref00_EqBytes_9 (N k : Nat) : Typed p_ref00_EqBytes_9 := H_ref00_EqBytes_9 @ref00_EqBytes_9 N k
noncomputable def p_ref00_EqBytes : SPat := ⟨[(0, .one (.val (.list (.int .u8)))), (1, .one (.val (.list (.int .u8))))], []⟩
noncomputable def q_ref00_EqBytes_0 : SPat := ⟨[(0, .one (.val .bool))], []⟩
@[reducible] def A_ref00_EqBytes (R : Type) : Type := d0 → d0 → (Bool → Option R) → Option R
@[reducible] def T_ref00_EqBytes : Type 1 := {R : Type} → Nat → A_ref00_EqBytes R
noncomputable def ref00_EqBytes_b (ref00_EqBytes_9 : T_ref00_EqBytes_9) : T_ref00_EqBytes := fun {R} N x0 x1 K0 =>
    if (((len x0) != (len x1)) = true) then (K0 false) else (ref00_EqBytes_9 N N x0 x1 0 (fun y0 => K0 y0) (K0 true))
noncomputable def ref00_EqBytes : T_ref00_EqBytes := @ref00_EqBytes_b @ref00_EqBytes_9
noncomputable def g_ref00_EqBytes (N : Nat) : TypedM p_ref00_EqBytes [q_ref00_EqBytes_0] := fun R x C => ref00_EqBytes N x.1.1 x.1.2.1 (fun y0 => C.1 ((y0, ()), (())))
noncomputable def S_ref00_EqBytes (ref00_EqBytes : T_ref00_EqBytes) (N : Nat) : Go.AX.Spec := specM [true, true] [] false 2 0 p_ref00_EqBytes [q_ref00_EqBytes_0] (fun R x C => ref00_EqBytes N x.1.1 x.1.2.1 (fun y0 => C.1 ((y0, ()), (()))))
noncomputable def s_ref00_EqBytes (N : Nat) : Go.AX.Spec := S_ref00_EqBytes @ref00_EqBytes N
noncomputable def L_ref00_EqBytes (N : Nat) : List (Nat × Frag) := [(9, fragOf p_ref00_EqBytes_9 (g_ref00_EqBytes_9 N N))]
noncomputable def G_ref00_EqBytes (N : Nat) : List (Nat × Go.AX.Spec) := []
noncomputable def p_law10_PackForth : SPat := ⟨[(0, .one (.val (.list (.int .u8))))], []⟩
noncomputable def q_law10_PackForth_0 : SPat := ⟨[(0, .one (.val .bool))], []⟩
@[reducible] def A_law10_PackForth (R : Type) : Type := d0 → (Bool → Option R) → Option R
@[reducible] def T_law10_PackForth : Type 1 := {R : Type} → Nat → A_law10_PackForth R
noncomputable def law10_PackForth_b (law10_awake : T_law10_awake) (pack_Unpack : T_pack_Unpack) (pack_Pack : T_pack_Pack) (ref00_EqBytes : T_ref00_EqBytes) : T_law10_PackForth := fun {R} N x0 K0 =>
    if ((decide (((len x0) > (200000 : Int)))) = true) then (law10_awake N (fun y0 => K0 y0)) else (pack_Unpack N x0 (fun y1 y2 y3 y4 y5 y6 y7 => if ((y4 != (0 : Int)) = true) then (if ((y4 == (7 : Int)) = true) then (law10_awake N (fun y8 => K0 y8)) else (if ((y4 == (8 : Int)) = true) then (law10_awake N (fun y9 => K0 y9)) else (if ((y4 == (3 : Int)) = true) then (law10_awake N (fun y10 => K0 y10)) else (K0 false)))) else (pack_Pack N y1 y5 y6 y7 y2 y3 (fun y11 y12 => if ((y11 == (0 : Int)) = true) then (ref00_EqBytes N y12 x0 (fun y13 => if (y13 = true) then (law10_awake N (fun y14 => K0 y14)) else (K0 false))) else (K0 false)))))
noncomputable def law10_PackForth : T_law10_PackForth := @law10_PackForth_b @law10_awake @pack_Unpack @pack_Pack @ref00_EqBytes
noncomputable def g_law10_PackForth (N : Nat) : TypedM p_law10_PackForth [q_law10_PackForth_0] := fun R x C => law10_PackForth N x.1.1 (fun y0 => C.1 ((y0, ()), (())))
noncomputable def S_law10_PackForth (law10_PackForth : T_law10_PackForth) (N : Nat) : Go.AX.Spec := specM [true] [] false 1 0 p_law10_PackForth [q_law10_PackForth_0] (fun R x C => law10_PackForth N x.1.1 (fun y0 => C.1 ((y0, ()), (()))))
noncomputable def s_law10_PackForth (N : Nat) : Go.AX.Spec := S_law10_PackForth @law10_PackForth N
noncomputable def L_law10_PackForth (N : Nat) : List (Nat × Frag) := []
noncomputable def G_law10_PackForth (N : Nat) : List (Nat × Go.AX.Spec) := [(14, s_law10_awake N), (27, s_pack_Unpack N), (16, s_pack_Pack N), (18, s_ref00_EqBytes N)]
end
end Q

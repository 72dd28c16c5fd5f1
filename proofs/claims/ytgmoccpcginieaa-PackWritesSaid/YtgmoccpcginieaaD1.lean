/- Part D1 of the proof. -/
import Derived.Test.YtgmoccpcginieaaX7
import Derived.Test.YtgmoccpcginieaaProg
import Derived.KernelRfl
open Go Go.AX Go.Proofs
namespace Q
noncomputable section
set_option maxRecDepth 100000
set_option linter.unusedVariables false
@[reducible] def z0 : Ty := .pair (.int .i64) (.int .i64)
@[reducible] def z1 : Ty := .list z0
@[reducible] def z2 : Ty := .list (.pair .str (.pair .bool (.list (.int .i64))))
@[reducible] def z3 : Ty := .list (.pair (.int .i64) z0)
@[reducible] def d0 : Type := List (Int)
@[reducible] def d1 : Type := List ((Int × Int))
@[reducible] def d2 : Type := List ((Int) × (Int))
@[reducible] def d3 : Type := List ((Int × (Int × Int)))
@[reducible] def d4 : Type := List ((List UInt8 × (Bool × d0)))
noncomputable def Cip : List Nat := [22, 5, 4, 3, 0, 34, 9, 30, 73, 41, 31, 24, 32, 75, 76, 85, 111, 25, 124, 112, 77, 66, 68, 63, 82, 132, 133, 136, 83, 144, 145, 147, 153, 155, 149, 93, 64, 57, 59, 26, 36]
noncomputable def tt : TT := [(22, (.mk (.slice 5) 1 24 (.some [(.a .nilsl)]) false)), (5, (.mk (.int .u8) 1 1 (.some [(.a (.val (.int .u8) ((0 : Int) : Int)))]) false)), (4, (.mk .bool 1 1 (.some [(.a (.val .bool (false : Bool)))]) false)), (3, (.mk (.int .i64) 1 8 (.some [(.a (.val (.int .i64) ((0 : Int) : Int)))]) false)), (0, (.mk .other 1 0 (.some [(.a .undef)]) false)), (34, (.mk (.struct [(0, (1, 9)), (1, (1, 30)), (2, (1, 31)), (3, (1, 32)), (4, (1, 3)), (5, (1, 3))]) 6 104 (.some [(.a (.val .str (([] : List UInt8) : List UInt8))), (.a .nilsl), (.a .nilsl), (.a .nilsl), (.a (.val (.int .i64) ((0 : Int) : Int))), (.a (.val (.int .i64) ((0 : Int) : Int)))]) true)), (9, (.mk .str 1 16 (.some [(.a (.val .str (([] : List UInt8) : List UInt8)))]) false)), (30, (.mk (.slice 73) 1 24 (.some [(.a .nilsl)]) false)), (73, (.mk (.struct [(0, (1, 9)), (1, (1, 4)), (2, (1, 41))]) 3 48 (.some [(.a (.val .str (([] : List UInt8) : List UInt8))), (.a (.val .bool (false : Bool))), (.a .nilsl)]) true)), (41, (.mk (.slice 3) 1 24 (.some [(.a .nilsl)]) false)), (31, (.mk (.slice 24) 1 24 (.some [(.a .nilsl)]) false)), (24, (.mk (.struct [(0, (1, 3)), (1, (1, 3)), (2, (1, 3))]) 3 24 (.some [(.a (.val (.int .i64) ((0 : Int) : Int))), (.a (.val (.int .i64) ((0 : Int) : Int))), (.a (.val (.int .i64) ((0 : Int) : Int)))]) true)), (32, (.mk (.slice 75) 1 24 (.some [(.a .nilsl)]) false)), (75, (.mk (.struct [(0, (1, 3)), (1, (1, 3))]) 2 16 (.some [(.a (.val (.int .i64) ((0 : Int) : Int))), (.a (.val (.int .i64) ((0 : Int) : Int)))]) true)), (76, (.mk (.ptr 85) 1 8 (.some [(.a .nilptr)]) false)), (85, (.mk (.struct [(0, (1, 41)), (1, (1, 41)), (2, (1, 41))]) 3 72 (.some [(.a .nilsl), (.a .nilsl), (.a .nilsl)]) true)), (111, (.mk (.struct [(0, (1, 41)), (1, (1, 41))]) 2 48 (.some [(.a .nilsl), (.a .nilsl)]) true)), (25, (.mk (.int .i64) 1 8 (.some [(.a (.val (.int .i64) ((0 : Int) : Int)))]) false)), (124, (.mk .other 1 0 (.some [(.a .undef)]) false)), (112, (.mk .other 1 0 (.some [(.a .undef)]) false)), (77, (.mk .other 1 0 (.some [(.a .undef)]) false)), (66, (.mk (.ptr 68) 1 8 (.some [(.a .nilptr)]) false)), (68, (.mk (.struct [(0, (1, 22))]) 1 24 (.some [(.a .nilsl)]) true)), (63, (.mk (.struct [(0, (1, 41)), (1, (1, 41)), (2, (1, 3))]) 3 56 (.some [(.a .nilsl), (.a .nilsl), (.a (.val (.int .i64) ((0 : Int) : Int)))]) true)), (82, (.mk (.map 3 3) 1 8 (.some [(.a .nilmap)]) false)), (132, (.mk (.struct [(0, (1, 9)), (1, (1, 3)), (2, (1, 3)), (3, (1, 3))]) 4 40 (.some [(.a (.val .str (([] : List UInt8) : List UInt8))), (.a (.val (.int .i64) ((0 : Int) : Int))), (.a (.val (.int .i64) ((0 : Int) : Int))), (.a (.val (.int .i64) ((0 : Int) : Int)))]) true)), (133, (.mk (.arr 31 132) 124 1240 (.some [(.a (.val .str (([] : List UInt8) : List UInt8))), (.a (.val (.int .i64) ((0 : Int) : Int))), (.a (.val (.int .i64) ((0 : Int) : Int))), (.a (.val (.int .i64) ((0 : Int) : Int))), (.a (.val .str (([] : List UInt8) : List UInt8))), (.a (.val (.int .i64) ((0 : Int) : Int))), (.a (.val (.int .i64) ((0 : Int) : Int))), (.a (.val (.int .i64) ((0 : Int) : Int))), (.a (.val .str (([] : List UInt8) : List UInt8))), (.a (.val (.int .i64) ((0 : Int) : Int))), (.a (.val (.int .i64) ((0 : Int) : Int))), (.a (.val (.int .i64) ((0 : Int) : Int))), (.a (.val .str (([] : List UInt8) : List UInt8))), (.a (.val (.int .i64) ((0 : Int) : Int))), (.a (.val (.int .i64) ((0 : Int) : Int))), (.a (.val (.int .i64) ((0 : Int) : Int))), (.a (.val .str (([] : List UInt8) : List UInt8))), (.a (.val (.int .i64) ((0 : Int) : Int))), (.a (.val (.int .i64) ((0 : Int) : Int))), (.a (.val (.int .i64) ((0 : Int) : Int))), (.a (.val .str (([] : List UInt8) : List UInt8))), (.a (.val (.int .i64) ((0 : Int) : Int))), (.a (.val (.int .i64) ((0 : Int) : Int))), (.a (.val (.int .i64) ((0 : Int) : Int))), (.a (.val .str (([] : List UInt8) : List UInt8))), (.a (.val (.int .i64) ((0 : Int) : Int))), (.a (.val (.int .i64) ((0 : Int) : Int))), (.a (.val (.int .i64) ((0 : Int) : Int))), (.a (.val .str (([] : List UInt8) : List UInt8))), (.a (.val (.int .i64) ((0 : Int) : Int))), (.a (.val (.int .i64) ((0 : Int) : Int))), (.a (.val (.int .i64) ((0 : Int) : Int))), (.a (.val .str (([] : List UInt8) : List UInt8))), (.a (.val (.int .i64) ((0 : Int) : Int))), (.a (.val (.int .i64) ((0 : Int) : Int))), (.a (.val (.int .i64) ((0 : Int) : Int))), (.a (.val .str (([] : List UInt8) : List UInt8))), (.a (.val (.int .i64) ((0 : Int) : Int))), (.a (.val (.int .i64) ((0 : Int) : Int))), (.a (.val (.int .i64) ((0 : Int) : Int))), (.a (.val .str (([] : List UInt8) : List UInt8))), (.a (.val (.int .i64) ((0 : Int) : Int))), (.a (.val (.int .i64) ((0 : Int) : Int))), (.a (.val (.int .i64) ((0 : Int) : Int))), (.a (.val .str (([] : List UInt8) : List UInt8))), (.a (.val (.int .i64) ((0 : Int) : Int))), (.a (.val (.int .i64) ((0 : Int) : Int))), (.a (.val (.int .i64) ((0 : Int) : Int))), (.a (.val .str (([] : List UInt8) : List UInt8))), (.a (.val (.int .i64) ((0 : Int) : Int))), (.a (.val (.int .i64) ((0 : Int) : Int))), (.a (.val (.int .i64) ((0 : Int) : Int))), (.a (.val .str (([] : List UInt8) : List UInt8))), (.a (.val (.int .i64) ((0 : Int) : Int))), (.a (.val (.int .i64) ((0 : Int) : Int))), (.a (.val (.int .i64) ((0 : Int) : Int))), (.a (.val .str (([] : List UInt8) : List UInt8))), (.a (.val (.int .i64) ((0 : Int) : Int))), (.a (.val (.int .i64) ((0 : Int) : Int))), (.a (.val (.int .i64) ((0 : Int) : Int))), (.a (.val .str (([] : List UInt8) : List UInt8))), (.a (.val (.int .i64) ((0 : Int) : Int))), (.a (.val (.int .i64) ((0 : Int) : Int))), (.a (.val (.int .i64) ((0 : Int) : Int))), (.a (.val .str (([] : List UInt8) : List UInt8))), (.a (.val (.int .i64) ((0 : Int) : Int))), (.a (.val (.int .i64) ((0 : Int) : Int))), (.a (.val (.int .i64) ((0 : Int) : Int))), (.a (.val .str (([] : List UInt8) : List UInt8))), (.a (.val (.int .i64) ((0 : Int) : Int))), (.a (.val (.int .i64) ((0 : Int) : Int))), (.a (.val (.int .i64) ((0 : Int) : Int))), (.a (.val .str (([] : List UInt8) : List UInt8))), (.a (.val (.int .i64) ((0 : Int) : Int))), (.a (.val (.int .i64) ((0 : Int) : Int))), (.a (.val (.int .i64) ((0 : Int) : Int))), (.a (.val .str (([] : List UInt8) : List UInt8))), (.a (.val (.int .i64) ((0 : Int) : Int))), (.a (.val (.int .i64) ((0 : Int) : Int))), (.a (.val (.int .i64) ((0 : Int) : Int))), (.a (.val .str (([] : List UInt8) : List UInt8))), (.a (.val (.int .i64) ((0 : Int) : Int))), (.a (.val (.int .i64) ((0 : Int) : Int))), (.a (.val (.int .i64) ((0 : Int) : Int))), (.a (.val .str (([] : List UInt8) : List UInt8))), (.a (.val (.int .i64) ((0 : Int) : Int))), (.a (.val (.int .i64) ((0 : Int) : Int))), (.a (.val (.int .i64) ((0 : Int) : Int))), (.a (.val .str (([] : List UInt8) : List UInt8))), (.a (.val (.int .i64) ((0 : Int) : Int))), (.a (.val (.int .i64) ((0 : Int) : Int))), (.a (.val (.int .i64) ((0 : Int) : Int))), (.a (.val .str (([] : List UInt8) : List UInt8))), (.a (.val (.int .i64) ((0 : Int) : Int))), (.a (.val (.int .i64) ((0 : Int) : Int))), (.a (.val (.int .i64) ((0 : Int) : Int))), (.a (.val .str (([] : List UInt8) : List UInt8))), (.a (.val (.int .i64) ((0 : Int) : Int))), (.a (.val (.int .i64) ((0 : Int) : Int))), (.a (.val (.int .i64) ((0 : Int) : Int))), (.a (.val .str (([] : List UInt8) : List UInt8))), (.a (.val (.int .i64) ((0 : Int) : Int))), (.a (.val (.int .i64) ((0 : Int) : Int))), (.a (.val (.int .i64) ((0 : Int) : Int))), (.a (.val .str (([] : List UInt8) : List UInt8))), (.a (.val (.int .i64) ((0 : Int) : Int))), (.a (.val (.int .i64) ((0 : Int) : Int))), (.a (.val (.int .i64) ((0 : Int) : Int))), (.a (.val .str (([] : List UInt8) : List UInt8))), (.a (.val (.int .i64) ((0 : Int) : Int))), (.a (.val (.int .i64) ((0 : Int) : Int))), (.a (.val (.int .i64) ((0 : Int) : Int))), (.a (.val .str (([] : List UInt8) : List UInt8))), (.a (.val (.int .i64) ((0 : Int) : Int))), (.a (.val (.int .i64) ((0 : Int) : Int))), (.a (.val (.int .i64) ((0 : Int) : Int))), (.a (.val .str (([] : List UInt8) : List UInt8))), (.a (.val (.int .i64) ((0 : Int) : Int))), (.a (.val (.int .i64) ((0 : Int) : Int))), (.a (.val (.int .i64) ((0 : Int) : Int))), (.a (.val .str (([] : List UInt8) : List UInt8))), (.a (.val (.int .i64) ((0 : Int) : Int))), (.a (.val (.int .i64) ((0 : Int) : Int))), (.a (.val (.int .i64) ((0 : Int) : Int)))]) false)), (136, (.mk .other 1 0 (.some [(.a .undef)]) false)), (83, (.mk .func 1 8 (.some [(.a .nilfn)]) false)), (144, (.mk (.map 3 4) 1 8 (.some [(.a .nilmap)]) false)), (145, (.mk (.ptr 147) 1 8 (.some [(.a .nilptr)]) false)), (147, (.mk (.struct [(0, (1, 145)), (1, (1, 22))]) 2 32 (.some [(.a .nilptr), (.a .nilsl)]) true)), (153, (.mk (.ptr 5) 1 8 (.some [(.a .nilptr)]) false)), (155, (.mk .other 1 8 (.some [(.a .nilptr)]) false)), (149, (.mk .iface 1 16 (.some [(.a .nilif)]) false)), (93, (.mk .other 1 0 (.some [(.a .undef)]) false)), (64, (.mk .other 1 0 (.some [(.a .undef)]) false)), (57, (.mk (.ptr 59) 1 8 (.some [(.a .nilptr)]) false)), (59, (.mk (.struct [(0, (1, 22)), (1, (1, 3)), (2, (1, 4))]) 3 40 (.some [(.a .nilsl), (.a (.val (.int .i64) ((0 : Int) : Int))), (.a (.val .bool (false : Bool)))]) true)), (26, (.mk .other 1 0 (.some [(.a .undef)]) false)), (36, (.mk .other 1 0 (.some [(.a .undef)]) false))]
noncomputable def A80 : Code := Go.Proofs.Try.f4.body.getD .skip
noncomputable def Bl4 : Code := Go.Proofs.Try.f15.body.getD .skip
noncomputable def Ak3 : Code := Go.Proofs.Try.f44.body.getD .skip
noncomputable def Ag9 : Aac := ⟨[(1, .one (.val (.int .i64))), (2, .one (.ptr 32)), (5, .one (.val (.int .i64))), (6, .one (.val (.int .i64)))], [(32, .cells 34 [(.val .str), (.val z2), (.val z3), (.val z1), (.val (.int .i64)), (.val (.int .i64))])]⟩
noncomputable def Aoh : Aac := ⟨[(1, .one (.val (.int .i64))), (2, .one (.ptr 32)), (5, .one (.val (.int .i64)))], [(32, .cells 34 [(.val .str), (.val z2), (.val z3), (.val z1), (.val (.int .i64)), (.val (.int .i64))])]⟩
noncomputable def A6p : Acj := .cons (.exit 0) Aoh (.nil)
@[reducible] def Awr (R : Type) : Type := Int → Int → Int → (List UInt8) → d4 → d3 → d1 → Int → Int → (Int → Int → (List UInt8) → d4 → d3 → d1 → Int → Int → Option R) → Option R
@[reducible] def A6q (R : Type) : Type := Int → Int → Int → (List UInt8) → d4 → d3 → d1 → Int → Int → Option R
@[reducible] def Aql : Type 1 := {R : Type} → Nat → Nat → Awr R
noncomputable def Aws {R : Type} (N : Nat) (rc : A6q R) : Awr R := fun x0 x1 x2 x3 x4 x5 x6 x7 x8 K0 =>
    if ((decide ((x2 < (len x4)))) = true) then (if ((decide ((x1 ≤ (2000 : Int)))) = true) then (if (((0 : Int) ≤ x2) ∧ (x2 < (len x4))) then (if (((0 : Int) ≤ x2) ∧ (x2 < (len x4))) then (rc x0 ((wi ((wi ((wi (x1 + (1 : Int))) + (((List.length (List.getD x4 (Int.toNat x2) (([] : List UInt8), (false, ([] : List Int)))).1) : Nat) : Int))) + (((List.length (List.getD x4 (Int.toNat x2) (([] : List UInt8), (false, ([] : List Int)))).2.2) : Nat) : Int)))) ((wi (x2 + (1 : Int)))) x3 x4 x5 x6 x7 x8) else none) else none) else (K0 x0 x1 x3 x4 x5 x6 x7 x8)) else (K0 x0 x1 x3 x4 x5 x6 x7 x8)
noncomputable def Adp {R : Type} (N : Nat) : Nat → Awr R
  | 0 => fun _ _ _ _ _ _ _ _ _ _ => none
  | k + 1 => fun x0 x1 x2 x3 x4 x5 x6 x7 x8 K0 => Aws N (fun x0 x1 x2 x3 x4 x5 x6 x7 x8 => Adp N k x0 x1 x2 x3 x4 x5 x6 x7 x8 K0) x0 x1 x2 x3 x4 x5 x6 x7 x8 K0
noncomputable def Awt (Adp : Aql) (N k : Nat) : Aap Ag9 := fun R x K => Adp N k x.1.1 x.1.2.2.1 x.1.2.2.2.1 x.2.1.1 x.2.1.2.1 x.2.1.2.2.1 x.2.1.2.2.2.1 x.2.1.2.2.2.2.1 x.2.1.2.2.2.2.2.1 (fun y0 y1 y2 y3 y4 y5 y6 y7 => K (.exit 0) (Aab Aoh ((y0, (), y1, ()), ((y2, y3, y4, y5, y6, y7, ()), ()))))
noncomputable def Awu (N k : Nat) : Aap Ag9 := Awt @Adp N k
noncomputable def A0r : Aac := ⟨[(0, .agg [(.val .str), (.val z2), (.val z3), (.val z1), (.val (.int .i64)), (.val (.int .i64))]), (1, .one (.val (.int .i64)))], []⟩
noncomputable def Aqm : Aac := ⟨[(0, .one (.val .bool))], []⟩
@[reducible] def Brb (R : Type) : Type := (List UInt8) → d4 → d3 → d1 → Int → Int → Int → (Bool → Option R) → Option R
@[reducible] def Ao5 : Type 1 := {R : Type} → Nat → Brb R
noncomputable def A0s (Adp : Aql) : Ao5 := fun {R} N x0 x1 x2 x3 x4 x5 x6 K0 =>
    Adp N N x6 ((len x0)) 0 x0 x1 x2 x3 x4 x5 (fun y0 y1 y2 y3 y4 y5 y6 y7 => if ((decide (((len y4) > y0))) = true) then (K0 true) else (if ((decide (((len y5) > (400 : Int)))) = true) then (K0 true) else (K0 ((decide ((y1 > (2000 : Int))))))))
noncomputable def Af4 : Ao5 := @A0s @Adp
noncomputable def Cdg (N : Nat) : Abl A0r [Aqm] := fun R x C => Af4 N x.1.1.1 x.1.1.2.1 x.1.1.2.2.1 x.1.1.2.2.2.1 x.1.1.2.2.2.2.1 x.1.1.2.2.2.2.2.1 x.1.2.1 (fun y0 => C.1 ((y0, ()), (())))
noncomputable def Bcd (Af4 : Ao5) (N : Nat) : Go.AX.Aai := Ack [true, true] [] false 2 0 A0r [Aqm] (fun R x C => Af4 N x.1.1.1 x.1.1.2.1 x.1.1.2.2.1 x.1.1.2.2.2.1 x.1.1.2.2.2.2.1 x.1.1.2.2.2.2.2.1 x.1.2.1 (fun y0 => C.1 ((y0, ()), (()))))
noncomputable def Bce (N : Nat) : Go.AX.Aai := Bcd @Af4 N
noncomputable def Cdh (N : Nat) : List (Nat × Acn) := [(7, Aaa Ag9 (Awu N N))]
noncomputable def Brc (N : Nat) : List (Nat × Go.AX.Aai) := []
noncomputable def A97 : Aac := ⟨[(0, .agg [(.val .str), (.val z2), (.val z3), (.val z1), (.val (.int .i64)), (.val (.int .i64))])], []⟩
noncomputable def Aw3 : Aac := ⟨[(0, .one (.val .bool))], []⟩
@[reducible] def B21 (R : Type) : Type := (List UInt8) → d4 → d3 → d1 → Int → Int → (Bool → Option R) → Option R
@[reducible] def Av1 : Type 1 := {R : Type} → Nat → B21 R
noncomputable def A98 (Af4 : Ao5) : Av1 := fun {R} N x0 x1 x2 x3 x4 x5 K0 =>
    Af4 N x0 x1 x2 x3 x4 x5 40100 (fun y0 => K0 y0)
noncomputable def Ai5 : Av1 := @A98 @Af4
noncomputable def Cf5 (N : Nat) : Abl A97 [Aw3] := fun R x C => Ai5 N x.1.1.1 x.1.1.2.1 x.1.1.2.2.1 x.1.1.2.2.2.1 x.1.1.2.2.2.2.1 x.1.1.2.2.2.2.2.1 (fun y0 => C.1 ((y0, ()), (())))
noncomputable def Bl5 (Ai5 : Av1) (N : Nat) : Go.AX.Aai := Ack [true] [] false 1 0 A97 [Aw3] (fun R x C => Ai5 N x.1.1.1 x.1.1.2.1 x.1.1.2.2.1 x.1.1.2.2.2.1 x.1.1.2.2.2.2.1 x.1.1.2.2.2.2.2.1 (fun y0 => C.1 ((y0, ()), (()))))
noncomputable def Bl6 (N : Nat) : Go.AX.Aai := Bl5 @Ai5 N
noncomputable def Cf6 (N : Nat) : List (Nat × Acn) := []
noncomputable def B22 (N : Nat) : List (Nat × Go.AX.Aai) := [(44, Bce N)]
noncomputable def Bl7 : Code := Go.Proofs.Try.f14.body.getD .skip
noncomputable def A81 : Code := Go.Proofs.Try.f12.body.getD .skip
noncomputable def A4a : Code := Go.Proofs.Try.f35.body.getD .skip
noncomputable def Ak4 : Code := Go.Proofs.Try.f36.body.getD .skip
noncomputable def Agq : Aac := ⟨[(0, .one (.ptr 0)), (5, .one (.val (.int .i64))), (27, .one (.val (.int .i64))), (28, .one (.val (.int .i64)))], [(0, .cells 59 [(.val (.list (.int .u8))), (.val (.int .i64)), (.val .bool)])]⟩
noncomputable def Anz : Aac := ⟨[(5, .one (.val (.int .i64)))], [(0, .cells 59 [(.val (.list (.int .u8))), (.val (.int .i64)), (.val .bool)])]⟩
noncomputable def A4b : Acj := .cons (.exit 0) Anz (.nil)
@[reducible] def Auk (R : Type) : Type := Int → Int → Int → d0 → Int → Bool → (Int → d0 → Int → Bool → Option R) → Option R
@[reducible] def A4c (R : Type) : Type := Int → Int → Int → d0 → Int → Bool → Option R
@[reducible] def Ao9 : Type 1 := {R : Type} → Nat → Nat → Auk R
noncomputable def A4d {R : Type} (N : Nat) (rc : A4c R) : Auk R := fun x0 x1 x2 x3 x4 x5 K0 =>
    if ((decide ((x2 < x1))) = true) then (if (((0 : Int) ≤ x4) ∧ (x4 < (len x3))) then (rc ((orI .i64 (Btj .i64 x0 (8 : Int)) (wi (List.getD x3 (Int.toNat x4) (0 : Int))))) x1 ((wi (x2 + (1 : Int)))) x3 ((wi (x4 + (1 : Int)))) x5) else none) else (K0 x0 x3 x4 x5)
noncomputable def Ady {R : Type} (N : Nat) : Nat → Auk R
  | 0 => fun _ _ _ _ _ _ _ => none
  | k + 1 => fun x0 x1 x2 x3 x4 x5 K0 => A4d N (fun x0 x1 x2 x3 x4 x5 => Ady N k x0 x1 x2 x3 x4 x5 K0) x0 x1 x2 x3 x4 x5 K0
noncomputable def Aul (Ady : Ao9) (N k : Nat) : Aap Agq := fun R x K => Ady N k x.1.2.1 x.1.2.2.1 x.1.2.2.2.1 x.2.1.1 x.2.1.2.1 x.2.1.2.2.1 (fun y0 y1 y2 y3 => K (.exit 0) (Aab Anz ((y0, ()), ((y1, y2, y3, ()), ()))))
noncomputable def Aum (N k : Nat) : Aap Agq := Aul @Ady N k
noncomputable def A0t : Aac := ⟨[(0, .one (.ptr 0)), (1, .one (.val (.int .i64)))], [(0, .cells 59 [(.val (.list (.int .u8))), (.val (.int .i64)), (.val .bool)])]⟩
noncomputable def Aqn : Aac := ⟨[(0, .one (.val (.int .i64)))], [(0, .cells 59 [(.val (.list (.int .u8))), (.val (.int .i64)), (.val .bool)])]⟩
@[reducible] def Brd (R : Type) : Type := Int → d0 → Int → Bool → (Int → d0 → Int → Bool → Option R) → Option R
@[reducible] def Aji : Type 1 := {R : Type} → Nat → Brd R
noncomputable def Bcf (Ady : Ao9) : Aji := fun {R} N x0 x1 x2 x3 K0 =>
    if (x3 = true) then (K0 0 x1 x2 true) else (if ((decide (((wi (x2 + x0)) > (len x1)))) = true) then (K0 0 x1 x2 true) else (Ady N N 0 x0 0 x1 x2 x3 (fun y0 y1 y2 y3 => K0 y0 y1 y2 y3)))
noncomputable def Ac6 : Aji := @Bcf @Ady
noncomputable def Cdi (N : Nat) : Abl A0t [Aqn] := fun R x C => Ac6 N x.1.2.1 x.2.1.1 x.2.1.2.1 x.2.1.2.2.1 (fun y0 y1 y2 y3 => C.1 ((y0, ()), ((y1, y2, y3, ()), ())))
noncomputable def As1 (Ac6 : Aji) (N : Nat) : Go.AX.Aai := Ack [false, true] (List.replicate 32 true) true 2 1 A0t [Aqn] (fun R x C => Ac6 N x.1.2.1 x.2.1.1 x.2.1.2.1 x.2.1.2.2.1 (fun y0 y1 y2 y3 => C.1 ((y0, ()), ((y1, y2, y3, ()), ()))))
noncomputable def A0u (N : Nat) : Go.AX.Aai := As1 @Ac6 N
noncomputable def Cdj (N : Nat) : List (Nat × Acn) := [(13, Aaa Agq (Aum N N))]
noncomputable def Bre (N : Nat) : List (Nat × Go.AX.Aai) := []
noncomputable def Aun : Aac := ⟨[(0, .one (.ptr 0)), (1, .one (.val (.int .i64)))], [(0, .cells 59 [(.val (.list (.int .u8))), (.val (.int .i64)), (.val .bool)])]⟩
noncomputable def An0 : Aac := ⟨[(0, .one (.val (.int .i64)))], [(0, .cells 59 [(.val (.list (.int .u8))), (.val (.int .i64)), (.val .bool)])]⟩
@[reducible] def Blf (R : Type) : Type := Int → d0 → Int → Bool → (Int → d0 → Int → Bool → Option R) → Option R
@[reducible] def Akp : Type 1 := {R : Type} → Nat → Blf R
noncomputable def A4e (Ac6 : Aji) : Akp := fun {R} N x0 x1 x2 x3 K0 =>
    Ac6 N x0 x1 x2 x3 (fun y0 y1 y2 y3 => if ((decide ((x0 > (0 : Int)))) = true) then (let v0 := (wi ((8 : Int) * x0)); let v1 := (wi (v0 - (1 : Int))); if (v1 < (0 : Int)) then none else (if ((decide ((y0 ≥ (Btj .i64 (1 : Int) v1)))) = true) then (if (v0 < (0 : Int)) then none else (K0 ((wi (y0 - (Btj .i64 (1 : Int) v0)))) y1 y2 y3)) else (K0 y0 y1 y2 y3))) else (K0 y0 y1 y2 y3))
noncomputable def Adz : Akp := @A4e @Ac6
noncomputable def Cah (N : Nat) : Abl Aun [An0] := fun R x C => Adz N x.1.2.1 x.2.1.1 x.2.1.2.1 x.2.1.2.2.1 (fun y0 y1 y2 y3 => C.1 ((y0, ()), ((y1, y2, y3, ()), ())))
noncomputable def Auo (Adz : Akp) (N : Nat) : Go.AX.Aai := Ack [false, true] (List.replicate 32 true) true 2 1 Aun [An0] (fun R x C => Adz N x.1.2.1 x.2.1.1 x.2.1.2.1 x.2.1.2.2.1 (fun y0 y1 y2 y3 => C.1 ((y0, ()), ((y1, y2, y3, ()), ()))))
noncomputable def A4f (N : Nat) : Go.AX.Aai := Auo @Adz N
noncomputable def Cai (N : Nat) : List (Nat × Acn) := []
noncomputable def Blg (N : Nat) : List (Nat × Go.AX.Aai) := [(36, A0u N)]
noncomputable def Bot : Code := Go.Proofs.Try.f38.body.getD .skip
noncomputable def Bdt : Aac := ⟨[(0, .one (.val (.int .i64)))], []⟩
noncomputable def Az3 : Aac := ⟨[(0, .one (.val (.int .i64)))], []⟩
@[reducible] def B6n (R : Type) : Type := Int → (Int → Option R) → Option R
@[reducible] def Aj1 : Type 1 := {R : Type} → Nat → B6n R
noncomputable def Acf : Aj1 := fun {R} N x0 K0 =>
    if ((x0 == (0 : Int)) = true) then (K0 0) else (if ((decide ((x0 ≥ (-128 : Int)))) = true) then (if ((decide ((x0 ≤ (127 : Int)))) = true) then (K0 1) else (if ((decide ((x0 ≥ (-32768 : Int)))) = true) then (if ((decide ((x0 ≤ (32767 : Int)))) = true) then (K0 2) else (K0 3)) else (K0 3))) else (if ((decide ((x0 ≥ (-32768 : Int)))) = true) then (if ((decide ((x0 ≤ (32767 : Int)))) = true) then (K0 2) else (K0 3)) else (K0 3)))
noncomputable def B6o (N : Nat) : Abl Bdt [Az3] := fun R x C => Acf N x.1.1 (fun y0 => C.1 ((y0, ()), (())))
noncomputable def Apy (Acf : Aj1) (N : Nat) : Go.AX.Aai := Ack [true] [] false 1 0 Bdt [Az3] (fun R x C => Acf N x.1.1 (fun y0 => C.1 ((y0, ()), (()))))
noncomputable def Bdu (N : Nat) : Go.AX.Aai := Apy @Acf N
noncomputable def B6p (N : Nat) : List (Nat × Acn) := []
noncomputable def Bou (N : Nat) : List (Nat × Go.AX.Aai) := []
noncomputable def Apz : Aac := ⟨[(1, .one (.val (.int .i64))), (4, .one (.ptr 32)), (7, .one (.ptr 33)), (8, .one (.val (.int .i64))), (9, .one (.ptr 34))], [(32, .cells 24 [(.val (.int .i64)), (.val (.int .i64)), (.val (.int .i64))]), (33, .cells 24 [(.val (.int .i64)), (.val (.int .i64)), (.val (.int .i64))]), (34, .cells 59 [(.val (.list (.int .u8))), (.val (.int .i64)), (.val .bool)])]⟩
noncomputable def A61 : Aac := ⟨[(4, .one (.ptr 32)), (5, .one (.val (.int .i64))), (6, .one (.val (.int .i64)))], [(32, .cells 24 [(.val (.int .i64)), (.val (.int .i64)), (.val (.int .i64))])]⟩
noncomputable def Bov : Acj := .cons .ret A61 (.nil)
@[reducible] def B6q (R : Type) : Type := Int → Int → Int → Int → Int → Int → Int → Int → d0 → Int → Bool → (Int → Int → Int → Int → Int → Option R) → Option R
@[reducible] def Atu : Type 1 := {R : Type} → Nat → B6q R
noncomputable def Bow (Acf : Aj1) : Atu := fun {R} N x0 x1 x2 x3 x4 x5 x6 x7 x8 x9 x10 K0 =>
    if (x10 = true) then (K0 0 7 0 0 0) else (Acf N x6 (fun y0 => if ((y0 != x1) = true) then (K0 0 3 0 0 0) else (K0 ((wi (x9 - x0))) 0 x5 x6 x7)))
noncomputable def Ajp : Atu := @Bow @Acf
noncomputable def Bdv (Ajp : Atu) (N : Nat) : Aap Apz := fun R x K => Ajp N x.1.1 x.1.2.2.2.1 x.2.1.1 x.2.1.2.1 x.2.1.2.2.1 x.2.2.1.1 x.2.2.1.2.1 x.2.2.1.2.2.1 x.2.2.2.1.1 x.2.2.2.1.2.1 x.2.2.2.1.2.2.1 (fun y0 y1 y2 y3 y4 => K .ret (Aab A61 (((), y0, y1, ()), ((y2, y3, y4, ()), ()))))
noncomputable def Box (N : Nat) : Aap Apz := Bdv @Ajp N
noncomputable def Boy : Code := Go.Proofs.Try.f37.body.getD .skip
noncomputable def Bdw : Aac := ⟨[(0, .one (.val (.int .i64)))], []⟩
noncomputable def Az4 : Aac := ⟨[(0, .one (.val (.int .i64)))], []⟩
@[reducible] def B6r (R : Type) : Type := Int → (Int → Option R) → Option R
@[reducible] def Aho : Type 1 := {R : Type} → Nat → B6r R
noncomputable def Abg : Aho := fun {R} N x0 K0 =>
    if ((x0 == (24 : Int)) = true) then (K0 1) else (if ((x0 == (29 : Int)) = true) then (K0 2) else (if ((x0 == (30 : Int)) = true) then (K0 4) else (K0 0)))
noncomputable def B6s (N : Nat) : Abl Bdw [Az4] := fun R x C => Abg N x.1.1 (fun y0 => C.1 ((y0, ()), (())))
noncomputable def Amb (Abg : Aho) (N : Nat) : Go.AX.Aai := Ack [true] [] false 1 0 Bdw [Az4] (fun R x C => Abg N x.1.1 (fun y0 => C.1 ((y0, ()), (()))))
noncomputable def Ayf (N : Nat) : Go.AX.Aai := Amb @Abg N
noncomputable def B6t (N : Nat) : List (Nat × Acn) := []
noncomputable def Boz (N : Nat) : List (Nat × Go.AX.Aai) := []
noncomputable def Bo0 : Aac := ⟨[(0, .one (.val (.list (.int .u8)))), (1, .one (.val (.int .i64)))], []⟩
noncomputable def A8p : Aac := ⟨[(0, .agg [(.val (.int .i64)), (.val (.int .i64)), (.val (.int .i64))]), (1, .one (.val (.int .i64))), (2, .one (.val (.int .i64)))], []⟩
@[reducible] def Cb5 (R : Type) : Type := d0 → Int → (Int → Int → Int → Int → Int → Option R) → Option R
@[reducible] def A82 : Type 1 := {R : Type} → Nat → Cb5 R
noncomputable def B2k (Adz : Akp) (Ajp : Atu) (Abg : Aho) (Ac6 : Aji) : A82 := fun {R} N x0 x1 K0 =>
    if ((decide ((x1 < (0 : Int)))) = true) then (K0 0 0 0 0 1) else (if ((decide ((x1 ≥ (len x0)))) = true) then (K0 0 0 0 0 1) else (if (((0 : Int) ≤ x1) ∧ (x1 < (len x0))) then (let v0 := (List.getD x0 (Int.toNat x1) (0 : Int)); let v1 := (Bn7 .u8 v0 (31 : Int)); if (((0 : Int) ≤ x1) ∧ (x1 < (len x0))) then (let v2 := (Ax7 .u8 v0 (5 : Int)); if ((decide (((wi v1) < (1 : Int)))) = true) then (K0 0 0 0 0 3) else (if ((decide (((wi v1) > (30 : Int)))) = true) then (K0 0 0 0 0 3) else (if (((wi v1) == (19 : Int)) = true) then (K0 0 0 0 0 3) else (if ((decide (((wi v2) > (3 : Int)))) = true) then (K0 0 0 0 0 3) else (if (((0 : Int) ≤ (wi v2)) ∧ ((wi v2) < (4 : Int))) then (Adz N ((List.getD [(0 : Int), (1 : Int), (2 : Int), (4 : Int)] (Int.toNat (wi v2)) (0 : Int))) x0 ((wi (x1 + (1 : Int)))) false (fun y0 y1 y2 y3 => if (((wi v1) == (30 : Int)) = true) then (Adz N 4 y1 y2 y3 (fun y4 y5 y6 y7 => Ajp N x1 ((wi v2)) 0 0 0 ((wi v1)) y0 y4 y5 y6 y7 (fun y8 y9 y10 y11 y12 => K0 y10 y11 y12 y8 y9))) else (Abg N ((wi v1)) (fun y13 => Ac6 N y13 y1 y2 y3 (fun y14 y15 y16 y17 => Ajp N x1 ((wi v2)) 0 0 0 ((wi v1)) y0 y14 y15 y16 y17 (fun y18 y19 y20 y21 y22 => K0 y20 y21 y22 y18 y19)))))) else none))))) else none) else none))
noncomputable def Aq5 : A82 := @B2k @Adz @Ajp @Abg @Ac6
noncomputable def Cit (N : Nat) : Abl Bo0 [A8p] := fun R x C => Aq5 N x.1.1 x.1.2.1 (fun y0 y1 y2 y3 y4 => C.1 (((y0, y1, y2, ()), y3, y4, ()), (())))
noncomputable def B2l (Aq5 : A82) (N : Nat) : Go.AX.Aai := Ack [true, true] [] false 2 0 Bo0 [A8p] (fun R x C => Aq5 N x.1.1 x.1.2.1 (fun y0 y1 y2 y3 y4 => C.1 (((y0, y1, y2, ()), y3, y4, ()), (()))))
noncomputable def B2m (N : Nat) : Go.AX.Aai := B2l @Aq5 N
noncomputable def Ciu (N : Nat) : List (Nat × Acn) := [(24, Aaa Apz (Box N))]
noncomputable def Cb6 (N : Nat) : List (Nat × Go.AX.Aai) := [(35, A4f N), (38, Bdu N), (37, Ayf N), (36, A0u N)]
noncomputable def A99 : Aac := ⟨[], []⟩
noncomputable def Aw4 : Aac := ⟨[(0, .one (.val .bool))], []⟩
@[reducible] def B23 (R : Type) : Type := (Bool → Option R) → Option R
@[reducible] def Av2 : Type 1 := {R : Type} → Nat → B23 R
noncomputable def Bl8 (Aq5 : A82) : Av2 := fun {R} N K0 =>
    Aq5 N ([(65 : Int), (1 : Int), (44 : Int)]) 0 (fun y0 y1 y2 y3 y4 => Aq5 N ([(34 : Int), (2 : Int), (1 : Int)]) 2 (fun y5 y6 y7 y8 y9 => if ((y4 == (0 : Int)) = true) then (if ((y9 == (0 : Int)) = true) then (if (((y0 == (1 : Int)) && ((y1 == (300 : Int)) && ((y2 == (0 : Int)) && true))) = true) then (if ((y3 == (3 : Int)) = true) then (if (((y5 == (1 : Int)) && ((y6 == (0 : Int)) && ((y7 == (0 : Int)) && true))) = true) then (K0 ((y8 == (1 : Int)))) else (K0 false)) else (K0 false)) else (K0 false)) else (K0 false)) else (K0 false)))
noncomputable def Ai6 : Av2 := @Bl8 @Aq5
noncomputable def Cf7 (N : Nat) : Abl A99 [Aw4] := fun R x C => Ai6 N  (fun y0 => C.1 ((y0, ()), (())))
noncomputable def Bl9 (Ai6 : Av2) (N : Nat) : Go.AX.Aai := Ack [] [] false 0 0 A99 [Aw4] (fun R x C => Ai6 N  (fun y0 => C.1 ((y0, ()), (()))))
noncomputable def Bma (N : Nat) : Go.AX.Aai := Bl9 @Ai6 N
noncomputable def Cf8 (N : Nat) : List (Nat × Acn) := []
noncomputable def B24 (N : Nat) : List (Nat × Go.AX.Aai) := [(12, B2m N)]
noncomputable def Ags : Code := Go.Proofs.Try.f16.body.getD .skip
noncomputable def Bo1 : Code := Go.Proofs.Try.f45.body.getD .skip
noncomputable def Bmb : Code := Go.Proofs.Try.f67.body.getD .skip
noncomputable def Aow : Code := Go.Proofs.Try.f87.body.getD .skip
noncomputable def Aim : Aac := ⟨[(3, .one (.val (.int .i64))), (27, .one (.val z2)), (28, .one (.val (.int .i64))), (29, .one (.val (.int .i64)))], []⟩
noncomputable def Arh : Aac := ⟨[(3, .one (.val (.int .i64)))], []⟩
noncomputable def Bdx : Acj := .cons (.exit 0) Arh (.nil)
@[reducible] def A2k (R : Type) : Type := Int → d4 → Int → Int → (Int → Option R) → Option R
@[reducible] def Bdy (R : Type) : Type := Int → d4 → Int → Int → Option R
@[reducible] def Aup : Type 1 := {R : Type} → Nat → Nat → A2k R
noncomputable def Auq {R : Type} (N : Nat) (rc : Bdy R) : A2k R := fun x0 x1 x2 x3 K0 =>
    if ((decide ((x3 < x2))) = true) then (if (((0 : Int) ≤ x3) ∧ (x3 < (len x1))) then (let v0 := (wi (x0 + (((List.length (List.getD x1 (Int.toNat x3) (([] : List UInt8), (false, ([] : List Int)))).2.2) : Nat) : Int))); if ((List.getD x1 (Int.toNat x3) (([] : List UInt8), (false, ([] : List Int)))).2.1 = true) then (rc ((wi (v0 + (wi (Int.tdiv (wi ((((List.length (List.getD x1 (Int.toNat x3) (([] : List UInt8), (false, ([] : List Int)))).1) : Nat) : Int) + (2 : Int))) (2 : Int)))))) x1 x2 ((wi (x3 + (1 : Int))))) else (rc v0 x1 x2 ((wi (x3 + (1 : Int)))))) else none) else (K0 x0)
noncomputable def Ael {R : Type} (N : Nat) : Nat → A2k R
  | 0 => fun _ _ _ _ _ => none
  | k + 1 => fun x0 x1 x2 x3 K0 => Auq N (fun x0 x1 x2 x3 => Ael N k x0 x1 x2 x3 K0) x0 x1 x2 x3 K0
noncomputable def A2l (Ael : Aup) (N k : Nat) : Aap Aim := fun R x K => Ael N k x.1.1 x.1.2.1 x.1.2.2.1 x.1.2.2.2.1 (fun y0 => K (.exit 0) (Aab Arh ((y0, ()), (()))))
noncomputable def A2m (N k : Nat) : Aap Aim := A2l @Ael N k
noncomputable def Baa : Aac := ⟨[(0, .agg [(.val .str), (.val z2), (.val z3), (.val z1), (.val (.int .i64)), (.val (.int .i64))])], []⟩
noncomputable def Aw5 : Aac := ⟨[(0, .one (.val .bool))], []⟩
@[reducible] def B25 (R : Type) : Type := (List UInt8) → d4 → d3 → d1 → Int → Int → (Bool → Option R) → Option R
@[reducible] def Av3 : Type 1 := {R : Type} → Nat → B25 R
noncomputable def Bab (Ael : Aup) : Av3 := fun {R} N x0 x1 x2 x3 x4 x5 K0 =>
    if ((decide (((len x2) > (40000 : Int)))) = true) then (K0 true) else (if ((decide (((len x1) > (2000 : Int)))) = true) then (K0 true) else (if ((decide ((x4 > (200 : Int)))) = true) then (K0 true) else (if ((decide ((x5 > (20000 : Int)))) = true) then (K0 true) else (Ael N N 0 x1 ((len x1)) 0 (fun y0 => K0 ((decide ((y0 > (7800 : Int))))))))))
noncomputable def Ai7 : Av3 := @Bab @Ael
noncomputable def Cf9 (N : Nat) : Abl Baa [Aw5] := fun R x C => Ai7 N x.1.1.1 x.1.1.2.1 x.1.1.2.2.1 x.1.1.2.2.2.1 x.1.1.2.2.2.2.1 x.1.1.2.2.2.2.2.1 (fun y0 => C.1 ((y0, ()), (())))
noncomputable def Bmc (Ai7 : Av3) (N : Nat) : Go.AX.Aai := Ack [true] [] false 1 0 Baa [Aw5] (fun R x C => Ai7 N x.1.1.1 x.1.1.2.1 x.1.1.2.2.1 x.1.1.2.2.2.1 x.1.1.2.2.2.2.1 x.1.1.2.2.2.2.2.1 (fun y0 => C.1 ((y0, ()), (()))))
noncomputable def Bmd (N : Nat) : Go.AX.Aai := Bmc @Ai7 N
noncomputable def Cga (N : Nat) : List (Nat × Acn) := [(11, Aaa Aim (A2m N N))]
noncomputable def B26 (N : Nat) : List (Nat × Go.AX.Aai) := []
noncomputable def Age : Code := Go.Proofs.Try.f88.body.getD .skip
noncomputable def Aso : Code := Go.Proofs.Try.f104.body.getD .skip
noncomputable def Ala : Code := Go.Proofs.Try.f115.body.getD .skip
noncomputable def An8 (N : Nat) : Go.AX.Aai := A96 147 5
noncomputable def Ahc : Aac := ⟨[(0, .one (.ptr 0)), (1, .one (.val (.int .u8)))], [(0, .cells 147 [(.same .nilptr), (.slf 1)]), (1, .row 5 (.int .u8))]⟩
noncomputable def Ajy : Aac := ⟨[(0, .one (.same .nilif))], [(0, .cells 147 [(.ptr 0), (.slf 1)]), (1, .row 5 (.int .u8))]⟩
@[reducible] def A83 (R : Type) : Type := Int → d0 → (d0 → Option R) → Option R
@[reducible] def Ail : Type 1 := {R : Type} → Nat → A83 R
noncomputable def Abs : Ail := fun {R} N x0 x1 K0 =>
    if ((((List.length x1) + (List.length (x0 :: ([] : List Int)))) * (1 : Nat)) ≤ (70368744177664 : Nat)) then (K0 ((x1 ++ (x0 :: ([] : List Int))))) else none
noncomputable def A84 (N : Nat) : Abl Ahc [Ajy] := fun R x C => Abs N x.1.2.1 x.2.2.1 (fun y0 => C.1 (((), ()), (((), (), ()), y0, ())))
noncomputable def An9 (Abs : Ail) (N : Nat) : Go.AX.Aai := Ack [false, true] (List.replicate 32 true) true 2 2 Ahc [Ajy] (fun R x C => Abs N x.1.2.1 x.2.2.1 (fun y0 => C.1 (((), ()), (((), (), ()), y0, ()))))
noncomputable def Auc (N : Nat) : Go.AX.Aai := An9 @Abs N
noncomputable def A85 (N : Nat) : List (Nat × Acn) := []
noncomputable def Aud (N : Nat) : List (Nat × Go.AX.Aai) := [(122, An8 N)]
noncomputable def Aqo (N : Nat) : Go.AX.Aai := A95
noncomputable def Amc : Aac := ⟨[(0, .one (.ptr 0)), (1, .one (.val (.int .u8)))], [(0, .cells 147 [(.ptr 0), (.slf 1)]), (1, .row 5 (.int .u8))]⟩
noncomputable def Ain : Aac := ⟨[(0, .one (.same .nilif))], [(0, .cells 147 [(.ptr 0), (.slf 1)]), (1, .row 5 (.int .u8))]⟩
@[reducible] def A4g (R : Type) : Type := Int → d0 → (d0 → Option R) → Option R
@[reducible] def Af5 : Type 1 := {R : Type} → Nat → A4g R
noncomputable def Aaw : Af5 := fun {R} N x0 x1 K0 =>
    if ((((List.length x1) + (List.length (x0 :: ([] : List Int)))) * (1 : Nat)) ≤ (70368744177664 : Nat)) then (K0 ((x1 ++ (x0 :: ([] : List Int))))) else none
noncomputable def A4h (N : Nat) : Abl Amc [Ain] := fun R x C => Aaw N x.1.2.1 x.2.2.1 (fun y0 => C.1 (((), ()), (((), (), ()), y0, ())))
noncomputable def Amd (Aaw : Af5) (N : Nat) : Go.AX.Aai := Ack [false, true] (List.replicate 32 true) true 2 2 Amc [Ain] (fun R x C => Aaw N x.1.2.1 x.2.2.1 (fun y0 => C.1 (((), ()), (((), (), ()), y0, ()))))
noncomputable def Ari (N : Nat) : Go.AX.Aai := Amd @Aaw N
noncomputable def A4i (N : Nat) : List (Nat × Acn) := []
noncomputable def Arj (N : Nat) : List (Nat × Go.AX.Aai) := [(122, An8 N)]
noncomputable def Alf : Aac := ⟨[(0, .one (.val .str)), (4, .one (.ptr 32)), (10, .one (.val (.int .i64))), (11, .one (.val (.int .i64)))], [(32, .cells 147 [(.ptr 32), (.slf 33)]), (33, .row 5 (.int .u8))]⟩
noncomputable def Aw6 : Aac := ⟨[(2, .one (.val .str)), (3, .one (.val (.int .i64)))], []⟩
noncomputable def Aw7 : Aac := ⟨[(0, .one (.val .str)), (4, .one (.ptr 32))], [(32, .cells 147 [(.ptr 32), (.slf 33)]), (33, .row 5 (.int .u8))]⟩
noncomputable def Bme : Acj := .cons .ret Aw6 (.cons (.exit 0) Aw7 (.nil))
@[reducible] def Bac (R : Type) : Type := (List UInt8) → Int → Int → d0 → ((List UInt8) → Int → Option R) → ((List UInt8) → d0 → Option R) → Option R
@[reducible] def Bmf (R : Type) : Type := (List UInt8) → Int → Int → d0 → Option R
@[reducible] def A1v : Type 1 := {R : Type} → Nat → Nat → Bac R
noncomputable def A1w (Aaw : Af5) {R : Type} (N : Nat) (rc : Bmf R) : Bac R := fun x0 x1 x2 x3 K0 K1 =>
    if ((decide ((x2 < x1))) = true) then (if (((0 : Int) ≤ x2) ∧ (x2 < (len x0))) then (let v0 := (((UInt8.toNat (List.getD x0 (Int.toNat x2) (0 : UInt8))) : Nat) : Int); let v1 := (Bja [(10 : UInt8), (9 : UInt8), (42 : UInt8), (34 : UInt8)] v0); if ((decide ((v1 ≥ (0 : Int)))) = true) then (Aaw N 42 x3 (fun y0 => if (((0 : Int) ≤ v1) ∧ (v1 < (4 : Int))) then (Aaw N ((((UInt8.toNat (List.getD [(110 : UInt8), (116 : UInt8), (42 : UInt8), (34 : UInt8)] (Int.toNat v1) (0 : UInt8))) : Nat) : Int)) y0 (fun y1 => rc x0 x1 ((wi (x2 + (1 : Int)))) y1)) else none)) else (if ((decide ((v0 < (32 : Int)))) = true) then (K0 (([] : List UInt8)) 3) else (if ((decide ((v0 > (126 : Int)))) = true) then (K0 (([] : List UInt8)) 3) else (Aaw N v0 x3 (fun y2 => rc x0 x1 ((wi (x2 + (1 : Int)))) y2))))) else none) else (K1 x0 x3)
noncomputable def Agb {R : Type} (N : Nat) : Nat → Bac R
  | 0 => fun _ _ _ _ _ _ => none
  | k + 1 => fun x0 x1 x2 x3 K0 K1 => A1w @Aaw N (fun x0 x1 x2 x3 => Agb N k x0 x1 x2 x3 K0 K1) x0 x1 x2 x3 K0 K1
noncomputable def Bad (Agb : A1v) (N k : Nat) : Aap Alf := fun R x K => Agb N k x.1.1 x.1.2.2.1 x.1.2.2.2.1 x.2.2.1 (fun y0 y1 => K .ret (Aab Aw6 ((y0, y1, ()), (())))) (fun y0 y1 => K (.exit 0) (Aab Aw7 ((y0, (), ()), (((), (), ()), y1, ()))))
noncomputable def Bae (N k : Nat) : Aap Alf := Bad @Agb N k
noncomputable def Ame (N : Nat) : Go.AX.Aai := Bc1 147 5
noncomputable def Bie : Aac := ⟨[(0, .one (.val .str))], []⟩
noncomputable def A1x : Aac := ⟨[(0, .one (.val .str)), (1, .one (.val (.int .i64)))], []⟩
@[reducible] def B8f (R : Type) : Type := (List UInt8) → ((List UInt8) → Int → Option R) → Option R
@[reducible] def Akl : Type 1 := {R : Type} → Nat → B8f R
noncomputable def Bif (Abs : Ail) (Agb : A1v) (Aaw : Af5) : Akl := fun {R} N x0 K0 =>
    Abs N 34 (([] : List Int)) (fun y0 => Agb N N x0 ((len x0)) 0 y0 (fun y1 y2 => K0 y1 y2) (fun y3 y4 => if ((decide (((len y3) > (100 : Int)))) = true) then (K0 (([] : List UInt8)) 2) else (Aaw N 34 y4 (fun y5 => if (((0 : Nat) < (List.length y5)) ∧ (((List.length y5) ≤ (70368744177664 : Nat)) ∧ ((Apx y5) = true))) then (K0 ((Bc0 y5)) 0) else none))))
noncomputable def Ac5 : Akl := @Bif @Abs @Agb @Aaw
noncomputable def Ch5 (N : Nat) : Abl Bie [A1x] := fun R x C => Ac5 N x.1.1 (fun y0 y1 => C.1 ((y0, y1, ()), (())))
noncomputable def Apm (Ac5 : Akl) (N : Nat) : Go.AX.Aai := Ack [true] [] false 1 0 Bie [A1x] (fun R x C => Ac5 N x.1.1 (fun y0 y1 => C.1 ((y0, y1, ()), (()))))
noncomputable def Big (N : Nat) : Go.AX.Aai := Apm @Ac5 N
noncomputable def Ch6 (N : Nat) : List (Nat × Acn) := [(9, Aaa Alf (Bae N N))]
noncomputable def B8g (N : Nat) : List (Nat × Go.AX.Aai) := [(115, Bdc 2 Ahc (Auc N) (Ari N)), (116, Aqo N), (117, Ame N)]
noncomputable def Bmg : Code := Go.Proofs.Try.f105.body.getD .skip
noncomputable def Baf : Aac := ⟨[], []⟩
noncomputable def Aw8 : Aac := ⟨[(0, .agg [(.val .str), (.val (.int .i64)), (.val (.int .i64)), (.val (.int .i64)), (.val .str), (.val (.int .i64)), (.val (.int .i64)), (.val (.int .i64)), (.val .str), (.val (.int .i64)), (.val (.int .i64)), (.val (.int .i64)), (.val .str), (.val (.int .i64)), (.val (.int .i64)), (.val (.int .i64)), (.val .str), (.val (.int .i64)), (.val (.int .i64)), (.val (.int .i64)), (.val .str), (.val (.int .i64)), (.val (.int .i64)), (.val (.int .i64)), (.val .str), (.val (.int .i64)), (.val (.int .i64)), (.val (.int .i64)), (.val .str), (.val (.int .i64)), (.val (.int .i64)), (.val (.int .i64)), (.val .str), (.val (.int .i64)), (.val (.int .i64)), (.val (.int .i64)), (.val .str), (.val (.int .i64)), (.val (.int .i64)), (.val (.int .i64)), (.val .str), (.val (.int .i64)), (.val (.int .i64)), (.val (.int .i64)), (.val .str), (.val (.int .i64)), (.val (.int .i64)), (.val (.int .i64)), (.val .str), (.val (.int .i64)), (.val (.int .i64)), (.val (.int .i64)), (.val .str), (.val (.int .i64)), (.val (.int .i64)), (.val (.int .i64)), (.val .str), (.val (.int .i64)), (.val (.int .i64)), (.val (.int .i64)), (.val .str), (.val (.int .i64)), (.val (.int .i64)), (.val (.int .i64)), (.val .str), (.val (.int .i64)), (.val (.int .i64)), (.val (.int .i64)), (.val .str), (.val (.int .i64)), (.val (.int .i64)), (.val (.int .i64)), (.val .str), (.val (.int .i64)), (.val (.int .i64)), (.val (.int .i64)), (.val .str), (.val (.int .i64)), (.val (.int .i64)), (.val (.int .i64)), (.val .str), (.val (.int .i64)), (.val (.int .i64)), (.val (.int .i64)), (.val .str), (.val (.int .i64)), (.val (.int .i64)), (.val (.int .i64)), (.val .str), (.val (.int .i64)), (.val (.int .i64)), (.val (.int .i64)), (.val .str), (.val (.int .i64)), (.val (.int .i64)), (.val (.int .i64)), (.val .str), (.val (.int .i64)), (.val (.int .i64)), (.val (.int .i64)), (.val .str), (.val (.int .i64)), (.val (.int .i64)), (.val (.int .i64)), (.val .str), (.val (.int .i64)), (.val (.int .i64)), (.val (.int .i64)), (.val .str), (.val (.int .i64)), (.val (.int .i64)), (.val (.int .i64)), (.val .str), (.val (.int .i64)), (.val (.int .i64)), (.val (.int .i64)), (.val .str), (.val (.int .i64)), (.val (.int .i64)), (.val (.int .i64)), (.val .str), (.val (.int .i64)), (.val (.int .i64)), (.val (.int .i64))])], []⟩
@[reducible] def B27 (R : Type) : Type := ((List UInt8) → Int → Int → Int → (List UInt8) → Int → Int → Int → (List UInt8) → Int → Int → Int → (List UInt8) → Int → Int → Int → (List UInt8) → Int → Int → Int → (List UInt8) → Int → Int → Int → (List UInt8) → Int → Int → Int → (List UInt8) → Int → Int → Int → (List UInt8) → Int → Int → Int → (List UInt8) → Int → Int → Int → (List UInt8) → Int → Int → Int → (List UInt8) → Int → Int → Int → (List UInt8) → Int → Int → Int → (List UInt8) → Int → Int → Int → (List UInt8) → Int → Int → Int → (List UInt8) → Int → Int → Int → (List UInt8) → Int → Int → Int → (List UInt8) → Int → Int → Int → (List UInt8) → Int → Int → Int → (List UInt8) → Int → Int → Int → (List UInt8) → Int → Int → Int → (List UInt8) → Int → Int → Int → (List UInt8) → Int → Int → Int → (List UInt8) → Int → Int → Int → (List UInt8) → Int → Int → Int → (List UInt8) → Int → Int → Int → (List UInt8) → Int → Int → Int → (List UInt8) → Int → Int → Int → (List UInt8) → Int → Int → Int → (List UInt8) → Int → Int → Int → (List UInt8) → Int → Int → Int → Option R) → Option R
@[reducible] def Akm : Type 1 := {R : Type} → Nat → B27 R
noncomputable def Acr : Akm := fun {R} N K0 =>
    K0 (([] : List UInt8)) 0 0 0 ([(110 : UInt8), (117 : UInt8), (109 : UInt8)]) 1 0 1 ([(108 : UInt8), (111 : UInt8), (99 : UInt8), (97 : UInt8), (108 : UInt8)]) 2 0 1 ([(112 : UInt8), (117 : UInt8), (116 : UInt8), (108 : UInt8)]) 2 1 0 ([(97 : UInt8), (100 : UInt8), (100 : UInt8), (114 : UInt8), (108 : UInt8)]) 2 0 1 ([(103 : UInt8), (108 : UInt8), (111 : UInt8), (98 : UInt8), (97 : UInt8), (108 : UInt8)]) 3 0 1 ([(112 : UInt8), (117 : UInt8), (116 : UInt8), (103 : UInt8)]) 3 1 0 ([(97 : UInt8), (100 : UInt8), (100 : UInt8), (114 : UInt8), (103 : UInt8)]) 3 0 1 ([(115 : UInt8), (116 : UInt8), (97 : UInt8), (116 : UInt8), (105 : UInt8), (99 : UInt8)]) 4 0 1 ([(112 : UInt8), (117 : UInt8), (116 : UInt8), (115 : UInt8)]) 4 1 0 ([(97 : UInt8), (100 : UInt8), (100 : UInt8), (114 : UInt8), (115 : UInt8)]) 4 0 1 ([(112 : UInt8), (114 : UInt8), (111 : UInt8), (99 : UInt8)]) 5 0 1 ([(108 : UInt8), (111 : UInt8), (97 : UInt8), (100 : UInt8)]) 0 1 1 ([(115 : UInt8), (116 : UInt8), (111 : UInt8), (114 : UInt8), (101 : UInt8)]) 0 2 0 ([(103 : UInt8), (101 : UInt8), (116 : UInt8), (98 : UInt8)]) 0 2 1 ([(112 : UInt8), (117 : UInt8), (116 : UInt8), (98 : UInt8)]) 0 3 0 ([(98 : UInt8), (105 : UInt8), (110 : UInt8)]) 7 2 1 ([(117 : UInt8), (110 : UInt8)]) 8 1 1 ([(115 : UInt8), (116 : UInt8), (97 : UInt8), (99 : UInt8), (107 : UInt8)]) 2 0 0 ([(108 : UInt8), (97 : UInt8), (98 : UInt8), (101 : UInt8), (108 : UInt8)]) 6 0 0 ([(106 : UInt8), (117 : UInt8), (109 : UInt8), (112 : UInt8)]) 6 0 0 ([(116 : UInt8), (114 : UInt8), (117 : UInt8), (101 : UInt8)]) 6 1 0 ([(102 : UInt8), (97 : UInt8), (108 : UInt8), (115 : UInt8), (101 : UInt8)]) 6 1 0 ([(99 : UInt8), (97 : UInt8), (108 : UInt8), (108 : UInt8)]) 2 0 0 ([(101 : UInt8), (110 : UInt8), (116 : UInt8), (101 : UInt8), (114 : UInt8)]) 5 0 0 ([(114 : UInt8), (101 : UInt8), (116 : UInt8), (117 : UInt8), (114 : UInt8), (110 : UInt8)]) 0 1 0 ([(98 : UInt8), (97 : UInt8), (99 : UInt8), (107 : UInt8)]) 0 0 0 ([(114 : UInt8), (101 : UInt8), (115 : UInt8), (117 : UInt8), (108 : UInt8), (116 : UInt8)]) 6 1 0 ([(116 : UInt8), (97 : UInt8), (107 : UInt8), (101 : UInt8)]) 2 0 0 ([(115 : UInt8), (119 : UInt8), (105 : UInt8), (116 : UInt8), (99 : UInt8), (104 : UInt8)]) 6 1 0 ([(99 : UInt8), (97 : UInt8), (115 : UInt8), (101 : UInt8)]) 1 0 0
noncomputable def B28 (N : Nat) : Abl Baf [Aw8] := fun R x C => Acr N  (fun y0 y1 y2 y3 y4 y5 y6 y7 y8 y9 y10 y11 y12 y13 y14 y15 y16 y17 y18 y19 y20 y21 y22 y23 y24 y25 y26 y27 y28 y29 y30 y31 y32 y33 y34 y35 y36 y37 y38 y39 y40 y41 y42 y43 y44 y45 y46 y47 y48 y49 y50 y51 y52 y53 y54 y55 y56 y57 y58 y59 y60 y61 y62 y63 y64 y65 y66 y67 y68 y69 y70 y71 y72 y73 y74 y75 y76 y77 y78 y79 y80 y81 y82 y83 y84 y85 y86 y87 y88 y89 y90 y91 y92 y93 y94 y95 y96 y97 y98 y99 y100 y101 y102 y103 y104 y105 y106 y107 y108 y109 y110 y111 y112 y113 y114 y115 y116 y117 y118 y119 y120 y121 y122 y123 => C.1 (((y0, y1, y2, y3, y4, y5, y6, y7, y8, y9, y10, y11, y12, y13, y14, y15, y16, y17, y18, y19, y20, y21, y22, y23, y24, y25, y26, y27, y28, y29, y30, y31, y32, y33, y34, y35, y36, y37, y38, y39, y40, y41, y42, y43, y44, y45, y46, y47, y48, y49, y50, y51, y52, y53, y54, y55, y56, y57, y58, y59, y60, y61, y62, y63, y64, y65, y66, y67, y68, y69, y70, y71, y72, y73, y74, y75, y76, y77, y78, y79, y80, y81, y82, y83, y84, y85, y86, y87, y88, y89, y90, y91, y92, y93, y94, y95, y96, y97, y98, y99, y100, y101, y102, y103, y104, y105, y106, y107, y108, y109, y110, y111, y112, y113, y114, y115, y116, y117, y118, y119, y120, y121, y122, y123, ()), ()), (())))
noncomputable def Aox (Acr : Akm) (N : Nat) : Go.AX.Aai := Ack [] [] false 0 0 Baf [Aw8] (fun R x C => Acr N  (fun y0 y1 y2 y3 y4 y5 y6 y7 y8 y9 y10 y11 y12 y13 y14 y15 y16 y17 y18 y19 y20 y21 y22 y23 y24 y25 y26 y27 y28 y29 y30 y31 y32 y33 y34 y35 y36 y37 y38 y39 y40 y41 y42 y43 y44 y45 y46 y47 y48 y49 y50 y51 y52 y53 y54 y55 y56 y57 y58 y59 y60 y61 y62 y63 y64 y65 y66 y67 y68 y69 y70 y71 y72 y73 y74 y75 y76 y77 y78 y79 y80 y81 y82 y83 y84 y85 y86 y87 y88 y89 y90 y91 y92 y93 y94 y95 y96 y97 y98 y99 y100 y101 y102 y103 y104 y105 y106 y107 y108 y109 y110 y111 y112 y113 y114 y115 y116 y117 y118 y119 y120 y121 y122 y123 => C.1 (((y0, y1, y2, y3, y4, y5, y6, y7, y8, y9, y10, y11, y12, y13, y14, y15, y16, y17, y18, y19, y20, y21, y22, y23, y24, y25, y26, y27, y28, y29, y30, y31, y32, y33, y34, y35, y36, y37, y38, y39, y40, y41, y42, y43, y44, y45, y46, y47, y48, y49, y50, y51, y52, y53, y54, y55, y56, y57, y58, y59, y60, y61, y62, y63, y64, y65, y66, y67, y68, y69, y70, y71, y72, y73, y74, y75, y76, y77, y78, y79, y80, y81, y82, y83, y84, y85, y86, y87, y88, y89, y90, y91, y92, y93, y94, y95, y96, y97, y98, y99, y100, y101, y102, y103, y104, y105, y106, y107, y108, y109, y110, y111, y112, y113, y114, y115, y116, y117, y118, y119, y120, y121, y122, y123, ()), ()), (()))))
noncomputable def Bag (N : Nat) : Go.AX.Aai := Aox @Acr N
noncomputable def B29 (N : Nat) : List (Nat × Acn) := []
noncomputable def Bmh (N : Nat) : List (Nat × Go.AX.Aai) := []
noncomputable def Ark : Code := Go.Proofs.Try.f106.body.getD .skip
noncomputable def Bwv : Code := Go.Proofs.Try.f119.body.getD .skip
noncomputable def Blh : Aac := ⟨[(0, .one (.val (.int .i64))), (1, .one (.val (.int .i64))), (2, .one (.val (.int .i64)))], []⟩
noncomputable def A4j : Aac := ⟨[(0, .one (.val .bool))], []⟩
@[reducible] def Caj (R : Type) : Type := Int → Int → Int → (Bool → Option R) → Option R
@[reducible] def Ah5 : Type 1 := {R : Type} → Nat → Caj R
noncomputable def Aa6 : Ah5 := fun {R} N x0 x1 x2 K0 =>
    if ((decide ((x0 ≥ x1))) = true) then (K0 ((decide ((x0 ≤ x2))))) else (K0 false)
noncomputable def Cak (N : Nat) : Abl Blh [A4j] := fun R x C => Aa6 N x.1.1 x.1.2.1 x.1.2.2.1 (fun y0 => C.1 ((y0, ()), (())))
noncomputable def An1 (Aa6 : Ah5) (N : Nat) : Go.AX.Aai := Ack [true, true, true] [] false 3 0 Blh [A4j] (fun R x C => Aa6 N x.1.1 x.1.2.1 x.1.2.2.1 (fun y0 => C.1 ((y0, ()), (()))))
noncomputable def A4k (N : Nat) : Go.AX.Aai := An1 @Aa6 N
noncomputable def Cal (N : Nat) : List (Nat × Acn) := []
noncomputable def Bww (N : Nat) : List (Nat × Go.AX.Aai) := []
noncomputable def Aj2 : Aac := ⟨[(3, .one (.ptr 32)), (4, .one (.ptr 33)), (7, .one (.val .bool))], [(32, .cells 24 [(.val (.int .i64)), (.val (.int .i64)), (.val (.int .i64))]), (33, .cells 34 [(.val .str), (.val z2), (.val z3), (.val z1), (.val (.int .i64)), (.val (.int .i64))])]⟩
noncomputable def Aur : Aac := ⟨[(6, .one (.val .bool))], []⟩
noncomputable def A86 : Acj := .cons .ret Aur (.nil)
@[reducible] def Bo2 (R : Type) : Type := Bool → Int → Int → Int → (List UInt8) → d4 → d3 → d1 → Int → Int → (Bool → Option R) → Option R
@[reducible] def Alw : Type 1 := {R : Type} → Nat → Bo2 R
noncomputable def Ayg (Aa6 : Ah5) : Alw := fun {R} N x0 x1 x2 x3 x4 x5 x6 x7 x8 x9 K0 =>
    if ((x1 == (24 : Int)) = true) then (if (x0 = true) then (Aa6 N x3 0 8 (fun y0 => K0 y0)) else (K0 false)) else (if ((x1 == (29 : Int)) = true) then (if (x0 = true) then (Aa6 N x3 0 1000 (fun y1 => K0 y1)) else (K0 false)) else (if ((x1 == (30 : Int)) = true) then (if (x0 = true) then (Aa6 N x3 1 x9 (fun y2 => K0 y2)) else (K0 false)) else (if (x0 = true) then (K0 ((x3 == (0 : Int)))) else (K0 false))))
noncomputable def Aby : Alw := @Ayg @Aa6
noncomputable def Ayh (Aby : Alw) (N : Nat) : Aap Aj2 := fun R x K => Aby N x.1.2.2.1 x.2.1.1 x.2.1.2.1 x.2.1.2.2.1 x.2.2.1.1 x.2.2.1.2.1 x.2.2.1.2.2.1 x.2.2.1.2.2.2.1 x.2.2.1.2.2.2.2.1 x.2.2.1.2.2.2.2.2.1 (fun y0 => K .ret (Aab Aur ((y0, ()), (()))))
noncomputable def A87 (N : Nat) : Aap Aj2 := Ayh @Aby N
noncomputable def Bo3 : Code := Go.Proofs.Try.f118.body.getD .skip
noncomputable def Bdz : Aac := ⟨[(0, .one (.val (.int .i64)))], []⟩
noncomputable def Az5 : Aac := ⟨[(0, .one (.val .bool))], []⟩
@[reducible] def B6u (R : Type) : Type := Int → (Bool → Option R) → Option R
@[reducible] def Aoa : Type 1 := {R : Type} → Nat → B6u R
noncomputable def Bd0 (Aa6 : Ah5) : Aoa := fun {R} N x0 K0 =>
    Aa6 N x0 (-2147483648) 2147483647 (fun y0 => K0 y0)
noncomputable def Ae3 : Aoa := @Bd0 @Aa6
noncomputable def Chl (N : Nat) : Abl Bdz [Az5] := fun R x C => Ae3 N x.1.1 (fun y0 => C.1 ((y0, ()), (())))
noncomputable def A4l (Ae3 : Aoa) (N : Nat) : Go.AX.Aai := Ack [true] [] false 1 0 Bdz [Az5] (fun R x C => Ae3 N x.1.1 (fun y0 => C.1 ((y0, ()), (()))))
noncomputable def Bd1 (N : Nat) : Go.AX.Aai := A4l @Ae3 N
noncomputable def Chm (N : Nat) : List (Nat × Acn) := []
noncomputable def B6v (N : Nat) : List (Nat × Go.AX.Aai) := [(119, A4k N)]
noncomputable def A4m : Aac := ⟨[(0, .agg [(.val (.int .i64)), (.val (.int .i64)), (.val (.int .i64))]), (1, .agg [(.val .str), (.val z2), (.val z3), (.val z1), (.val (.int .i64)), (.val (.int .i64))]), (2, .agg [(.val .str), (.val (.int .i64)), (.val (.int .i64)), (.val (.int .i64))])], []⟩
noncomputable def As2 : Aac := ⟨[(0, .one (.val .bool))], []⟩
@[reducible] def Bwx (R : Type) : Type := Int → Int → Int → (List UInt8) → d4 → d3 → d1 → Int → Int → (List UInt8) → Int → Int → Int → (Bool → Option R) → Option R
@[reducible] def Alb : Type 1 := {R : Type} → Nat → Bwx R
noncomputable def A4n (Aby : Alw) (Ae3 : Aoa) (Aa6 : Ah5) : Alb := fun {R} N x0 x1 x2 x3 x4 x5 x6 x7 x8 x9 x10 x11 x12 K0 =>
    if ((x10 == (0 : Int)) = true) then (Aby N ((x1 == (0 : Int))) x0 x1 x2 x3 x4 x5 x6 x7 x8 (fun y0 => K0 y0)) else (if ((x10 == (1 : Int)) = true) then (Ae3 N x1 (fun y1 => Aby N y1 x0 x1 x2 x3 x4 x5 x6 x7 x8 (fun y2 => K0 y2))) else (if ((x10 == (2 : Int)) = true) then (Aa6 N x1 0 4000 (fun y3 => Aby N y3 x0 x1 x2 x3 x4 x5 x6 x7 x8 (fun y4 => K0 y4))) else (if ((x10 == (3 : Int)) = true) then (Aa6 N x1 0 199 (fun y5 => Aby N y5 x0 x1 x2 x3 x4 x5 x6 x7 x8 (fun y6 => K0 y6))) else (if ((x10 == (4 : Int)) = true) then (Aa6 N x1 0 ((wi ((len x4) - (1 : Int)))) (fun y7 => Aby N y7 x0 x1 x2 x3 x4 x5 x6 x7 x8 (fun y8 => K0 y8))) else (if ((x10 == (5 : Int)) = true) then (Aa6 N x1 1 x7 (fun y9 => Aby N y9 x0 x1 x2 x3 x4 x5 x6 x7 x8 (fun y10 => K0 y10))) else (if ((x10 == (6 : Int)) = true) then (Aa6 N x1 1 x8 (fun y11 => Aby N y11 x0 x1 x2 x3 x4 x5 x6 x7 x8 (fun y12 => K0 y12))) else (if ((x10 == (7 : Int)) = true) then (Aa6 N x1 1 17 (fun y13 => Aby N y13 x0 x1 x2 x3 x4 x5 x6 x7 x8 (fun y14 => K0 y14))) else (if ((x10 == (8 : Int)) = true) then (if ((x1 == (18 : Int)) = true) then (Aby N true x0 x1 x2 x3 x4 x5 x6 x7 x8 (fun y15 => K0 y15)) else (Aby N ((x1 == (19 : Int))) x0 x1 x2 x3 x4 x5 x6 x7 x8 (fun y16 => K0 y16))) else (Aby N false x0 x1 x2 x3 x4 x5 x6 x7 x8 (fun y17 => K0 y17))))))))))
noncomputable def Ads : Alb := @A4n @Aby @Ae3 @Aa6
noncomputable def Ceu (N : Nat) : Abl A4m [As2] := fun R x C => Ads N x.1.1.1 x.1.1.2.1 x.1.1.2.2.1 x.1.2.1.1 x.1.2.1.2.1 x.1.2.1.2.2.1 x.1.2.1.2.2.2.1 x.1.2.1.2.2.2.2.1 x.1.2.1.2.2.2.2.2.1 x.1.2.2.1.1 x.1.2.2.1.2.1 x.1.2.2.1.2.2.1 x.1.2.2.1.2.2.2.1 (fun y0 => C.1 ((y0, ()), (())))
noncomputable def Arl (Ads : Alb) (N : Nat) : Go.AX.Aai := Ack [true, true, true] [] false 3 0 A4m [As2] (fun R x C => Ads N x.1.1.1 x.1.1.2.1 x.1.1.2.2.1 x.1.2.1.1 x.1.2.1.2.1 x.1.2.1.2.2.1 x.1.2.1.2.2.2.1 x.1.2.1.2.2.2.2.1 x.1.2.1.2.2.2.2.2.1 x.1.2.2.1.1 x.1.2.2.1.2.1 x.1.2.2.1.2.2.1 x.1.2.2.1.2.2.2.1 (fun y0 => C.1 ((y0, ()), (()))))
noncomputable def Bgn (N : Nat) : Go.AX.Aai := Arl @Ads N
noncomputable def Cev (N : Nat) : List (Nat × Acn) := [(42, Aaa Aj2 (A87 N))]
noncomputable def Bwy (N : Nat) : List (Nat × Go.AX.Aai) := [(119, A4k N), (118, Bd1 N)]
noncomputable def Ag4 : Aac := ⟨[(1, .one (.ptr 32)), (5, .one (.ptr 1000)), (35, .one (.val z3)), (36, .one (.val (.int .i64))), (37, .one (.val (.int .i64)))], [(32, .cells 34 [(.val .str), (.val z2), (.val z3), (.val z1), (.val (.int .i64)), (.val (.int .i64))]), (1000, .row 133 (.pair .str (.pair (.int .i64) z0)))]⟩
noncomputable def Arm : Aac := ⟨[(2, .one (.val .bool))], []⟩
noncomputable def Arn : Aac := ⟨[(1, .one (.ptr 32))], [(32, .cells 34 [(.val .str), (.val z2), (.val z3), (.val z1), (.val (.int .i64)), (.val (.int .i64))])]⟩
noncomputable def Bd2 : Acj := .cons .ret Arm (.cons (.exit 0) Arn (.nil))
@[reducible] def A2n (R : Type) : Type := d3 → Int → Int → (List UInt8) → d4 → d3 → d1 → Int → Int → (List ((List UInt8 × (Int × (Int × Int))))) → (Bool → Option R) → ((List UInt8) → d4 → d3 → d1 → Int → Int → Option R) → Option R
@[reducible] def Bd3 (R : Type) : Type := d3 → Int → Int → (List UInt8) → d4 → d3 → d1 → Int → Int → (List ((List UInt8 × (Int × (Int × Int))))) → Option R
@[reducible] def Am9 : Type 1 := {R : Type} → Nat → Nat → A2n R
noncomputable def A2o (Ads : Alb) {R : Type} (N : Nat) (rc : Bd3 R) : A2n R := fun x0 x1 x2 x3 x4 x5 x6 x7 x8 x9 K0 K1 =>
    if ((decide ((x2 < x1))) = true) then (if (((0 : Int) ≤ x2) ∧ (x2 < (len x0))) then (let v0 := (List.getD x0 (Int.toNat x2) ((0 : Int), ((0 : Int), (0 : Int)))).1; if ((decide ((v0 < (1 : Int)))) = true) then (K0 false) else (if ((decide ((v0 ≥ (31 : Int)))) = true) then (K0 false) else (if (((0 : Int) ≤ v0) ∧ (v0 < (31 : Int))) then (if (v0 < (len x9)) then (Ads N v0 ((List.getD x0 (Int.toNat x2) ((0 : Int), ((0 : Int), (0 : Int)))).2.1) ((List.getD x0 (Int.toNat x2) ((0 : Int), ((0 : Int), (0 : Int)))).2.2) x3 x4 x5 x6 x7 x8 ((List.getD x9 (Int.toNat v0) (([] : List UInt8), ((0 : Int), ((0 : Int), (0 : Int))))).1) ((List.getD x9 (Int.toNat v0) (([] : List UInt8), ((0 : Int), ((0 : Int), (0 : Int))))).2.1) ((List.getD x9 (Int.toNat v0) (([] : List UInt8), ((0 : Int), ((0 : Int), (0 : Int))))).2.2.1) ((List.getD x9 (Int.toNat v0) (([] : List UInt8), ((0 : Int), ((0 : Int), (0 : Int))))).2.2.2) (fun y0 => if ((!y0) = true) then (K0 false) else (rc x0 x1 ((wi (x2 + (1 : Int)))) x3 x4 x5 x6 x7 x8 x9))) else none) else none))) else none) else (K1 x3 x4 x5 x6 x7 x8)
noncomputable def Ac4 {R : Type} (N : Nat) : Nat → A2n R
  | 0 => fun _ _ _ _ _ _ _ _ _ _ _ _ => none
  | k + 1 => fun x0 x1 x2 x3 x4 x5 x6 x7 x8 x9 K0 K1 => A2o @Ads N (fun x0 x1 x2 x3 x4 x5 x6 x7 x8 x9 => Ac4 N k x0 x1 x2 x3 x4 x5 x6 x7 x8 x9 K0 K1) x0 x1 x2 x3 x4 x5 x6 x7 x8 x9 K0 K1
noncomputable def Ap0 (Ac4 : Am9) (N k : Nat) : Aap Ag4 := fun R x K => Ac4 N k x.1.2.2.1 x.1.2.2.2.1 x.1.2.2.2.2.1 x.2.1.1 x.2.1.2.1 x.2.1.2.2.1 x.2.1.2.2.2.1 x.2.1.2.2.2.2.1 x.2.1.2.2.2.2.2.1 x.2.2.1 (fun y0 => K .ret (Aab Arm ((y0, ()), (())))) (fun y0 y1 y2 y3 y4 y5 => K (.exit 0) (Aab Arn (((), ()), ((y0, y1, y2, y3, y4, y5, ()), ()))))
noncomputable def A2p (N k : Nat) : Aap Ag4 := Ap0 @Ac4 N k
noncomputable def Ana : Code := Go.Proofs.Try.f107.body.getD .skip
noncomputable def Aio : Aac := ⟨[(1, .one (.ptr 32)), (2, .one (.slf 33)), (3, .one (.slf 34)), (5, .one (.val (.int .i64))), (6, .one (.val (.int .i64))), (18, .one (.val z3)), (19, .one (.val (.int .i64))), (20, .one (.val (.int .i64)))], [(32, .cells 34 [(.val .str), (.val z2), (.val z3), (.val z1), (.val (.int .i64)), (.val (.int .i64))]), (33, .row 3 (.int .i64)), (34, .row 3 (.int .i64))]⟩
noncomputable def Aro : Aac := ⟨[(2, .one (.slf 32)), (3, .one (.slf 33)), (4, .one (.val .bool))], [(32, .row 3 (.int .i64)), (33, .row 3 (.int .i64))]⟩
noncomputable def Arp : Aac := ⟨[(1, .one (.ptr 32)), (2, .one (.slf 33)), (3, .one (.slf 34)), (5, .one (.val (.int .i64))), (6, .one (.val (.int .i64)))], [(32, .cells 34 [(.val .str), (.val z2), (.val z3), (.val z1), (.val (.int .i64)), (.val (.int .i64))]), (33, .row 3 (.int .i64)), (34, .row 3 (.int .i64))]⟩
noncomputable def Bd4 : Acj := .cons .ret Aro (.cons (.exit 0) Arp (.nil))
@[reducible] def A2q (R : Type) : Type := Int → Int → d3 → Int → Int → (List UInt8) → d4 → d3 → d1 → Int → Int → d0 → d0 → (Bool → d0 → d0 → Option R) → (Int → Int → (List UInt8) → d4 → d3 → d1 → Int → Int → d0 → d0 → Option R) → Option R
@[reducible] def Bd5 (R : Type) : Type := Int → Int → d3 → Int → Int → (List UInt8) → d4 → d3 → d1 → Int → Int → d0 → d0 → Option R
@[reducible] def Aus : Type 1 := {R : Type} → Nat → Nat → A2q R
noncomputable def A2r {R : Type} (N : Nat) (rc : Bd5 R) : A2q R := fun x0 x1 x2 x3 x4 x5 x6 x7 x8 x9 x10 x11 x12 K0 K1 =>
    if ((decide ((x4 < x3))) = true) then (if (((0 : Int) ≤ x4) ∧ (x4 < (len x2))) then (let v0 := (List.getD x2 (Int.toNat x4) ((0 : Int), ((0 : Int), (0 : Int)))).1; let v1 := (List.getD x2 (Int.toNat x4) ((0 : Int), ((0 : Int), (0 : Int)))).2.1; if ((v0 == (24 : Int)) = true) then (let v2 := (wi (x0 + (1 : Int))); if ((v1 != v2) = true) then (K0 false (([] : List Int)) (([] : List Int))) else (rc v2 x1 x2 x3 ((wi (x4 + (1 : Int)))) x5 x6 x7 x8 x9 x10 x11 x12)) else (if ((v0 == (19 : Int)) = true) then (if (((0 : Int) ≤ v1) ∧ (v1 < (len x12))) then (if (((List.getD x12 (Int.toNat v1) (0 : Int)) != (0 : Int)) = true) then (K0 false (([] : List Int)) (([] : List Int))) else (if ((x0 == (0 : Int)) = true) then (K0 false (([] : List Int)) (([] : List Int))) else (if (((0 : Int) ≤ v1) ∧ (v1 < (len x11))) then (if (((0 : Int) ≤ v1) ∧ (v1 < (len x12))) then (rc x0 ((if (v1 > x1) then v1 else x1)) x2 x3 ((wi (x4 + (1 : Int)))) x5 x6 x7 x8 x9 x10 ((List.set x11 (Int.toNat v1) x4)) ((List.set x12 (Int.toNat v1) x0))) else none) else none))) else none) else (rc x0 x1 x2 x3 ((wi (x4 + (1 : Int)))) x5 x6 x7 x8 x9 x10 x11 x12))) else none) else (K1 x0 x1 x5 x6 x7 x8 x9 x10 x11 x12)
noncomputable def Aex {R : Type} (N : Nat) : Nat → A2q R
  | 0 => fun _ _ _ _ _ _ _ _ _ _ _ _ _ _ _ => none
  | k + 1 => fun x0 x1 x2 x3 x4 x5 x6 x7 x8 x9 x10 x11 x12 K0 K1 => A2r N (fun x0 x1 x2 x3 x4 x5 x6 x7 x8 x9 x10 x11 x12 => Aex N k x0 x1 x2 x3 x4 x5 x6 x7 x8 x9 x10 x11 x12 K0 K1) x0 x1 x2 x3 x4 x5 x6 x7 x8 x9 x10 x11 x12 K0 K1
noncomputable def A2s (Aex : Aus) (N k : Nat) : Aap Aio := fun R x K => Aex N k x.1.2.2.2.1 x.1.2.2.2.2.1 x.1.2.2.2.2.2.1 x.1.2.2.2.2.2.2.1 x.1.2.2.2.2.2.2.2.1 x.2.1.1 x.2.1.2.1 x.2.1.2.2.1 x.2.1.2.2.2.1 x.2.1.2.2.2.2.1 x.2.1.2.2.2.2.2.1 x.2.2.1 x.2.2.2.1 (fun y0 y1 y2 => K .ret (Aab Aro (((), (), y0, ()), (y1, y2, ())))) (fun y0 y1 y2 y3 y4 y5 y6 y7 y8 y9 => K (.exit 0) (Aab Arp (((), (), (), y0, y1, ()), ((y2, y3, y4, y5, y6, y7, ()), y8, y9, ()))))
noncomputable def A2t (N k : Nat) : Aap Aio := A2s @Aex N k
noncomputable def A62 : Aac := ⟨[(0, .agg [(.val .str), (.val z2), (.val z3), (.val z1), (.val (.int .i64)), (.val (.int .i64))])], []⟩
noncomputable def Aut : Aac := ⟨[(0, .one (.slf 32)), (1, .one (.slf 33)), (2, .one (.val .bool))], [(32, .row 3 (.int .i64)), (33, .row 3 (.int .i64))]⟩
@[reducible] def Bzm (R : Type) : Type := (List UInt8) → d4 → d3 → d1 → Int → Int → (Bool → d0 → d0 → Option R) → Option R
@[reducible] def Aic : Type 1 := {R : Type} → Nat → Bzm R
noncomputable def A63 (Aex : Aus) : Aic := fun {R} N x0 x1 x2 x3 x4 x5 K0 =>
    let v0 := (wi (x5 + (1 : Int))); if (((0 : Int) ≤ v0) ∧ ((v0 ≤ v0) ∧ ((v0 * (8 : Int)) ≤ (70368744177664 : Int)))) then (let v1 := (List.replicate (Int.toNat v0) (0 : Int)); if (((0 : Int) ≤ v0) ∧ ((v0 ≤ v0) ∧ ((v0 * (8 : Int)) ≤ (70368744177664 : Int)))) then (Aex N N 0 0 x2 ((len x2)) 0 x0 x1 x2 x3 x4 x5 v1 v1 (fun y0 y1 y2 => K0 y0 y1 y2) (fun y3 y4 y5 y6 y7 y8 y9 y10 y11 y12 => if ((y3 == y9) = true) then (K0 ((y4 == y10)) y11 y12) else (K0 false y11 y12))) else none) else none
noncomputable def Ab1 : Aic := @A63 @Aex
noncomputable def Cfs (N : Nat) : Abl A62 [Aut] := fun R x C => Ab1 N x.1.1.1 x.1.1.2.1 x.1.1.2.2.1 x.1.1.2.2.2.1 x.1.1.2.2.2.2.1 x.1.1.2.2.2.2.2.1 (fun y0 y1 y2 => C.1 (((), (), y0, ()), (y1, y2, ())))
noncomputable def Anb (Ab1 : Aic) (N : Nat) : Go.AX.Aai := Ack [true] [] false 1 0 A62 [Aut] (fun R x C => Ab1 N x.1.1.1 x.1.1.2.1 x.1.1.2.2.1 x.1.1.2.2.2.1 x.1.1.2.2.2.2.1 x.1.1.2.2.2.2.2.1 (fun y0 y1 y2 => C.1 (((), (), y0, ()), (y1, y2, ()))))
noncomputable def A64 (N : Nat) : Go.AX.Aai := Anb @Ab1 N
noncomputable def Cft (N : Nat) : List (Nat × Acn) := [(9, Aaa Aio (A2t N N))]
noncomputable def Bzn (N : Nat) : List (Nat × Go.AX.Aai) := []
noncomputable def Agf : Code := Go.Proofs.Try.f108.body.getD .skip
noncomputable def Ag5 : Aac := ⟨[(0, .one (.val z3)), (3, .one (.val (.int .i64))), (28, .one (.val (.int .i64))), (29, .one (.val (.int .i64)))], []⟩
noncomputable def Arq : Aac := ⟨[(2, .one (.val .bool))], []⟩
noncomputable def Arr : Aac := ⟨[(0, .one (.val z3)), (3, .one (.val (.int .i64)))], []⟩
noncomputable def Bd6 : Acj := .cons .ret Arq (.cons (.exit 3) Arr (.nil))
@[reducible] def A2u (R : Type) : Type := d3 → Int → Int → Int → (Bool → Option R) → (d3 → Int → Option R) → Option R
@[reducible] def Bd7 (R : Type) : Type := d3 → Int → Int → Int → Option R
@[reducible] def Anc : Type 1 := {R : Type} → Nat → Nat → A2u R
noncomputable def Auu {R : Type} (N : Nat) (rc : Bd7 R) : A2u R := fun x0 x1 x2 x3 K0 K1 =>
    if ((decide ((x3 < x2))) = true) then (let v0 := (wi ((wi (x1 + (1 : Int))) + x3)); if ((decide ((v0 ≥ (len x0)))) = true) then (K0 false) else (if (((0 : Int) ≤ v0) ∧ (v0 < (len x0))) then (if (((List.getD x0 (Int.toNat v0) ((0 : Int), ((0 : Int), (0 : Int)))).1 != (30 : Int)) = true) then (K0 false) else (rc x0 x1 x2 ((wi (x3 + (1 : Int)))))) else none)) else (K1 x0 x1)
noncomputable def Acx {R : Type} (N : Nat) : Nat → A2u R
  | 0 => fun _ _ _ _ _ _ => none
  | k + 1 => fun x0 x1 x2 x3 K0 K1 => Auu N (fun x0 x1 x2 x3 => Acx N k x0 x1 x2 x3 K0 K1) x0 x1 x2 x3 K0 K1
noncomputable def Ap1 (Acx : Anc) (N k : Nat) : Aap Ag5 := fun R x K => Acx N k x.1.1 x.1.2.1 x.1.2.2.1 x.1.2.2.2.1 (fun y0 => K .ret (Aab Arq ((y0, ()), (())))) (fun y0 y1 => K (.exit 3) (Aab Arr ((y0, y1, ()), (()))))
noncomputable def A2v (N k : Nat) : Aap Ag5 := Ap1 @Acx N k
noncomputable def Ayi : Code := Go.Proofs.Try.f113.body.getD .skip
noncomputable def Amf : Aac := ⟨[(0, .one (.val z3)), (1, .one (.val (.int .i64))), (9, .one (.val (.int .i64))), (10, .one (.val .bool))], []⟩
noncomputable def A0v : Aac := ⟨[(4, .one (.val .bool))], []⟩
noncomputable def A0w : Aac := ⟨[], []⟩
noncomputable def Bgo : Acj := .cons .ret A0v (.cons .normal A0w (.nil))
@[reducible] def Bwz (R : Type) : Type := d3 → Int → Int → Bool → (Bool → Option R) → (Option R) → Option R
@[reducible] def Ars : Type 1 := {R : Type} → Nat → Bwz R
noncomputable def Ae2 : Ars := fun {R} N x0 x1 x2 x3 K0 K1 =>
    if (x3 = true) then (K0 true) else (if ((x2 == (29 : Int)) = true) then (if (((0 : Int) ≤ x1) ∧ (x1 < (len x0))) then (K0 (((List.getD x0 (Int.toNat x1) ((0 : Int), ((0 : Int), (0 : Int)))).2.2 == (0 : Int)))) else none) else (if ((x2 == (30 : Int)) = true) then (let v0 := (wi (x1 + (1 : Int))); if ((v0 == (len x0)) = true) then (K0 true) else (if (((0 : Int) ≤ v0) ∧ (v0 < (len x0))) then (K0 (((List.getD x0 (Int.toNat v0) ((0 : Int), ((0 : Int), (0 : Int)))).1 != (30 : Int)))) else none)) else K1))
noncomputable def A4o (Ae2 : Ars) (N : Nat) : Aap Amf := fun R x K => Ae2 N x.1.1 x.1.2.1 x.1.2.2.1 x.1.2.2.2.1 (fun y0 => K .ret (Aab A0v ((y0, ()), (())))) (K .normal (Aab A0w ((()), (()))))
noncomputable def Bgp (N : Nat) : Aap Amf := A4o @Ae2 N
noncomputable def Bd8 : Aac := ⟨[(0, .one (.val z3)), (1, .one (.val (.int .i64)))], []⟩
noncomputable def Az6 : Aac := ⟨[(0, .one (.val .bool))], []⟩
@[reducible] def B6w (R : Type) : Type := d3 → Int → (Bool → Option R) → Option R
@[reducible] def Aj3 : Type 1 := {R : Type} → Nat → B6w R
noncomputable def Bd9 (Ae2 : Ars) : Aj3 := fun {R} N x0 x1 K0 =>
    if (((0 : Int) ≤ x1) ∧ (x1 < (len x0))) then (let v0 := (List.getD x0 (Int.toNat x1) ((0 : Int), ((0 : Int), (0 : Int)))).1; if ((v0 == (20 : Int)) = true) then (Ae2 N x0 x1 v0 ((v0 == (20 : Int))) (fun y0 => K0 y0) (K0 false)) else (if ((v0 == (25 : Int)) = true) then (Ae2 N x0 x1 v0 ((v0 == (25 : Int))) (fun y1 => K0 y1) (K0 false)) else (if ((v0 == (26 : Int)) = true) then (Ae2 N x0 x1 v0 ((v0 == (26 : Int))) (fun y2 => K0 y2) (K0 false)) else (Ae2 N x0 x1 v0 ((v0 == (27 : Int))) (fun y3 => K0 y3) (K0 false))))) else none
noncomputable def Abz : Aj3 := @Bd9 @Ae2
noncomputable def Chn (N : Nat) : Abl Bd8 [Az6] := fun R x C => Abz N x.1.1 x.1.2.1 (fun y0 => C.1 ((y0, ()), (())))
noncomputable def Ap2 (Abz : Aj3) (N : Nat) : Go.AX.Aai := Ack [true, true] [] false 2 0 Bd8 [Az6] (fun R x C => Abz N x.1.1 x.1.2.1 (fun y0 => C.1 ((y0, ()), (()))))
noncomputable def Bea (N : Nat) : Go.AX.Aai := Ap2 @Abz N
noncomputable def Cho (N : Nat) : List (Nat × Acn) := [(12, Aaa Amf (Bgp N))]
noncomputable def B6x (N : Nat) : List (Nat × Go.AX.Aai) := []
noncomputable def Aip : Aac := ⟨[(0, .one (.val z3)), (3, .one (.val (.int .i64))), (4, .one (.val .bool))], []⟩
noncomputable def Ayj : Aac := ⟨[(2, .one (.val .bool))], []⟩
noncomputable def Ayk : Aac := ⟨[(0, .one (.val z3)), (3, .one (.val (.int .i64)))], []⟩
noncomputable def Beb : Acj := .cons .ret Ayj (.cons .normal Ayk (.nil))
@[reducible] def Btv (R : Type) : Type := d3 → Int → Bool → (Bool → Option R) → (d3 → Int → Option R) → Option R
@[reducible] def Aj4 : Type 1 := {R : Type} → Nat → Btv R
noncomputable def A2w (Abz : Aj3) : Aj4 := fun {R} N x0 x1 x2 K0 K1 =>
    if (x2 = true) then (Abz N x0 x1 (fun y0 => if ((!y0) = true) then (K0 false) else (K1 x0 x1))) else (let v0 := (wi (x1 + (1 : Int))); if (((0 : Int) ≤ v0) ∧ (v0 < (len x0))) then (if (((List.getD x0 (Int.toNat v0) ((0 : Int), ((0 : Int), (0 : Int)))).1 == (24 : Int)) = true) then (Abz N x0 x1 (fun y1 => if ((!y1) = true) then (K0 false) else (K1 x0 x1))) else (K1 x0 x1)) else none)
noncomputable def Abq : Aj4 := @A2w @Abz
noncomputable def Ap3 (Abq : Aj4) (N : Nat) : Aap Aip := fun R x K => Abq N x.1.1 x.1.2.1 x.1.2.2.1 (fun y0 => K .ret (Aab Ayj ((y0, ()), (())))) (fun y0 y1 => K .normal (Aab Ayk ((y0, y1, ()), (()))))
noncomputable def Bec (N : Nat) : Aap Aip := Ap3 @Abq N
noncomputable def Ahp : Aac := ⟨[(0, .one (.val z3)), (3, .one (.val (.int .i64)))], []⟩
noncomputable def As3 : Aac := ⟨[(2, .one (.val .bool))], []⟩
noncomputable def As4 : Aac := ⟨[(0, .one (.val z3))], []⟩
noncomputable def Bgq : Acj := .cons .ret As3 (.cons (.exit 0) As4 (.nil))
@[reducible] def A4p (R : Type) : Type := d3 → Int → (Bool → Option R) → (d3 → Option R) → Option R
@[reducible] def Bgr (R : Type) : Type := d3 → Int → Option R
@[reducible] def Aoi : Type 1 := {R : Type} → Nat → Nat → A4p R
noncomputable def A4q (Acx : Anc) (Abq : Aj4) {R : Type} (N : Nat) (rc : Bgr R) : A4p R := fun x0 x1 K0 K1 =>
    if ((decide ((x1 < (len x0)))) = true) then (let v0 := (wi (x1 + (1 : Int))); if (((0 : Int) ≤ x1) ∧ (x1 < (len x0))) then (let v1 := (List.getD x0 (Int.toNat x1) ((0 : Int), ((0 : Int), (0 : Int)))).1; if ((v1 == (29 : Int)) = true) then (if (((0 : Int) ≤ x1) ∧ (x1 < (len x0))) then (Acx N N x0 x1 ((List.getD x0 (Int.toNat x1) ((0 : Int), ((0 : Int), (0 : Int)))).2.2) 0 (fun y0 => K0 y0) (fun y1 y2 => if (((0 : Int) ≤ y2) ∧ (y2 < (len y1))) then (let v2 := (wi (y2 + (List.getD y1 (Int.toNat y2) ((0 : Int), ((0 : Int), (0 : Int)))).2.2)); let v3 := (wi (v2 + (1 : Int))); if ((!(v3 == (len y1))) = true) then (if (((0 : Int) ≤ v3) ∧ (v3 < (len y1))) then (if (((List.getD y1 (Int.toNat v3) ((0 : Int), ((0 : Int), (0 : Int)))).1 == (30 : Int)) = true) then (K0 false) else (Abq N y1 v2 ((v3 == (len y1))) (fun y3 => K0 y3) (fun y4 y5 => rc y4 ((wi (y5 + (1 : Int))))))) else none) else (Abq N y1 v2 ((v3 == (len y1))) (fun y6 => K0 y6) (fun y7 y8 => rc y7 ((wi (y8 + (1 : Int))))))) else none)) else none) else (if ((v1 == (30 : Int)) = true) then (K0 false) else (if ((v1 == (19 : Int)) = true) then (if ((v0 == (len x0)) = true) then (K0 false) else (if (((0 : Int) ≤ v0) ∧ (v0 < (len x0))) then (let v4 := (List.getD x0 (Int.toNat v0) ((0 : Int), ((0 : Int), (0 : Int)))).1; if ((v4 != (18 : Int)) = true) then (if (((0 : Int) ≤ v0) ∧ (v0 < (len x0))) then (if ((v4 != (28 : Int)) = true) then (if (((0 : Int) ≤ v0) ∧ (v0 < (len x0))) then (if ((v4 != (19 : Int)) = true) then (K0 false) else (Abq N x0 x1 ((v0 == (len x0))) (fun y9 => K0 y9) (fun y10 y11 => rc y10 ((wi (y11 + (1 : Int))))))) else none) else (Abq N x0 x1 ((v0 == (len x0))) (fun y12 => K0 y12) (fun y13 y14 => rc y13 ((wi (y14 + (1 : Int))))))) else none) else (Abq N x0 x1 ((v0 == (len x0))) (fun y15 => K0 y15) (fun y16 y17 => rc y16 ((wi (y17 + (1 : Int))))))) else none)) else (Abq N x0 x1 ((v0 == (len x0))) (fun y18 => K0 y18) (fun y19 y20 => rc y19 ((wi (y20 + (1 : Int))))))))) else none) else (K1 x0)
noncomputable def Acq {R : Type} (N : Nat) : Nat → A4p R
  | 0 => fun _ _ _ _ => none
  | k + 1 => fun x0 x1 K0 K1 => A4q @Acx @Abq N (fun x0 x1 => Acq N k x0 x1 K0 K1) x0 x1 K0 K1
noncomputable def Art (Acq : Aoi) (N k : Nat) : Aap Ahp := fun R x K => Acq N k x.1.1 x.1.2.1 (fun y0 => K .ret (Aab As3 ((y0, ()), (())))) (fun y0 => K (.exit 0) (Aab As4 ((y0, ()), (()))))
noncomputable def A4r (N k : Nat) : Aap Ahp := Art @Acq N k
noncomputable def Bah : Aac := ⟨[(0, .one (.val z3))], []⟩
noncomputable def Aw9 : Aac := ⟨[(0, .one (.val .bool))], []⟩
@[reducible] def B3a (R : Type) : Type := d3 → (Bool → Option R) → Option R
@[reducible] def Amv : Type 1 := {R : Type} → Nat → B3a R
noncomputable def Bai (Acq : Aoi) : Amv := fun {R} N x0 K0 =>
    Acq N N x0 0 (fun y0 => K0 y0) (fun y1 => if (((len y1) == (0 : Int)) = true) then (K0 true) else (if (((0 : Int) ≤ (0 : Int)) ∧ ((0 : Int) < (len y1))) then (K0 (((List.getD y1 (0 : Nat) ((0 : Int), ((0 : Int), (0 : Int)))).1 == (24 : Int)))) else none))
noncomputable def Aeo : Amv := @Bai @Acq
noncomputable def Cgb (N : Nat) : Abl Bah [Aw9] := fun R x C => Aeo N x.1.1 (fun y0 => C.1 ((y0, ()), (())))
noncomputable def Av4 (Aeo : Amv) (N : Nat) : Go.AX.Aai := Ack [true] [] false 1 0 Bah [Aw9] (fun R x C => Aeo N x.1.1 (fun y0 => C.1 ((y0, ()), (()))))
noncomputable def Bmi (N : Nat) : Go.AX.Aai := Av4 @Aeo N
noncomputable def Cgc (N : Nat) : List (Nat × Acn) := [(17, Aaa Ag5 (A2v N N)), (44, Aaa Aip (Bec N)), (5, Aaa Ahp (A4r N N))]
noncomputable def B3b (N : Nat) : List (Nat × Go.AX.Aai) := [(113, Bea N)]
noncomputable def Ah9 : Code := Go.Proofs.Try.f109.body.getD .skip
noncomputable def Asz : Code := Go.Proofs.Try.f120.body.getD .skip
noncomputable def Agg : Code := Go.Proofs.Try.f124.body.getD .skip
noncomputable def Bgs : Code := Go.Proofs.Try.f121.body.getD .skip
noncomputable def A4s : Aac := ⟨[(0, .one (.val (.int .i64)))], []⟩
noncomputable def As5 : Aac := ⟨[(0, .one (.val .bool))], []⟩
@[reducible] def Bw0 (R : Type) : Type := Int → (Bool → Option R) → Option R
@[reducible] def Aoj : Type 1 := {R : Type} → Nat → Bw0 R
noncomputable def A4t (Ae3 : Aoa) : Aoj := fun {R} N x0 K0 =>
    Ae3 N x0 (fun y0 => K0 ((!y0)))
noncomputable def Afk : Aoj := @A4t @Ae3
noncomputable def Cew (N : Nat) : Abl A4s [As5] := fun R x C => Afk N x.1.1 (fun y0 => C.1 ((y0, ()), (())))
noncomputable def A4u (Afk : Aoj) (N : Nat) : Go.AX.Aai := Ack [true] [] false 1 0 A4s [As5] (fun R x C => Afk N x.1.1 (fun y0 => C.1 ((y0, ()), (()))))
noncomputable def Bgt (N : Nat) : Go.AX.Aai := A4u @Afk N
noncomputable def Cex (N : Nat) : List (Nat × Acn) := []
noncomputable def Bw1 (N : Nat) : List (Nat × Go.AX.Aai) := [(118, Bd1 N)]
noncomputable def Ad8 : Aac := ⟨[(0, .one (.val (.list (.int .i64)))), (1, .one (.fn 121)), (7, .one (.val (.int .i64))), (8, .one (.val (.int .i64)))], []⟩
noncomputable def Ajq : Aac := ⟨[(4, .one (.val (.int .i64)))], []⟩
noncomputable def Ajr : Aac := ⟨[], []⟩
noncomputable def Atv : Acj := .cons .ret Ajq (.cons (.exit 0) Ajr (.nil))
@[reducible] def Ane (R : Type) : Type := d0 → Int → Int → (Int → Option R) → (Option R) → Option R
@[reducible] def Atw (R : Type) : Type := d0 → Int → Int → Option R
@[reducible] def Akq : Type 1 := {R : Type} → Nat → Nat → Ane R
noncomputable def Akr (Afk : Aoj) {R : Type} (N : Nat) (rc : Atw R) : Ane R := fun x0 x1 x2 K0 K1 =>
    if ((decide ((x2 < x1))) = true) then (if (((0 : Int) ≤ x2) ∧ (x2 < (len x0))) then (Afk N ((List.getD x0 (Int.toNat x2) (0 : Int))) (fun y0 => if (y0 = true) then (K0 x2) else (rc x0 x1 ((wi (x2 + (1 : Int))))))) else none) else K1
noncomputable def Aa9 {R : Type} (N : Nat) : Nat → Ane R
  | 0 => fun _ _ _ _ _ => none
  | k + 1 => fun x0 x1 x2 K0 K1 => Akr @Afk N (fun x0 x1 x2 => Aa9 N k x0 x1 x2 K0 K1) x0 x1 x2 K0 K1
noncomputable def Anf (Aa9 : Akq) (N k : Nat) : Aap Ad8 := fun R x K => Aa9 N k x.1.1 x.1.2.2.1 x.1.2.2.2.1 (fun y0 => K .ret (Aab Ajq ((y0, ()), (())))) (K (.exit 0) (Aab Ajr ((()), (()))))
noncomputable def Ang (N k : Nat) : Aap Ad8 := Anf @Aa9 N k
noncomputable def Aoy : Aac := ⟨[(0, .one (.val (.list (.int .i64)))), (1, .one (.fn 121))], []⟩
noncomputable def Aks : Aac := ⟨[(0, .one (.val (.int .i64)))], []⟩
@[reducible] def Baj (R : Type) : Type := d0 → (Int → Option R) → Option R
@[reducible] def Aiz : Type 1 := {R : Type} → Nat → Baj R
noncomputable def Aoz (Aa9 : Akq) : Aiz := fun {R} N x0 K0 =>
    Aa9 N N x0 ((len x0)) 0 (fun y0 => K0 y0) (K0 (-1))
noncomputable def Adj : Aiz := @Aoz @Aa9
noncomputable def B3c (N : Nat) : Abl Aoy [Aks] := fun R x C => Adj N x.1.1 (fun y0 => C.1 ((y0, ()), (())))
noncomputable def Av5 (Adj : Aiz) (N : Nat) : Go.AX.Aai := Ack [true, true] [] false 2 0 Aoy [Aks] (fun R x C => Adj N x.1.1 (fun y0 => C.1 ((y0, ()), (()))))
noncomputable def Av6 (N : Nat) : Go.AX.Aai := Av5 @Adj N
noncomputable def B3d (N : Nat) : List (Nat × Acn) := [(5, Aaa Ad8 (Ang N N))]
noncomputable def Bak (N : Nat) : List (Nat × Go.AX.Aai) := [(121, Bgt N)]
noncomputable def Am3 : Aac := ⟨[(0, .one (.val (.list (.int .i64)))), (1, .one (.fn 121))], []⟩
noncomputable def Ai3 : Aac := ⟨[(0, .one (.val .bool))], []⟩
@[reducible] def A6j (R : Type) : Type := d0 → (Bool → Option R) → Option R
@[reducible] def Afa : Type 1 := {R : Type} → Nat → A6j R
noncomputable def Am4 (Adj : Aiz) : Afa := fun {R} N x0 K0 =>
    Adj N x0 (fun y0 => K0 ((decide ((y0 ≥ (0 : Int))))))
noncomputable def Aa2 : Afa := @Am4 @Adj
noncomputable def By4 (N : Nat) : Abl Am3 [Ai3] := fun R x C => Aa2 N x.1.1 (fun y0 => C.1 ((y0, ()), (())))
noncomputable def Ajz (Aa2 : Afa) (N : Nat) : Go.AX.Aai := Ack [true, true] [] false 2 0 Am3 [Ai3] (fun R x C => Aa2 N x.1.1 (fun y0 => C.1 ((y0, ()), (()))))
noncomputable def As0 (N : Nat) : Go.AX.Aai := Ajz @Aa2 N
noncomputable def By5 (N : Nat) : List (Nat × Acn) := []
noncomputable def A6k (N : Nat) : List (Nat × Go.AX.Aai) := [(124, Av6 N)]
noncomputable def Aik : Aac := ⟨[(1, .one (.ptr 32)), (11, .one (.val z2)), (12, .one (.val (.int .i64))), (13, .one (.val (.int .i64)))], [(32, .cells 34 [(.val .str), (.val z2), (.val z3), (.val z1), (.val (.int .i64)), (.val (.int .i64))])]⟩
noncomputable def As6 : Aac := ⟨[(2, .one (.val .bool))], []⟩
noncomputable def As7 : Aac := ⟨[(1, .one (.ptr 32))], [(32, .cells 34 [(.val .str), (.val z2), (.val z3), (.val z1), (.val (.int .i64)), (.val (.int .i64))])]⟩
noncomputable def Bgu : Acj := .cons .ret As6 (.cons (.exit 0) As7 (.nil))
@[reducible] def A4v (R : Type) : Type := d4 → Int → Int → (List UInt8) → d4 → d3 → d1 → Int → Int → (Bool → Option R) → ((List UInt8) → d4 → d3 → d1 → Int → Int → Option R) → Option R
@[reducible] def Bgv (R : Type) : Type := d4 → Int → Int → (List UInt8) → d4 → d3 → d1 → Int → Int → Option R
@[reducible] def Aru : Type 1 := {R : Type} → Nat → Nat → A4v R
noncomputable def Axa (Ac5 : Akl) (Aa2 : Afa) {R : Type} (N : Nat) (rc : Bgv R) : A4v R := fun x0 x1 x2 x3 x4 x5 x6 x7 x8 K0 K1 =>
    if ((decide ((x2 < x1))) = true) then (if (((0 : Int) ≤ x2) ∧ (x2 < (len x0))) then (let v0 := (List.getD x0 (Int.toNat x2) (([] : List UInt8), (false, ([] : List Int)))).1; let v1 := (List.getD x0 (Int.toNat x2) (([] : List UInt8), (false, ([] : List Int)))).2.2; if ((List.getD x0 (Int.toNat x2) (([] : List UInt8), (false, ([] : List Int)))).2.1 = true) then (Ac5 N v0 (fun y0 y1 => if ((y1 != (0 : Int)) = true) then (K0 false) else (if ((decide (((len v1) > (0 : Int)))) = true) then (K0 false) else (rc x0 x1 ((wi (x2 + (1 : Int)))) x3 x4 x5 x6 x7 x8)))) else (if ((!(v0 == ([] : List UInt8))) = true) then (K0 false) else (if (((len v1) == (0 : Int)) = true) then (K0 false) else (Aa2 N v1 (fun y2 => if (y2 = true) then (K0 false) else (rc x0 x1 ((wi (x2 + (1 : Int)))) x3 x4 x5 x6 x7 x8)))))) else none) else (K1 x3 x4 x5 x6 x7 x8)
noncomputable def Ad4 {R : Type} (N : Nat) : Nat → A4v R
  | 0 => fun _ _ _ _ _ _ _ _ _ _ _ => none
  | k + 1 => fun x0 x1 x2 x3 x4 x5 x6 x7 x8 K0 K1 => Axa @Ac5 @Aa2 N (fun x0 x1 x2 x3 x4 x5 x6 x7 x8 => Ad4 N k x0 x1 x2 x3 x4 x5 x6 x7 x8 K0 K1) x0 x1 x2 x3 x4 x5 x6 x7 x8 K0 K1
noncomputable def Axb (Ad4 : Aru) (N k : Nat) : Aap Aik := fun R x K => Ad4 N k x.1.2.1 x.1.2.2.1 x.1.2.2.2.1 x.2.1.1 x.2.1.2.1 x.2.1.2.2.1 x.2.1.2.2.2.1 x.2.1.2.2.2.2.1 x.2.1.2.2.2.2.2.1 (fun y0 => K .ret (Aab As6 ((y0, ()), (())))) (fun y0 y1 y2 y3 y4 y5 => K (.exit 0) (Aab As7 (((), ()), ((y0, y1, y2, y3, y4, y5, ()), ()))))
noncomputable def A4w (N k : Nat) : Aap Aik := Axb @Ad4 N k
noncomputable def Ah3 : Aac := ⟨[(1, .one (.ptr 32)), (7, .one (.mp 33)), (50, .one (.val z1)), (51, .one (.val (.int .i64))), (52, .one (.val (.int .i64)))], [(32, .cells 34 [(.val .str), (.val z2), (.val z3), (.val z1), (.val (.int .i64)), (.val (.int .i64))]), (33, .amap 144 (.int .i64) .bool)]⟩
noncomputable def Arv : Aac := ⟨[(2, .one (.val .bool))], []⟩
noncomputable def Arw : Aac := ⟨[], []⟩
noncomputable def Bed : Acj := .cons .ret Arv (.cons (.exit 2) Arw (.nil))
@[reducible] def A2x (R : Type) : Type := d1 → Int → Int → (List UInt8) → d4 → d3 → d1 → Int → Int → (List (Int × Bool)) → (Bool → Option R) → (Option R) → Option R
@[reducible] def Bee (R : Type) : Type := d1 → Int → Int → (List UInt8) → d4 → d3 → d1 → Int → Int → (List (Int × Bool)) → Option R
@[reducible] def Ap4 : Type 1 := {R : Type} → Nat → Nat → A2x R
noncomputable def Auv (Aa6 : Ah5) {R : Type} (N : Nat) (rc : Bee R) : A2x R := fun x0 x1 x2 x3 x4 x5 x6 x7 x8 x9 K0 K1 =>
    if ((decide ((x2 < x1))) = true) then (if (((0 : Int) ≤ x2) ∧ (x2 < (len x0))) then (let v0 := (List.getD x0 (Int.toNat x2) ((0 : Int), (0 : Int))).1; Aa6 N v0 1 199 (fun y0 => if ((!y0) = true) then (K0 false) else (if ((Option.getD (Aov (kt := (.int .i64)) (et := .bool) v0 x9) false) = true) then (K0 false) else (Aa6 N ((List.getD x0 (Int.toNat x2) ((0 : Int), (0 : Int))).2) 1 x7 (fun y1 => if ((!y1) = true) then (K0 false) else (rc x0 x1 ((wi (x2 + (1 : Int)))) x3 x4 x5 x6 x7 x8 ((Asn (kt := (.int .i64)) (et := .bool) v0 true x9)))))))) else none) else K1
noncomputable def Adb {R : Type} (N : Nat) : Nat → A2x R
  | 0 => fun _ _ _ _ _ _ _ _ _ _ _ _ => none
  | k + 1 => fun x0 x1 x2 x3 x4 x5 x6 x7 x8 x9 K0 K1 => Auv @Aa6 N (fun x0 x1 x2 x3 x4 x5 x6 x7 x8 x9 => Adb N k x0 x1 x2 x3 x4 x5 x6 x7 x8 x9 K0 K1) x0 x1 x2 x3 x4 x5 x6 x7 x8 x9 K0 K1
noncomputable def Auw (Adb : Ap4) (N k : Nat) : Aap Ah3 := fun R x K => Adb N k x.1.2.2.1 x.1.2.2.2.1 x.1.2.2.2.2.1 x.2.1.1 x.2.1.2.1 x.2.1.2.2.1 x.2.1.2.2.2.1 x.2.1.2.2.2.2.1 x.2.1.2.2.2.2.2.1 x.2.2.1 (fun y0 => K .ret (Aab Arv ((y0, ()), (())))) (K (.exit 2) (Aab Arw ((()), (()))))
noncomputable def A2y (N k : Nat) : Aap Ah3 := Auw @Adb N k
noncomputable def Bal : Aac := ⟨[(0, .agg [(.val .str), (.val z2), (.val z3), (.val z1), (.val (.int .i64)), (.val (.int .i64))])], []⟩
noncomputable def Axc : Aac := ⟨[(0, .one (.val .bool))], []⟩
@[reducible] def B3e (R : Type) : Type := (List UInt8) → d4 → d3 → d1 → Int → Int → (Bool → Option R) → Option R
@[reducible] def Amw : Type 1 := {R : Type} → Nat → B3e R
noncomputable def Bam (Ad4 : Aru) (Adb : Ap4) : Amw := fun {R} N x0 x1 x2 x3 x4 x5 K0 =>
    Ad4 N N x1 ((len x1)) 0 x0 x1 x2 x3 x4 x5 (fun y0 => K0 y0) (fun y1 y2 y3 y4 y5 y6 => Adb N N y4 ((len y4)) 0 y1 y2 y3 y4 y5 y6 (([] : List (Int × Bool))) (fun y7 => K0 y7) (K0 true))
noncomputable def Aep : Amw := @Bam @Ad4 @Adb
noncomputable def Cgd (N : Nat) : Abl Bal [Axc] := fun R x C => Aep N x.1.1.1 x.1.1.2.1 x.1.1.2.2.1 x.1.1.2.2.2.1 x.1.1.2.2.2.2.1 x.1.1.2.2.2.2.2.1 (fun y0 => C.1 ((y0, ()), (())))
noncomputable def Av7 (Aep : Amw) (N : Nat) : Go.AX.Aai := Ack [true] [] false 1 0 Bal [Axc] (fun R x C => Aep N x.1.1.1 x.1.1.2.1 x.1.1.2.2.1 x.1.1.2.2.2.1 x.1.1.2.2.2.2.1 x.1.1.2.2.2.2.2.1 (fun y0 => C.1 ((y0, ()), (()))))
noncomputable def Bmj (N : Nat) : Go.AX.Aai := Av7 @Aep N
noncomputable def Cge (N : Nat) : List (Nat × Acn) := [(5, Aaa Aik (A4w N N)), (27, Aaa Ah3 (A2y N N))]
noncomputable def B3f (N : Nat) : List (Nat × Go.AX.Aai) := [(104, Big N), (120, As0 N), (119, A4k N)]
noncomputable def Av8 : Code := Go.Proofs.Try.f54.body.getD .skip
noncomputable def Alk : Aac := ⟨[(1, .one (.ptr 32)), (4, .one (.val (.int .i64))), (5, .one (.val .bool))], [(32, .cells 24 [(.val (.int .i64)), (.val (.int .i64)), (.val (.int .i64))])]⟩
noncomputable def Ayl : Aac := ⟨[(2, .one (.val (.int .i64)))], []⟩
noncomputable def Aym : Aac := ⟨[], []⟩
noncomputable def Bef : Acj := .cons .ret Ayl (.cons .normal Aym (.nil))
@[reducible] def Btw (R : Type) : Type := Int → Bool → Int → Int → Int → (Int → Option R) → (Option R) → Option R
@[reducible] def Ap5 : Type 1 := {R : Type} → Nat → Btw R
noncomputable def Ad9 : Ap5 := fun {R} N x0 x1 x2 x3 x4 K0 K1 =>
    if (x1 = true) then (K0 x3) else (if ((x0 == (30 : Int)) = true) then (K0 x4) else K1)
noncomputable def A2z (Ad9 : Ap5) (N : Nat) : Aap Alk := fun R x K => Ad9 N x.1.2.1 x.1.2.2.1 x.2.1.1 x.2.1.2.1 x.2.1.2.2.1 (fun y0 => K .ret (Aab Ayl ((y0, ()), (())))) (K .normal (Aab Aym ((()), (()))))
noncomputable def Beg (N : Nat) : Aap Alk := A2z @Ad9 N
noncomputable def Ban : Aac := ⟨[(0, .agg [(.val (.int .i64)), (.val (.int .i64)), (.val (.int .i64))])], []⟩
noncomputable def Axd : Aac := ⟨[(0, .one (.val (.int .i64)))], []⟩
@[reducible] def B3g (R : Type) : Type := Int → Int → Int → (Int → Option R) → Option R
@[reducible] def Ad5 : Type 1 := {R : Type} → Nat → B3g R
noncomputable def Bao (Ad9 : Ap5) : Ad5 := fun {R} N x0 x1 x2 K0 =>
    if ((x0 == (20 : Int)) = true) then (Ad9 N x0 ((x0 == (20 : Int))) x0 x1 x2 (fun y0 => K0 y0) (K0 0)) else (if ((x0 == (21 : Int)) = true) then (Ad9 N x0 ((x0 == (21 : Int))) x0 x1 x2 (fun y1 => K0 y1) (K0 0)) else (if ((x0 == (22 : Int)) = true) then (Ad9 N x0 ((x0 == (22 : Int))) x0 x1 x2 (fun y2 => K0 y2) (K0 0)) else (if ((x0 == (27 : Int)) = true) then (Ad9 N x0 ((x0 == (27 : Int))) x0 x1 x2 (fun y3 => K0 y3) (K0 0)) else (Ad9 N x0 ((x0 == (29 : Int))) x0 x1 x2 (fun y4 => K0 y4) (K0 0)))))
noncomputable def Aav : Ad5 := @Bao @Ad9
noncomputable def Cgf (N : Nat) : Abl Ban [Axd] := fun R x C => Aav N x.1.1.1 x.1.1.2.1 x.1.1.2.2.1 (fun y0 => C.1 ((y0, ()), (())))
noncomputable def Ag0 (Aav : Ad5) (N : Nat) : Go.AX.Aai := Ack [true] [] false 1 0 Ban [Axd] (fun R x C => Aav N x.1.1.1 x.1.1.2.1 x.1.1.2.2.1 (fun y0 => C.1 ((y0, ()), (()))))
noncomputable def Av9 (N : Nat) : Go.AX.Aai := Ag0 @Aav N
noncomputable def Cgg (N : Nat) : List (Nat × Acn) := [(14, Aaa Alk (Beg N))]
noncomputable def B3h (N : Nat) : List (Nat × Go.AX.Aai) := []
noncomputable def Aiq : Aac := ⟨[(8, .one (.slf 32)), (9, .one (.slf 33)), (11, .one (.val (.int .i64))), (13, .one (.ptr 34)), (80, .one (.val z3)), (81, .one (.val (.int .i64))), (82, .one (.val (.int .i64)))], [(32, .row 3 (.int .i64)), (33, .row 3 (.int .i64)), (34, .cells 24 [(.val (.int .i64)), (.val (.int .i64)), (.val (.int .i64))])]⟩
noncomputable def Ayn : Aac := ⟨[(2, .one (.val .bool))], []⟩
noncomputable def Ayo : Aac := ⟨[(8, .one (.slf 32)), (9, .one (.slf 33)), (11, .one (.val (.int .i64))), (80, .one (.val z3)), (81, .one (.val (.int .i64))), (82, .one (.val (.int .i64)))], [(32, .row 3 (.int .i64)), (33, .row 3 (.int .i64))]⟩
noncomputable def Beh : Acj := .cons .ret Ayn (.cons .normal Ayo (.nil))
@[reducible] def Btx (R : Type) : Type := Int → d3 → Int → Int → d0 → d0 → Int → Int → Int → (Bool → Option R) → (Int → d3 → Int → Int → d0 → d0 → Option R) → Option R
@[reducible] def Aj5 : Type 1 := {R : Type} → Nat → Btx R
noncomputable def A20 (Aav : Ad5) : Aj5 := fun {R} N x0 x1 x2 x3 x4 x5 x6 x7 x8 K0 K1 =>
    Aav N x6 x7 x8 (fun y0 => if ((decide ((y0 > (0 : Int)))) = true) then (if (((0 : Int) ≤ y0) ∧ (y0 < (len x5))) then (if (((List.getD x5 (Int.toNat y0) (0 : Int)) != x0) = true) then (K0 false) else (if (((0 : Int) ≤ y0) ∧ (y0 < (len x4))) then (if (((List.getD x4 (Int.toNat y0) (0 : Int)) == (0 : Int)) = true) then (K0 false) else (K1 x0 x1 x2 x3 x4 x5)) else none)) else none) else (K1 x0 x1 x2 x3 x4 x5))
noncomputable def Adc : Aj5 := @A20 @Aav
noncomputable def Ap6 (Adc : Aj5) (N : Nat) : Aap Aiq := fun R x K => Adc N x.1.2.2.1 x.1.2.2.2.2.1 x.1.2.2.2.2.2.1 x.1.2.2.2.2.2.2.1 x.2.1 x.2.2.1 x.2.2.2.1.1 x.2.2.2.1.2.1 x.2.2.2.1.2.2.1 (fun y0 => K .ret (Aab Ayn ((y0, ()), (())))) (fun y0 y1 y2 y3 y4 y5 => K .normal (Aab Ayo (((), (), y0, y1, y2, y3, ()), (y4, y5, ()))))
noncomputable def Bei (N : Nat) : Aap Aiq := Ap6 @Adc N
noncomputable def Ag6 : Aac := ⟨[(8, .one (.slf 32)), (9, .one (.slf 33)), (11, .one (.val (.int .i64))), (80, .one (.val z3)), (81, .one (.val (.int .i64))), (82, .one (.val (.int .i64)))], [(32, .row 3 (.int .i64)), (33, .row 3 (.int .i64))]⟩
noncomputable def Arx : Aac := ⟨[(2, .one (.val .bool))], []⟩
noncomputable def Ary : Aac := ⟨[], []⟩
noncomputable def Bej : Acj := .cons .ret Arx (.cons (.exit 2) Ary (.nil))
@[reducible] def A21 (R : Type) : Type := Int → d3 → Int → Int → d0 → d0 → (Bool → Option R) → (Option R) → Option R
@[reducible] def Bek (R : Type) : Type := Int → d3 → Int → Int → d0 → d0 → Option R
@[reducible] def Anh : Type 1 := {R : Type} → Nat → Nat → A21 R
noncomputable def A22 (Adc : Aj5) {R : Type} (N : Nat) (rc : Bek R) : A21 R := fun x0 x1 x2 x3 x4 x5 K0 K1 =>
    if ((decide ((x3 < x2))) = true) then (if (((0 : Int) ≤ x3) ∧ (x3 < (len x1))) then (let v0 := (List.getD x1 (Int.toNat x3) ((0 : Int), ((0 : Int), (0 : Int)))).1; let v1 := (List.getD x1 (Int.toNat x3) ((0 : Int), ((0 : Int), (0 : Int)))).2.1; let v2 := (List.getD x1 (Int.toNat x3) ((0 : Int), ((0 : Int), (0 : Int)))).2.2; if ((v0 == (24 : Int)) = true) then (Adc N v1 x1 x2 x3 x4 x5 v0 v1 v2 (fun y0 => K0 y0) (fun y1 y2 y3 y4 y5 y6 => rc y1 y2 y3 ((wi (y4 + (1 : Int)))) y5 y6)) else (Adc N x0 x1 x2 x3 x4 x5 v0 v1 v2 (fun y7 => K0 y7) (fun y8 y9 y10 y11 y12 y13 => rc y8 y9 y10 ((wi (y11 + (1 : Int)))) y12 y13))) else none) else K1
noncomputable def Acy {R : Type} (N : Nat) : Nat → A21 R
  | 0 => fun _ _ _ _ _ _ _ _ => none
  | k + 1 => fun x0 x1 x2 x3 x4 x5 K0 K1 => A22 @Adc N (fun x0 x1 x2 x3 x4 x5 => Acy N k x0 x1 x2 x3 x4 x5 K0 K1) x0 x1 x2 x3 x4 x5 K0 K1
noncomputable def Ap7 (Acy : Anh) (N k : Nat) : Aap Ag6 := fun R x K => Acy N k x.1.2.2.1 x.1.2.2.2.1 x.1.2.2.2.2.1 x.1.2.2.2.2.2.1 x.2.1 x.2.2.1 (fun y0 => K .ret (Aab Arx ((y0, ()), (())))) (K (.exit 2) (Aab Ary ((()), (()))))
noncomputable def A23 (N k : Nat) : Aap Ag6 := Ap7 @Acy N k
noncomputable def Bap : Aac := ⟨[(0, .agg [(.val .str), (.val z2), (.val z3), (.val z1), (.val (.int .i64)), (.val (.int .i64))])], []⟩
noncomputable def Axe : Aac := ⟨[(0, .one (.val .bool))], []⟩
@[reducible] def B3i (R : Type) : Type := (List UInt8) → d4 → d3 → d1 → Int → Int → (Bool → Option R) → Option R
@[reducible] def Awa : Type 1 := {R : Type} → Nat → B3i R
noncomputable def Baq (Ac5 : Akl) (Acr : Akm) (Ac4 : Am9) (Ab1 : Aic) (Aeo : Amv) (Aep : Amw) (Acy : Anh) : Awa := fun {R} N x0 x1 x2 x3 x4 x5 K0 =>
    Ac5 N x0 (fun y0 y1 => if ((y1 != (0 : Int)) = true) then (K0 false) else (if ((decide ((x4 < (0 : Int)))) = true) then (K0 false) else (if ((decide ((x5 < (0 : Int)))) = true) then (K0 false) else (Acr N (fun y2 y3 y4 y5 y6 y7 y8 y9 y10 y11 y12 y13 y14 y15 y16 y17 y18 y19 y20 y21 y22 y23 y24 y25 y26 y27 y28 y29 y30 y31 y32 y33 y34 y35 y36 y37 y38 y39 y40 y41 y42 y43 y44 y45 y46 y47 y48 y49 y50 y51 y52 y53 y54 y55 y56 y57 y58 y59 y60 y61 y62 y63 y64 y65 y66 y67 y68 y69 y70 y71 y72 y73 y74 y75 y76 y77 y78 y79 y80 y81 y82 y83 y84 y85 y86 y87 y88 y89 y90 y91 y92 y93 y94 y95 y96 y97 y98 y99 y100 y101 y102 y103 y104 y105 y106 y107 y108 y109 y110 y111 y112 y113 y114 y115 y116 y117 y118 y119 y120 y121 y122 y123 y124 y125 => Ac4 N N x2 ((len x2)) 0 x0 x1 x2 x3 x4 x5 (((y2, (y3, (y4, y5))) :: ((y6, (y7, (y8, y9))) :: ((y10, (y11, (y12, y13))) :: ((y14, (y15, (y16, y17))) :: ((y18, (y19, (y20, y21))) :: ((y22, (y23, (y24, y25))) :: ((y26, (y27, (y28, y29))) :: ((y30, (y31, (y32, y33))) :: ((y34, (y35, (y36, y37))) :: ((y38, (y39, (y40, y41))) :: ((y42, (y43, (y44, y45))) :: ((y46, (y47, (y48, y49))) :: ((y50, (y51, (y52, y53))) :: ((y54, (y55, (y56, y57))) :: ((y58, (y59, (y60, y61))) :: ((y62, (y63, (y64, y65))) :: ((y66, (y67, (y68, y69))) :: ((y70, (y71, (y72, y73))) :: ((y74, (y75, (y76, y77))) :: ((y78, (y79, (y80, y81))) :: ((y82, (y83, (y84, y85))) :: ((y86, (y87, (y88, y89))) :: ((y90, (y91, (y92, y93))) :: ((y94, (y95, (y96, y97))) :: ((y98, (y99, (y100, y101))) :: ((y102, (y103, (y104, y105))) :: ((y106, (y107, (y108, y109))) :: ((y110, (y111, (y112, y113))) :: ((y114, (y115, (y116, y117))) :: ((y118, (y119, (y120, y121))) :: ((y122, (y123, (y124, y125))) :: ([] : List (List UInt8 × Int × Int × Int)))))))))))))))))))))))))))))))))) (fun y126 => K0 y126) (fun y127 y128 y129 y130 y131 y132 => Ab1 N y127 y128 y129 y130 y131 y132 (fun y133 y134 y135 => if ((!y133) = true) then (K0 false) else (Aeo N y129 (fun y136 => if ((!y136) = true) then (K0 false) else (Aep N y127 y128 y129 y130 y131 y132 (fun y137 => if ((!y137) = true) then (K0 false) else (Acy N N 0 y129 ((len y129)) 0 y134 y135 (fun y138 => K0 y138) (K0 true)))))))))))))
noncomputable def Ai8 : Awa := @Baq @Ac5 @Acr @Ac4 @Ab1 @Aeo @Aep @Acy
noncomputable def Cgh (N : Nat) : Abl Bap [Axe] := fun R x C => Ai8 N x.1.1.1 x.1.1.2.1 x.1.1.2.2.1 x.1.1.2.2.2.1 x.1.1.2.2.2.2.1 x.1.1.2.2.2.2.2.1 (fun y0 => C.1 ((y0, ()), (())))
noncomputable def Bmk (Ai8 : Awa) (N : Nat) : Go.AX.Aai := Ack [true] [] false 1 0 Bap [Axe] (fun R x C => Ai8 N x.1.1.1 x.1.1.2.1 x.1.1.2.2.1 x.1.1.2.2.2.1 x.1.1.2.2.2.2.1 x.1.1.2.2.2.2.2.1 (fun y0 => C.1 ((y0, ()), (()))))
noncomputable def Bml (N : Nat) : Go.AX.Aai := Bmk @Ai8 N
noncomputable def Cgi (N : Nat) : List (Nat × Acn) := [(13, Aaa Ag4 (A2p N N)), (40, Aaa Aiq (Bei N)), (33, Aaa Ag6 (A23 N N))]
noncomputable def B3j (N : Nat) : List (Nat × Go.AX.Aai) := [(104, Big N), (105, Bag N), (106, Bgn N), (107, A64 N), (108, Bmi N), (109, Bmj N), (54, Av9 N)]
noncomputable def Amg : Code := Go.Proofs.Try.f89.body.getD .skip
noncomputable def Aob : Code := Go.Proofs.Try.f110.body.getD .skip
noncomputable def Alx : Aac := ⟨[(1, .one (.val (.int .i64))), (3, .one (.val .bool)), (4, .one (.ptr 32)), (6, .one (.ptr 33)), (10, .one (.val (.int .i64))), (11, .one (.val .bool))], [(32, .cells 24 [(.val (.int .i64)), (.val (.int .i64)), (.val (.int .i64))]), (33, .cells 132 [(.val .str), (.val (.int .i64)), (.val (.int .i64)), (.val (.int .i64))])]⟩
noncomputable def A24 : Aac := ⟨[(8, .one (.val .bool))], []⟩
noncomputable def A25 : Aac := ⟨[(1, .one (.val (.int .i64))), (4, .one (.ptr 32)), (6, .one (.ptr 33))], [(32, .cells 24 [(.val (.int .i64)), (.val (.int .i64)), (.val (.int .i64))]), (33, .cells 132 [(.val .str), (.val (.int .i64)), (.val (.int .i64)), (.val (.int .i64))])]⟩
noncomputable def Bjb : Acj := .cons .ret A24 (.cons .normal A25 (.nil))
@[reducible] def Bzo (R : Type) : Type := Int → Bool → Int → Bool → Int → Int → Int → (List UInt8) → Int → Int → Int → (Bool → Option R) → (Int → Int → Int → Int → (List UInt8) → Int → Int → Int → Option R) → Option R
@[reducible] def Ani : Type 1 := {R : Type} → Nat → Bzo R
noncomputable def A65 (Aa6 : Ah5) : Ani := fun {R} N x0 x1 x2 x3 x4 x5 x6 x7 x8 x9 x10 K0 K1 =>
    if (x3 = true) then (Aa6 N x5 2 ((wi (x0 - (1 : Int)))) (fun y0 => if ((!y0) = true) then (K0 false) else (K1 x0 x4 x5 x6 x7 x8 x9 x10))) else (if ((x2 == (4 : Int)) = true) then (if ((decide ((x5 < (2 : Int)))) = true) then (K0 false) else (K1 x0 x4 x5 x6 x7 x8 x9 x10)) else (if ((x2 == (23 : Int)) = true) then (Aa6 N x5 2 ((wi (x0 - (3 : Int)))) (fun y1 => if ((!y1) = true) then (K0 false) else (K1 x0 x4 x5 x6 x7 x8 x9 x10))) else (if ((x2 == (18 : Int)) = true) then (if ((!x1) = true) then (if ((decide ((x5 > (wi ((wi (x0 + (2000 : Int))) + (2 : Int)))))) = true) then (K0 false) else (K1 x0 x4 x5 x6 x7 x8 x9 x10)) else (K1 x0 x4 x5 x6 x7 x8 x9 x10)) else (K1 x0 x4 x5 x6 x7 x8 x9 x10))))
noncomputable def Afh : Ani := @A65 @Aa6
noncomputable def Az7 (Afh : Ani) (N : Nat) : Aap Alx := fun R x K => Afh N x.1.1 x.1.2.1 x.1.2.2.2.2.1 x.1.2.2.2.2.2.1 x.2.1.1 x.2.1.2.1 x.2.1.2.2.1 x.2.2.1.1 x.2.2.1.2.1 x.2.2.1.2.2.1 x.2.2.1.2.2.2.1 (fun y0 => K .ret (Aab A24 ((y0, ()), (())))) (fun y0 y1 y2 y3 y4 y5 y6 y7 => K .normal (Aab A25 ((y0, (), (), ()), ((y1, y2, y3, ()), (y4, y5, y6, y7, ()), ()))))
noncomputable def Bjc (N : Nat) : Aap Alx := Az7 @Afh N
noncomputable def Alc : Aac := ⟨[(1, .one (.val (.int .i64))), (4, .one (.ptr 32)), (6, .one (.ptr 33))], [(32, .cells 24 [(.val (.int .i64)), (.val (.int .i64)), (.val (.int .i64))]), (33, .cells 132 [(.val .str), (.val (.int .i64)), (.val (.int .i64)), (.val (.int .i64))])]⟩
noncomputable def A0x : Aac := ⟨[(8, .one (.val .bool))], []⟩
noncomputable def Bgw : Acj := .cons .ret A0x (.nil)
@[reducible] def Bw2 (R : Type) : Type := Int → Int → Int → Int → (List UInt8) → Int → Int → Int → (Bool → Option R) → Option R
@[reducible] def Aok : Type 1 := {R : Type} → Nat → Bw2 R
noncomputable def Aet : Aok := fun {R} N x0 x1 x2 x3 x4 x5 x6 x7 K0 =>
    if ((x1 == (24 : Int)) = true) then (K0 true) else (K0 ((decide (((wi (x0 - x6)) ≥ (2 : Int))))))
noncomputable def Axf (Aet : Aok) (N : Nat) : Aap Alc := fun R x K => Aet N x.1.1 x.2.1.1 x.2.1.2.1 x.2.1.2.2.1 x.2.2.1.1 x.2.2.1.2.1 x.2.2.1.2.2.1 x.2.2.1.2.2.2.1 (fun y0 => K .ret (Aab A0x ((y0, ()), (()))))
noncomputable def Bgx (N : Nat) : Aap Alc := Axf @Aet N
noncomputable def Bel : Aac := ⟨[(0, .agg [(.val (.int .i64)), (.val (.int .i64)), (.val (.int .i64))]), (1, .one (.val (.int .i64))), (2, .agg [(.val .str), (.val (.int .i64)), (.val (.int .i64)), (.val (.int .i64))]), (3, .one (.val .bool))], []⟩
noncomputable def Az8 : Aac := ⟨[(0, .one (.val .bool))], []⟩
@[reducible] def B6y (R : Type) : Type := Int → Int → Int → Int → (List UInt8) → Int → Int → Int → Bool → (Bool → Option R) → Option R
@[reducible] def Atx : Type 1 := {R : Type} → Nat → B6y R
noncomputable def Bem (Afh : Ani) (Aet : Aok) : Atx := fun {R} N x0 x1 x2 x3 x4 x5 x6 x7 x8 K0 =>
    if ((x0 == (2 : Int)) = true) then (Afh N x3 x8 x0 ((x0 == (2 : Int))) x0 x1 x2 x4 x5 x6 x7 (fun y0 => K0 y0) (fun y1 y2 y3 y4 y5 y6 y7 y8 => Aet N y1 y2 y3 y4 y5 y6 y7 y8 (fun y9 => K0 y9))) else (Afh N x3 x8 x0 ((x0 == (3 : Int))) x0 x1 x2 x4 x5 x6 x7 (fun y10 => K0 y10) (fun y11 y12 y13 y14 y15 y16 y17 y18 => Aet N y11 y12 y13 y14 y15 y16 y17 y18 (fun y19 => K0 y19)))
noncomputable def Af6 : Atx := @Bem @Afh @Aet
noncomputable def Chp (N : Nat) : Abl Bel [Az8] := fun R x C => Af6 N x.1.1.1 x.1.1.2.1 x.1.1.2.2.1 x.1.2.1 x.1.2.2.1.1 x.1.2.2.1.2.1 x.1.2.2.1.2.2.1 x.1.2.2.1.2.2.2.1 x.1.2.2.2.1 (fun y0 => C.1 ((y0, ()), (())))
noncomputable def Ben (Af6 : Atx) (N : Nat) : Go.AX.Aai := Ack [true, true, true, true] [] false 4 0 Bel [Az8] (fun R x C => Af6 N x.1.1.1 x.1.1.2.1 x.1.1.2.2.1 x.1.2.1 x.1.2.2.1.1 x.1.2.2.1.2.1 x.1.2.2.1.2.2.1 x.1.2.2.1.2.2.2.1 x.1.2.2.2.1 (fun y0 => C.1 ((y0, ()), (()))))
noncomputable def Bo4 (N : Nat) : Go.AX.Aai := Ben @Af6 N
noncomputable def Chq (N : Nat) : List (Nat × Acn) := [(8, Aaa Alx (Bjc N)), (30, Aaa Alc (Bgx N))]
noncomputable def B6z (N : Nat) : List (Nat × Go.AX.Aai) := [(119, A4k N)]
noncomputable def Amx : Code := Go.Proofs.Try.f111.body.getD .skip
noncomputable def Aj6 : Aac := ⟨[(3, .one (.ptr 32))], [(32, .cells 24 [(.val (.int .i64)), (.val (.int .i64)), (.val (.int .i64))])]⟩
noncomputable def Ayp : Aac := ⟨[(6, .one (.val (.int .i64)))], []⟩
noncomputable def Beo : Acj := .cons .ret Ayp (.nil)
@[reducible] def Bty (R : Type) : Type := Int → Int → Int → (Int → Option R) → Option R
@[reducible] def Anj : Type 1 := {R : Type} → Nat → Bty R
noncomputable def Aea : Anj := fun {R} N x0 x1 x2 K0 =>
    K0 ((wi (x1 + (1 : Int))))
noncomputable def Aux (Aea : Anj) (N : Nat) : Aap Aj6 := fun R x K => Aea N x.2.1.1 x.2.1.2.1 x.2.1.2.2.1 (fun y0 => K .ret (Aab Ayp ((y0, ()), (()))))
noncomputable def Bep (N : Nat) : Aap Aj6 := Aux @Aea N
noncomputable def Aj7 : Aac := ⟨[(1, .one (.val (.int .i64))), (5, .one (.ptr 32))], [(32, .cells 132 [(.val .str), (.val (.int .i64)), (.val (.int .i64)), (.val (.int .i64))])]⟩
noncomputable def Ayq : Aac := ⟨[(6, .one (.val (.int .i64)))], []⟩
noncomputable def Beq : Acj := .cons .ret Ayq (.nil)
@[reducible] def Btz (R : Type) : Type := Int → (List UInt8) → Int → Int → Int → (Int → Option R) → Option R
@[reducible] def Ank : Type 1 := {R : Type} → Nat → Btz R
noncomputable def Aem : Ank := fun {R} N x0 x1 x2 x3 x4 K0 =>
    K0 ((wi ((wi (x0 - x3)) + x4)))
noncomputable def Auy (Aem : Ank) (N : Nat) : Aap Aj7 := fun R x K => Aem N x.1.1 x.2.1.1 x.2.1.2.1 x.2.1.2.2.1 x.2.1.2.2.2.1 (fun y0 => K .ret (Aab Ayq ((y0, ()), (()))))
noncomputable def Ber (N : Nat) : Aap Aj7 := Auy @Aem N
noncomputable def Bar : Aac := ⟨[(0, .agg [(.val (.int .i64)), (.val (.int .i64)), (.val (.int .i64))]), (1, .one (.val (.int .i64))), (2, .agg [(.val .str), (.val (.int .i64)), (.val (.int .i64)), (.val (.int .i64))])], []⟩
noncomputable def Axg : Aac := ⟨[(0, .one (.val (.int .i64)))], []⟩
@[reducible] def B3k (R : Type) : Type := Int → Int → Int → Int → (List UInt8) → Int → Int → Int → (Int → Option R) → Option R
@[reducible] def Aq6 : Type 1 := {R : Type} → Nat → B3k R
noncomputable def Bas (Aea : Anj) (Aem : Ank) : Aq6 := fun {R} N x0 x1 x2 x3 x4 x5 x6 x7 K0 =>
    if ((x0 == (18 : Int)) = true) then (K0 x1) else (if ((x0 == (24 : Int)) = true) then (K0 ((wi ((2 : Int) + x2)))) else (if ((x0 == (23 : Int)) = true) then (Aea N x0 x1 x2 (fun y0 => K0 y0)) else (if ((x0 == (28 : Int)) = true) then (Aea N x0 x1 x2 (fun y1 => K0 y1)) else (Aem N x3 x4 x5 x6 x7 (fun y2 => K0 y2)))))
noncomputable def Afp : Aq6 := @Bas @Aea @Aem
noncomputable def Cgj (N : Nat) : Abl Bar [Axg] := fun R x C => Afp N x.1.1.1 x.1.1.2.1 x.1.1.2.2.1 x.1.2.1 x.1.2.2.1.1 x.1.2.2.1.2.1 x.1.2.2.1.2.2.1 x.1.2.2.1.2.2.2.1 (fun y0 => C.1 ((y0, ()), (())))
noncomputable def Bat (Afp : Aq6) (N : Nat) : Go.AX.Aai := Ack [true, true, true] [] false 3 0 Bar [Axg] (fun R x C => Afp N x.1.1.1 x.1.1.2.1 x.1.1.2.2.1 x.1.2.1 x.1.2.2.1.1 x.1.2.2.1.2.1 x.1.2.2.1.2.2.1 x.1.2.2.1.2.2.2.1 (fun y0 => C.1 ((y0, ()), (()))))
noncomputable def Bmm (N : Nat) : Go.AX.Aai := Bat @Afp N
noncomputable def Cgk (N : Nat) : List (Nat × Acn) := [(16, Aaa Aj6 (Bep N)), (18, Aaa Aj7 (Ber N))]
noncomputable def B3l (N : Nat) : List (Nat × Go.AX.Aai) := []
noncomputable def Ao0 : Code := Go.Proofs.Try.f112.body.getD .skip
noncomputable def Ajs : Aac := ⟨[(0, .one (.val z3)), (1, .one (.val (.int .i64)))], []⟩
noncomputable def As8 : Aac := ⟨[(1, .one (.val (.int .i64)))], []⟩
noncomputable def Bgy : Acj := .cons (.exit 0) As8 (.nil)
@[reducible] def A4x (R : Type) : Type := d3 → Int → (Int → Option R) → Option R
@[reducible] def Bgz (R : Type) : Type := d3 → Int → Option R
@[reducible] def Axh : Type 1 := {R : Type} → Nat → Nat → A4x R
noncomputable def A4y {R : Type} (N : Nat) (rc : Bgz R) : A4x R := fun x0 x1 K0 =>
    if (((0 : Int) ≤ x1) ∧ (x1 < (len x0))) then (if (((List.getD x0 (Int.toNat x1) ((0 : Int), ((0 : Int), (0 : Int)))).1 == (19 : Int)) = true) then (rc x0 ((wi (x1 + (1 : Int))))) else (K0 x1)) else none
noncomputable def Ae6 {R : Type} (N : Nat) : Nat → A4x R
  | 0 => fun _ _ _ => none
  | k + 1 => fun x0 x1 K0 => A4y N (fun x0 x1 => Ae6 N k x0 x1 K0) x0 x1 K0
noncomputable def A4z (Ae6 : Axh) (N k : Nat) : Aap Ajs := fun R x K => Ae6 N k x.1.1 x.1.2.1 (fun y0 => K (.exit 0) (Aab As8 ((y0, ()), (()))))
noncomputable def A40 (N k : Nat) : Aap Ajs := A4z @Ae6 N k
noncomputable def Bau : Aac := ⟨[(0, .one (.val z3)), (1, .one (.val (.int .i64)))], []⟩
noncomputable def Axi : Aac := ⟨[(0, .one (.val (.int .i64)))], []⟩
@[reducible] def B3m (R : Type) : Type := d3 → Int → (Int → Option R) → Option R
@[reducible] def Aq7 : Type 1 := {R : Type} → Nat → B3m R
noncomputable def Bav (Ae6 : Axh) : Aq7 := fun {R} N x0 x1 K0 =>
    Ae6 N N x0 x1 (fun y0 => K0 y0)
noncomputable def Adu : Aq7 := @Bav @Ae6
noncomputable def Cgl (N : Nat) : Abl Bau [Axi] := fun R x C => Adu N x.1.1 x.1.2.1 (fun y0 => C.1 ((y0, ()), (())))
noncomputable def Baw (Adu : Aq7) (N : Nat) : Go.AX.Aai := Ack [true, true] [] false 2 0 Bau [Axi] (fun R x C => Adu N x.1.1 x.1.2.1 (fun y0 => C.1 ((y0, ()), (()))))
noncomputable def Bmn (N : Nat) : Go.AX.Aai := Baw @Adu N
noncomputable def Cgm (N : Nat) : List (Nat × Acn) := [(3, Aaa Ajs (A40 N N))]
noncomputable def B3n (N : Nat) : List (Nat × Go.AX.Aai) := []
noncomputable def Ahq : Aac := ⟨[(1, .one (.ptr 32)), (3, .one (.ptr 1000)), (4, .one (.slf 33)), (7, .one (.val (.int .i64))), (19, .one (.val z3)), (20, .one (.val (.int .i64))), (21, .one (.val (.int .i64)))], [(32, .cells 34 [(.val .str), (.val z2), (.val z3), (.val z1), (.val (.int .i64)), (.val (.int .i64))]), (33, .row 3 (.int .i64)), (1000, .row 133 (.pair .str (.pair (.int .i64) z0)))]⟩
noncomputable def Apa : Aac := ⟨[(2, .one (.val .bool))], []⟩
noncomputable def Apb : Aac := ⟨[], []⟩
noncomputable def A88 : Acj := .cons .ret Apa (.cons (.exit 0) Apb (.nil))
@[reducible] def Ayr (R : Type) : Type := Int → d3 → Int → Int → (List UInt8) → d4 → d3 → d1 → Int → Int → d0 → (List ((List UInt8 × (Int × (Int × Int))))) → (Bool → Option R) → (Option R) → Option R
@[reducible] def Aoc (R : Type) : Type := Int → d3 → Int → Int → (List UInt8) → d4 → d3 → d1 → Int → Int → d0 → (List ((List UInt8 × (Int × (Int × Int))))) → Option R
@[reducible] def Arz : Type 1 := {R : Type} → Nat → Nat → Ayr R
noncomputable def Ays (Af6 : Atx) (Afp : Aq6) (Aav : Ad5) (Adu : Aq7) (Abz : Aj3) {R : Type} (N : Nat) (rc : Aoc R) : Ayr R := fun x0 x1 x2 x3 x4 x5 x6 x7 x8 x9 x10 x11 K0 K1 =>
    if ((decide ((x3 < x2))) = true) then (if (((0 : Int) ≤ x3) ∧ (x3 < (len x1))) then (let v0 := (List.getD x1 (Int.toNat x3) ((0 : Int), ((0 : Int), (0 : Int)))).1; let v1 := (List.getD x1 (Int.toNat x3) ((0 : Int), ((0 : Int), (0 : Int)))).2.1; let v2 := (List.getD x1 (Int.toNat x3) ((0 : Int), ((0 : Int), (0 : Int)))).2.2; if (((0 : Int) ≤ v0) ∧ (v0 < (31 : Int))) then (if (v0 < (len x11)) then (let v3 := (List.getD x11 (Int.toNat v0) (([] : List UInt8), ((0 : Int), ((0 : Int), (0 : Int))))).1; let v4 := (List.getD x11 (Int.toNat v0) (([] : List UInt8), ((0 : Int), ((0 : Int), (0 : Int))))).2.1; let v5 := (List.getD x11 (Int.toNat v0) (([] : List UInt8), ((0 : Int), ((0 : Int), (0 : Int))))).2.2.1; let v6 := (List.getD x11 (Int.toNat v0) (([] : List UInt8), ((0 : Int), ((0 : Int), (0 : Int))))).2.2.2; if ((decide ((x3 > (0 : Int)))) = true) then (let v7 := (wi (x3 - (1 : Int))); if (((0 : Int) ≤ v7) ∧ (v7 < (len x6))) then (Af6 N v0 v1 v2 x0 v3 v4 v5 v6 (((List.getD x6 (Int.toNat v7) ((0 : Int), ((0 : Int), (0 : Int)))).1 == (19 : Int))) (fun y0 => if ((!y0) = true) then (K0 false) else (if (((0 : Int) ≤ v0) ∧ (v0 < (31 : Int))) then (if (v0 < (len x11)) then (Afp N v0 v1 v2 x0 v3 v4 v5 v6 (fun y1 => if ((decide ((y1 < (2 : Int)))) = true) then (K0 false) else (if ((decide ((y1 > (4000 : Int)))) = true) then (K0 false) else (Aav N v0 v1 v2 (fun y2 => if ((decide ((y2 > (0 : Int)))) = true) then (if (((0 : Int) ≤ y2) ∧ (y2 < (len x10))) then (Adu N x6 ((List.getD x10 (Int.toNat y2) (0 : Int))) (fun y3 => if (((0 : Int) ≤ y3) ∧ (y3 < (len x6))) then (if ((!(((List.getD x6 (Int.toNat y3) ((0 : Int), ((0 : Int), (0 : Int)))).1 == (28 : Int)) == (v0 == (27 : Int)))) = true) then (K0 false) else (if ((v0 != (19 : Int)) = true) then (Abz N x6 x3 (fun y4 => if ((!y4) = true) then (let v8 := (wi (x3 + (1 : Int))); if ((decide ((v8 < (len x6)))) = true) then (Adu N x6 v8 (fun y5 => if (((0 : Int) ≤ y5) ∧ (y5 < (len x6))) then (if (((List.getD x6 (Int.toNat y5) ((0 : Int), ((0 : Int), (0 : Int)))).1 == (28 : Int)) = true) then (K0 false) else (rc y1 x1 x2 v8 x4 x5 x6 x7 x8 x9 x10 x11)) else none)) else (rc y1 x1 x2 v8 x4 x5 x6 x7 x8 x9 x10 x11)) else (rc y1 x1 x2 ((wi (x3 + (1 : Int)))) x4 x5 x6 x7 x8 x9 x10 x11))) else (rc y1 x1 x2 ((wi (x3 + (1 : Int)))) x4 x5 x6 x7 x8 x9 x10 x11))) else none)) else none) else (if ((v0 != (19 : Int)) = true) then (Abz N x6 x3 (fun y6 => if ((!y6) = true) then (let v9 := (wi (x3 + (1 : Int))); if ((decide ((v9 < (len x6)))) = true) then (Adu N x6 v9 (fun y7 => if (((0 : Int) ≤ y7) ∧ (y7 < (len x6))) then (if (((List.getD x6 (Int.toNat y7) ((0 : Int), ((0 : Int), (0 : Int)))).1 == (28 : Int)) = true) then (K0 false) else (rc y1 x1 x2 v9 x4 x5 x6 x7 x8 x9 x10 x11)) else none)) else (rc y1 x1 x2 v9 x4 x5 x6 x7 x8 x9 x10 x11)) else (rc y1 x1 x2 ((wi (x3 + (1 : Int)))) x4 x5 x6 x7 x8 x9 x10 x11))) else (rc y1 x1 x2 ((wi (x3 + (1 : Int)))) x4 x5 x6 x7 x8 x9 x10 x11))))))) else none) else none))) else none) else (Af6 N v0 v1 v2 x0 v3 v4 v5 v6 false (fun y8 => if ((!y8) = true) then (K0 false) else (if (((0 : Int) ≤ v0) ∧ (v0 < (31 : Int))) then (if (v0 < (len x11)) then (Afp N v0 v1 v2 x0 v3 v4 v5 v6 (fun y9 => if ((decide ((y9 < (2 : Int)))) = true) then (K0 false) else (if ((decide ((y9 > (4000 : Int)))) = true) then (K0 false) else (Aav N v0 v1 v2 (fun y10 => if ((decide ((y10 > (0 : Int)))) = true) then (if (((0 : Int) ≤ y10) ∧ (y10 < (len x10))) then (Adu N x6 ((List.getD x10 (Int.toNat y10) (0 : Int))) (fun y11 => if (((0 : Int) ≤ y11) ∧ (y11 < (len x6))) then (if ((!(((List.getD x6 (Int.toNat y11) ((0 : Int), ((0 : Int), (0 : Int)))).1 == (28 : Int)) == (v0 == (27 : Int)))) = true) then (K0 false) else (if ((v0 != (19 : Int)) = true) then (Abz N x6 x3 (fun y12 => if ((!y12) = true) then (let v10 := (wi (x3 + (1 : Int))); if ((decide ((v10 < (len x6)))) = true) then (Adu N x6 v10 (fun y13 => if (((0 : Int) ≤ y13) ∧ (y13 < (len x6))) then (if (((List.getD x6 (Int.toNat y13) ((0 : Int), ((0 : Int), (0 : Int)))).1 == (28 : Int)) = true) then (K0 false) else (rc y9 x1 x2 v10 x4 x5 x6 x7 x8 x9 x10 x11)) else none)) else (rc y9 x1 x2 v10 x4 x5 x6 x7 x8 x9 x10 x11)) else (rc y9 x1 x2 ((wi (x3 + (1 : Int)))) x4 x5 x6 x7 x8 x9 x10 x11))) else (rc y9 x1 x2 ((wi (x3 + (1 : Int)))) x4 x5 x6 x7 x8 x9 x10 x11))) else none)) else none) else (if ((v0 != (19 : Int)) = true) then (Abz N x6 x3 (fun y14 => if ((!y14) = true) then (let v11 := (wi (x3 + (1 : Int))); if ((decide ((v11 < (len x6)))) = true) then (Adu N x6 v11 (fun y15 => if (((0 : Int) ≤ y15) ∧ (y15 < (len x6))) then (if (((List.getD x6 (Int.toNat y15) ((0 : Int), ((0 : Int), (0 : Int)))).1 == (28 : Int)) = true) then (K0 false) else (rc y9 x1 x2 v11 x4 x5 x6 x7 x8 x9 x10 x11)) else none)) else (rc y9 x1 x2 v11 x4 x5 x6 x7 x8 x9 x10 x11)) else (rc y9 x1 x2 ((wi (x3 + (1 : Int)))) x4 x5 x6 x7 x8 x9 x10 x11))) else (rc y9 x1 x2 ((wi (x3 + (1 : Int)))) x4 x5 x6 x7 x8 x9 x10 x11))))))) else none) else none)))) else none) else none) else none) else K1
noncomputable def Adg {R : Type} (N : Nat) : Nat → Ayr R
  | 0 => fun _ _ _ _ _ _ _ _ _ _ _ _ _ _ => none
  | k + 1 => fun x0 x1 x2 x3 x4 x5 x6 x7 x8 x9 x10 x11 K0 K1 => Ays @Af6 @Afp @Aav @Adu @Abz N (fun x0 x1 x2 x3 x4 x5 x6 x7 x8 x9 x10 x11 => Adg N k x0 x1 x2 x3 x4 x5 x6 x7 x8 x9 x10 x11 K0 K1) x0 x1 x2 x3 x4 x5 x6 x7 x8 x9 x10 x11 K0 K1
noncomputable def Ayt (Adg : Arz) (N k : Nat) : Aap Ahq := fun R x K => Adg N k x.1.2.2.2.1 x.1.2.2.2.2.1 x.1.2.2.2.2.2.1 x.1.2.2.2.2.2.2.1 x.2.1.1 x.2.1.2.1 x.2.1.2.2.1 x.2.1.2.2.2.1 x.2.1.2.2.2.2.1 x.2.1.2.2.2.2.2.1 x.2.2.1 x.2.2.2.1 (fun y0 => K .ret (Aab Apa ((y0, ()), (())))) (K (.exit 0) (Aab Apb ((()), (()))))
noncomputable def Ayu (N k : Nat) : Aap Ahq := Ayt @Adg N k
noncomputable def A41 : Aac := ⟨[(0, .agg [(.val .str), (.val z2), (.val z3), (.val z1), (.val (.int .i64)), (.val (.int .i64))])], []⟩
noncomputable def As9 : Aac := ⟨[(0, .one (.val .bool))], []⟩
@[reducible] def Bw3 (R : Type) : Type := (List UInt8) → d4 → d3 → d1 → Int → Int → (Bool → Option R) → Option R
@[reducible] def Ar0 : Type 1 := {R : Type} → Nat → Bw3 R
noncomputable def A42 (Acr : Akm) (Ab1 : Aic) (Adg : Arz) : Ar0 := fun {R} N x0 x1 x2 x3 x4 x5 K0 =>
    Acr N (fun y0 y1 y2 y3 y4 y5 y6 y7 y8 y9 y10 y11 y12 y13 y14 y15 y16 y17 y18 y19 y20 y21 y22 y23 y24 y25 y26 y27 y28 y29 y30 y31 y32 y33 y34 y35 y36 y37 y38 y39 y40 y41 y42 y43 y44 y45 y46 y47 y48 y49 y50 y51 y52 y53 y54 y55 y56 y57 y58 y59 y60 y61 y62 y63 y64 y65 y66 y67 y68 y69 y70 y71 y72 y73 y74 y75 y76 y77 y78 y79 y80 y81 y82 y83 y84 y85 y86 y87 y88 y89 y90 y91 y92 y93 y94 y95 y96 y97 y98 y99 y100 y101 y102 y103 y104 y105 y106 y107 y108 y109 y110 y111 y112 y113 y114 y115 y116 y117 y118 y119 y120 y121 y122 y123 => Ab1 N x0 x1 x2 x3 x4 x5 (fun y124 y125 y126 => Adg N N 0 x2 ((len x2)) 0 x0 x1 x2 x3 x4 x5 y125 (((y0, (y1, (y2, y3))) :: ((y4, (y5, (y6, y7))) :: ((y8, (y9, (y10, y11))) :: ((y12, (y13, (y14, y15))) :: ((y16, (y17, (y18, y19))) :: ((y20, (y21, (y22, y23))) :: ((y24, (y25, (y26, y27))) :: ((y28, (y29, (y30, y31))) :: ((y32, (y33, (y34, y35))) :: ((y36, (y37, (y38, y39))) :: ((y40, (y41, (y42, y43))) :: ((y44, (y45, (y46, y47))) :: ((y48, (y49, (y50, y51))) :: ((y52, (y53, (y54, y55))) :: ((y56, (y57, (y58, y59))) :: ((y60, (y61, (y62, y63))) :: ((y64, (y65, (y66, y67))) :: ((y68, (y69, (y70, y71))) :: ((y72, (y73, (y74, y75))) :: ((y76, (y77, (y78, y79))) :: ((y80, (y81, (y82, y83))) :: ((y84, (y85, (y86, y87))) :: ((y88, (y89, (y90, y91))) :: ((y92, (y93, (y94, y95))) :: ((y96, (y97, (y98, y99))) :: ((y100, (y101, (y102, y103))) :: ((y104, (y105, (y106, y107))) :: ((y108, (y109, (y110, y111))) :: ((y112, (y113, (y114, y115))) :: ((y116, (y117, (y118, y119))) :: ((y120, (y121, (y122, y123))) :: ([] : List (List UInt8 × Int × Int × Int)))))))))))))))))))))))))))))))))) (fun y127 => K0 y127) (K0 true)))
noncomputable def Ahi : Ar0 := @A42 @Acr @Ab1 @Adg
noncomputable def Cey (N : Nat) : Abl A41 [As9] := fun R x C => Ahi N x.1.1.1 x.1.1.2.1 x.1.1.2.2.1 x.1.1.2.2.2.1 x.1.1.2.2.2.2.1 x.1.1.2.2.2.2.2.1 (fun y0 => C.1 ((y0, ()), (())))
noncomputable def Bg0 (Ahi : Ar0) (N : Nat) : Go.AX.Aai := Ack [true] [] false 1 0 A41 [As9] (fun R x C => Ahi N x.1.1.1 x.1.1.2.1 x.1.1.2.2.1 x.1.1.2.2.2.1 x.1.1.2.2.2.2.1 x.1.1.2.2.2.2.2.1 (fun y0 => C.1 ((y0, ()), (()))))
noncomputable def Bg1 (N : Nat) : Go.AX.Aai := Bg0 @Ahi N
noncomputable def Cez (N : Nat) : List (Nat × Acn) := [(11, Aaa Ahq (Ayu N N))]
noncomputable def Bw4 (N : Nat) : List (Nat × Go.AX.Aai) := [(105, Bag N), (107, A64 N), (110, Bo4 N), (111, Bmm N), (54, Av9 N), (112, Bmn N), (113, Bea N)]
noncomputable def Bax : Aac := ⟨[(0, .agg [(.val .str), (.val z2), (.val z3), (.val z1), (.val (.int .i64)), (.val (.int .i64))])], []⟩
noncomputable def Axj : Aac := ⟨[(0, .one (.val (.int .i64)))], []⟩
@[reducible] def B3o (R : Type) : Type := (List UInt8) → d4 → d3 → d1 → Int → Int → (Int → Option R) → Option R
@[reducible] def Awb : Type 1 := {R : Type} → Nat → B3o R
noncomputable def Bay (Ai7 : Av3) (Ai8 : Awa) (Ahi : Ar0) : Awb := fun {R} N x0 x1 x2 x3 x4 x5 K0 =>
    Ai7 N x0 x1 x2 x3 x4 x5 (fun y0 => if (y0 = true) then (K0 2) else (Ai8 N x0 x1 x2 x3 x4 x5 (fun y1 => if ((!y1) = true) then (K0 60) else (Ahi N x0 x1 x2 x3 x4 x5 (fun y2 => if ((!y2) = true) then (K0 61) else (K0 0))))))
noncomputable def Ai9 : Awb := @Bay @Ai7 @Ai8 @Ahi
noncomputable def Cgn (N : Nat) : Abl Bax [Axj] := fun R x C => Ai9 N x.1.1.1 x.1.1.2.1 x.1.1.2.2.1 x.1.1.2.2.2.1 x.1.1.2.2.2.2.1 x.1.1.2.2.2.2.2.1 (fun y0 => C.1 ((y0, ()), (())))
noncomputable def Bmo (Ai9 : Awb) (N : Nat) : Go.AX.Aai := Ack [true] [] false 1 0 Bax [Axj] (fun R x C => Ai9 N x.1.1.1 x.1.1.2.1 x.1.1.2.2.1 x.1.1.2.2.2.1 x.1.1.2.2.2.2.1 x.1.1.2.2.2.2.2.1 (fun y0 => C.1 ((y0, ()), (()))))
noncomputable def Bmp (N : Nat) : Go.AX.Aai := Bmo @Ai9 N
noncomputable def Cgo (N : Nat) : List (Nat × Acn) := []
noncomputable def B3p (N : Nat) : List (Nat × Go.AX.Aai) := [(87, Bmd N), (88, Bml N), (89, Bg1 N)]
noncomputable def Al9 : Code := Go.Proofs.Try.f68.body.getD .skip
noncomputable def Ap8 : Code := Go.Proofs.Try.f90.body.getD .skip
noncomputable def Akt : Aac := ⟨[(3, .one (.mp 32)), (7, .one (.val z3)), (8, .one (.val (.int .i64))), (9, .one (.val (.int .i64)))], [(32, .amap 82 (.int .i64) (.int .i64))]⟩
noncomputable def Auz : Aac := ⟨[(3, .one (.mp 32))], [(32, .amap 82 (.int .i64) (.int .i64))]⟩
noncomputable def Bjd : Acj := .cons (.exit 0) Auz (.nil)
@[reducible] def A66 (R : Type) : Type := d3 → Int → Int → d2 → (d2 → Option R) → Option R
@[reducible] def Bje (R : Type) : Type := d3 → Int → Int → d2 → Option R
@[reducible] def Az9 : Type 1 := {R : Type} → Nat → Nat → A66 R
noncomputable def A67 {R : Type} (N : Nat) (rc : Bje R) : A66 R := fun x0 x1 x2 x3 K0 =>
    if ((decide ((x2 < x1))) = true) then (if (((0 : Int) ≤ x2) ∧ (x2 < (len x0))) then (if (((List.getD x0 (Int.toNat x2) ((0 : Int), ((0 : Int), (0 : Int)))).1 == (19 : Int)) = true) then (rc x0 x1 ((wi (x2 + (1 : Int)))) ((Asn (kt := (.int .i64)) (et := (.int .i64)) (List.getD x0 (Int.toNat x2) ((0 : Int), ((0 : Int), (0 : Int)))).2.1 x2 x3))) else (rc x0 x1 ((wi (x2 + (1 : Int)))) x3)) else none) else (K0 x3)
noncomputable def Aft {R : Type} (N : Nat) : Nat → A66 R
  | 0 => fun _ _ _ _ _ => none
  | k + 1 => fun x0 x1 x2 x3 K0 => A67 N (fun x0 x1 x2 x3 => Aft N k x0 x1 x2 x3 K0) x0 x1 x2 x3 K0
noncomputable def A68 (Aft : Az9) (N k : Nat) : Aap Akt := fun R x K => Aft N k x.1.2.1 x.1.2.2.1 x.1.2.2.2.1 x.2.1 (fun y0 => K (.exit 0) (Aab Auz (((), ()), (y0, ()))))
noncomputable def A69 (N k : Nat) : Aap Akt := A68 @Aft N k
noncomputable def Bes : Aac := ⟨[(0, .one (.val z3))], []⟩
noncomputable def A0a : Aac := ⟨[(0, .one (.mp 32))], [(32, .amap 82 (.int .i64) (.int .i64))]⟩
@[reducible] def B60 (R : Type) : Type := d3 → (d2 → Option R) → Option R
@[reducible] def Ap9 : Type 1 := {R : Type} → Nat → B60 R
noncomputable def Bet (Aft : Az9) : Ap9 := fun {R} N x0 K0 =>
    Aft N N x0 ((len x0)) 0 (([] : List (Int × Int))) (fun y0 => K0 y0)
noncomputable def Agr : Ap9 := @Bet @Aft
noncomputable def Chr (N : Nat) : Abl Bes [A0a] := fun R x C => Agr N x.1.1 (fun y0 => C.1 (((), ()), (y0, ())))
noncomputable def A43 (Agr : Ap9) (N : Nat) : Go.AX.Aai := Ack [true] [] false 1 0 Bes [A0a] (fun R x C => Agr N x.1.1 (fun y0 => C.1 (((), ()), (y0, ()))))
noncomputable def Bo5 (N : Nat) : Go.AX.Aai := A43 @Agr N
noncomputable def Chs (N : Nat) : List (Nat × Acn) := [(7, Aaa Akt (A69 N N))]
noncomputable def B61 (N : Nat) : List (Nat × Go.AX.Aai) := []
noncomputable def Agt : Code := Go.Proofs.Try.f91.body.getD .skip
noncomputable def Ai0 : Aac := ⟨[(0, .one (.val z3)), (1, .one (.mp 0)), (4, .one (.ptr 32)), (5, .one (.slf 33)), (17, .one (.val z3)), (18, .one (.val (.int .i64))), (19, .one (.val (.int .i64)))], [(0, .amap 82 (.int .i64) (.int .i64)), (32, .cells 63 [(.slf 34), (.slf 35), (.val (.int .i64))]), (33, .row 3 (.int .i64)), (34, .row 3 (.int .i64)), (35, .row 3 (.int .i64))]⟩
noncomputable def Axk : Aac := ⟨[(0, .one (.val z3)), (1, .one (.mp 0)), (4, .one (.ptr 32)), (5, .one (.slf 33))], [(0, .amap 82 (.int .i64) (.int .i64)), (32, .cells 63 [(.slf 34), (.slf 35), (.val (.int .i64))]), (33, .row 3 (.int .i64)), (34, .row 3 (.int .i64)), (35, .row 3 (.int .i64))]⟩
noncomputable def Bmq : Acj := .cons (.exit 0) Axk (.nil)
@[reducible] def Baz (R : Type) : Type := d3 → d3 → Int → Int → d2 → Int → d0 → d0 → d0 → (d3 → d2 → Int → d0 → d0 → d0 → Option R) → Option R
@[reducible] def Bmr (R : Type) : Type := d3 → d3 → Int → Int → d2 → Int → d0 → d0 → d0 → Option R
@[reducible] def Aq8 : Type 1 := {R : Type} → Nat → Nat → Baz R
noncomputable def Ba0 (Aav : Ad5) (Acf : Aj1) {R : Type} (N : Nat) (rc : Bmr R) : Baz R := fun x0 x1 x2 x3 x4 x5 x6 x7 x8 K0 =>
    if ((decide ((x3 < x2))) = true) then (if (((0 : Int) ≤ x3) ∧ (x3 < (len x1))) then (let v0 := (List.getD x1 (Int.toNat x3) ((0 : Int), ((0 : Int), (0 : Int)))).1; let v1 := (List.getD x1 (Int.toNat x3) ((0 : Int), ((0 : Int), (0 : Int)))).2.1; Aav N v0 v1 ((List.getD x1 (Int.toNat x3) ((0 : Int), ((0 : Int), (0 : Int)))).2.2) (fun y0 => if ((y0 == (0 : Int)) = true) then (Acf N v1 (fun y1 => if (((0 : Int) ≤ x3) ∧ (x3 < (len x6))) then (rc x0 x1 x2 ((wi (x3 + (1 : Int)))) x4 x5 ((List.set x6 (Int.toNat x3) y1)) x7 x8) else none)) else (if ((v0 == (30 : Int)) = true) then (Acf N v1 (fun y2 => if (((0 : Int) ≤ x3) ∧ (x3 < (len x6))) then (rc x0 x1 x2 ((wi (x3 + (1 : Int)))) x4 x5 ((List.set x6 (Int.toNat x3) y2)) x7 x8) else none)) else (rc x0 x1 x2 ((wi (x3 + (1 : Int)))) x4 x5 x6 x7 x8)))) else none) else (K0 x0 x4 x5 x6 x7 x8)
noncomputable def Aeq {R : Type} (N : Nat) : Nat → Baz R
  | 0 => fun _ _ _ _ _ _ _ _ _ _ => none
  | k + 1 => fun x0 x1 x2 x3 x4 x5 x6 x7 x8 K0 => Ba0 @Aav @Acf N (fun x0 x1 x2 x3 x4 x5 x6 x7 x8 => Aeq N k x0 x1 x2 x3 x4 x5 x6 x7 x8 K0) x0 x1 x2 x3 x4 x5 x6 x7 x8 K0
noncomputable def Awc (Aeq : Aq8) (N k : Nat) : Aap Ai0 := fun R x K => Aeq N k x.1.1 x.1.2.2.2.2.1 x.1.2.2.2.2.2.1 x.1.2.2.2.2.2.2.1 x.2.1 x.2.2.1.2.2.1 x.2.2.2.1 x.2.2.2.2.1 x.2.2.2.2.2.1 (fun y0 y1 y2 y3 y4 y5 => K (.exit 0) (Aab Axk ((y0, (), (), (), ()), (y1, ((), (), y2, ()), y3, y4, y5, ()))))
noncomputable def Ba1 (N k : Nat) : Aap Ai0 := Awc @Aeq N k
noncomputable def Ao1 : Code := Go.Proofs.Try.f114.body.getD .skip
noncomputable def Bo6 : Code := Go.Proofs.Try.f60.body.getD .skip
noncomputable def Beu : Aac := ⟨[(0, .one (.val (.int .i64)))], []⟩
noncomputable def A0b : Aac := ⟨[(0, .one (.val (.int .i64)))], []⟩
@[reducible] def B62 (R : Type) : Type := Int → (Int → Option R) → Option R
@[reducible] def Aj8 : Type 1 := {R : Type} → Nat → B62 R
noncomputable def Acp : Aj8 := fun {R} N x0 K0 =>
    if (((0 : Int) ≤ x0) ∧ (x0 < (4 : Int))) then (K0 ((List.getD [(0 : Int), (1 : Int), (2 : Int), (4 : Int)] (Int.toNat x0) (0 : Int)))) else none
noncomputable def B63 (N : Nat) : Abl Beu [A0b] := fun R x C => Acp N x.1.1 (fun y0 => C.1 ((y0, ()), (())))
noncomputable def Aqa (Acp : Aj8) (N : Nat) : Go.AX.Aai := Ack [true] [] false 1 0 Beu [A0b] (fun R x C => Acp N x.1.1 (fun y0 => C.1 ((y0, ()), (()))))
noncomputable def A44 (N : Nat) : Go.AX.Aai := Aqa @Acp N
noncomputable def B64 (N : Nat) : List (Nat × Acn) := []
noncomputable def Bo7 (N : Nat) : List (Nat × Go.AX.Aai) := []
noncomputable def Ajt : Aac := ⟨[(1, .one (.val (.list (.int .i64)))), (4, .one (.ptr 32)), (5, .one (.ptr 33)), (10, .one (.val z3)), (11, .one (.val (.int .i64))), (12, .one (.val (.int .i64)))], [(32, .cells 63 [(.slf 34), (.slf 35), (.val (.int .i64))]), (33, .cells 63 [(.slf 36), (.val (.list (.int .i64))), (.val (.int .i64))]), (34, .row 3 (.int .i64)), (35, .row 3 (.int .i64)), (36, .row 3 (.int .i64))]⟩
noncomputable def Ata : Aac := ⟨[(4, .one (.ptr 32)), (5, .one (.ptr 33))], [(32, .cells 63 [(.slf 34), (.slf 35), (.val (.int .i64))]), (33, .cells 63 [(.slf 36), (.val (.list (.int .i64))), (.val (.int .i64))]), (34, .row 3 (.int .i64)), (35, .row 3 (.int .i64)), (36, .row 3 (.int .i64))]⟩
noncomputable def Bg2 : Acj := .cons (.exit 0) Ata (.nil)
@[reducible] def A45 (R : Type) : Type := d0 → d3 → Int → Int → Int → d0 → Int → d0 → d0 → d0 → (Int → d0 → Int → d0 → d0 → d0 → Option R) → Option R
@[reducible] def Bg3 (R : Type) : Type := d0 → d3 → Int → Int → Int → d0 → Int → d0 → d0 → d0 → Option R
@[reducible] def Axl : Type 1 := {R : Type} → Nat → Nat → A45 R
noncomputable def A46 (Acp : Aj8) (Abg : Aho) {R : Type} (N : Nat) (rc : Bg3 R) : A45 R := fun x0 x1 x2 x3 x4 x5 x6 x7 x8 x9 K0 =>
    if ((decide ((x3 < x2))) = true) then (if (((0 : Int) ≤ x3) ∧ (x3 < (len x1))) then (let v0 := (List.getD x1 (Int.toNat x3) ((0 : Int), ((0 : Int), (0 : Int)))).1; if ((((List.length x9) + (List.length (x6 :: ([] : List Int)))) * (8 : Nat)) ≤ (70368744177664 : Nat)) then (if ((v0 != (19 : Int)) = true) then (if (((0 : Int) ≤ x3) ∧ (x3 < (len x0))) then (Acp N ((List.getD x0 (Int.toNat x3) (0 : Int))) (fun y0 => Abg N v0 (fun y1 => rc x0 x1 x2 ((wi (x3 + (1 : Int)))) x4 x5 ((wi (x6 + (wi ((wi ((1 : Int) + y0)) + y1))))) x7 x8 ((x9 ++ (x6 :: ([] : List Int))))))) else none) else (rc x0 x1 x2 ((wi (x3 + (1 : Int)))) x4 x5 x6 x7 x8 ((x9 ++ (x6 :: ([] : List Int)))))) else none) else none) else (K0 x4 x5 x6 x7 x8 x9)
noncomputable def Ae7 {R : Type} (N : Nat) : Nat → A45 R
  | 0 => fun _ _ _ _ _ _ _ _ _ _ _ => none
  | k + 1 => fun x0 x1 x2 x3 x4 x5 x6 x7 x8 x9 K0 => A46 @Acp @Abg N (fun x0 x1 x2 x3 x4 x5 x6 x7 x8 x9 => Ae7 N k x0 x1 x2 x3 x4 x5 x6 x7 x8 x9 K0) x0 x1 x2 x3 x4 x5 x6 x7 x8 x9 K0
noncomputable def A47 (Ae7 : Axl) (N k : Nat) : Aap Ajt := fun R x K => Ae7 N k x.1.1 x.1.2.2.2.1 x.1.2.2.2.2.1 x.1.2.2.2.2.2.1 x.2.1.2.2.1 x.2.2.1.2.1 x.2.2.1.2.2.1 x.2.2.2.1 x.2.2.2.2.1 x.2.2.2.2.2.1 (fun y0 y1 y2 y3 y4 y5 => K (.exit 0) (Aab Ata (((), (), ()), (((), (), y0, ()), ((), y1, y2, ()), y3, y4, y5, ()))))
noncomputable def A48 (N k : Nat) : Aap Ajt := A47 @Ae7 N k
noncomputable def Ba2 : Aac := ⟨[(0, .one (.val z3)), (1, .one (.val (.list (.int .i64))))], []⟩
noncomputable def Axm : Aac := ⟨[(0, .agg [(.slf 32), (.val (.list (.int .i64))), (.val (.int .i64))])], [(32, .row 3 (.int .i64))]⟩
@[reducible] def B3q (R : Type) : Type := d3 → d0 → (d0 → Int → d0 → Option R) → Option R
@[reducible] def Amy : Type 1 := {R : Type} → Nat → B3q R
noncomputable def Ba3 (Ae7 : Axl) : Amy := fun {R} N x0 x1 K0 =>
    Ae7 N N x1 x0 ((len x0)) 0 0 x1 0 (([] : List Int)) (([] : List Int)) (([] : List Int)) (fun y0 y1 y2 y3 y4 y5 => K0 y1 y2 y5)
noncomputable def Aew : Amy := @Ba3 @Ae7
noncomputable def Cgp (N : Nat) : Abl Ba2 [Axm] := fun R x C => Aew N x.1.1 x.1.2.1 (fun y0 y1 y2 => C.1 ((((), y0, y1, ()), ()), (y2, ())))
noncomputable def Awd (Aew : Amy) (N : Nat) : Go.AX.Aai := Ack [true, true] [] false 2 0 Ba2 [Axm] (fun R x C => Aew N x.1.1 x.1.2.1 (fun y0 y1 y2 => C.1 ((((), y0, y1, ()), ()), (y2, ()))))
noncomputable def Bms (N : Nat) : Go.AX.Aai := Awd @Aew N
noncomputable def Cgq (N : Nat) : List (Nat × Acn) := [(7, Aaa Ajt (A48 N N))]
noncomputable def B3r (N : Nat) : List (Nat × Go.AX.Aai) := [(60, A44 N), (37, Ayf N)]
noncomputable def Bcg : Code := Go.Proofs.Try.f92.body.getD .skip
noncomputable def A0y : Aac := ⟨[(0, .agg [(.val (.list (.int .i64))), (.val (.list (.int .i64))), (.val (.int .i64))]), (1, .one (.val z3)), (2, .one (.val (.int .i64)))], []⟩
noncomputable def Aqp : Aac := ⟨[(0, .one (.val (.int .i64)))], []⟩
@[reducible] def Brf (R : Type) : Type := d0 → d0 → Int → d3 → Int → (Int → Option R) → Option R
@[reducible] def Afl : Type 1 := {R : Type} → Nat → Brf R
noncomputable def A0z (Acp : Aj8) (Abg : Aho) : Afl := fun {R} N x0 x1 x2 x3 x4 K0 =>
    if (((0 : Int) ≤ x4) ∧ (x4 < (len x0))) then (if (((0 : Int) ≤ x4) ∧ (x4 < (len x1))) then (Acp N ((List.getD x1 (Int.toNat x4) (0 : Int))) (fun y0 => if (((0 : Int) ≤ x4) ∧ (x4 < (len x3))) then (Abg N ((List.getD x3 (Int.toNat x4) ((0 : Int), ((0 : Int), (0 : Int)))).1) (fun y1 => K0 ((wi ((wi ((wi ((List.getD x0 (Int.toNat x4) (0 : Int)) + (1 : Int))) + y0)) + y1))))) else none)) else none) else none
noncomputable def Aay : Afl := @A0z @Acp @Abg
noncomputable def Cdk (N : Nat) : Abl A0y [Aqp] := fun R x C => Aay N x.1.1.1 x.1.1.2.1 x.1.1.2.2.1 x.1.2.1 x.1.2.2.1 (fun y0 => C.1 ((y0, ()), (())))
noncomputable def Ajj (Aay : Afl) (N : Nat) : Go.AX.Aai := Ack [true, true, true] [] false 3 0 A0y [Aqp] (fun R x C => Aay N x.1.1.1 x.1.1.2.1 x.1.1.2.2.1 x.1.2.1 x.1.2.2.1 (fun y0 => C.1 ((y0, ()), (()))))
noncomputable def A00 (N : Nat) : Go.AX.Aai := Ajj @Aay N
noncomputable def Cdl (N : Nat) : List (Nat × Acn) := []
noncomputable def Brg (N : Nat) : List (Nat × Go.AX.Aai) := [(60, A44 N), (37, Ayf N)]
noncomputable def Aid : Aac := ⟨[(0, .one (.val z3)), (1, .one (.mp 0)), (4, .one (.ptr 32)), (5, .one (.val (.list (.int .i64)))), (8, .one (.ptr 33)), (9, .one (.val .bool)), (10, .one (.slf 34)), (45, .one (.val z3)), (46, .one (.val (.int .i64))), (47, .one (.val (.int .i64)))], [(0, .amap 82 (.int .i64) (.int .i64)), (32, .cells 63 [(.slf 35), (.slf 36), (.val (.int .i64))]), (33, .cells 63 [(.slf 37), (.val (.list (.int .i64))), (.val (.int .i64))]), (34, .row 3 (.int .i64)), (35, .row 3 (.int .i64)), (36, .row 3 (.int .i64)), (37, .row 3 (.int .i64))]⟩
noncomputable def Au0 : Aac := ⟨[(0, .one (.val z3)), (1, .one (.mp 0)), (4, .one (.ptr 32)), (8, .one (.ptr 33)), (9, .one (.val .bool)), (10, .one (.slf 34))], [(0, .amap 82 (.int .i64) (.int .i64)), (32, .cells 63 [(.slf 35), (.slf 36), (.val (.int .i64))]), (33, .cells 63 [(.slf 37), (.val (.list (.int .i64))), (.val (.int .i64))]), (34, .row 3 (.int .i64)), (35, .row 3 (.int .i64)), (36, .row 3 (.int .i64)), (37, .row 3 (.int .i64))]⟩
noncomputable def Bjf : Acj := .cons (.exit 4) Au0 (.nil)
@[reducible] def A7a (R : Type) : Type := d3 → d0 → Bool → d3 → Int → Int → d2 → Int → d0 → Int → d0 → d0 → d0 → d0 → (d3 → Bool → d2 → Int → d0 → Int → d0 → d0 → d0 → d0 → Option R) → Option R
@[reducible] def Bjg (R : Type) : Type := d3 → d0 → Bool → d3 → Int → Int → d2 → Int → d0 → Int → d0 → d0 → d0 → d0 → Option R
@[reducible] def Apo : Type 1 := {R : Type} → Nat → Nat → A7a R
noncomputable def A7b (Aav : Ad5) (Aay : Afl) (Acf : Aj1) {R : Type} (N : Nat) (rc : Bjg R) : A7a R := fun x0 x1 x2 x3 x4 x5 x6 x7 x8 x9 x10 x11 x12 x13 K0 =>
    if ((decide ((x5 < x4))) = true) then (if (((0 : Int) ≤ x5) ∧ (x5 < (len x3))) then (let v0 := (List.getD x3 (Int.toNat x5) ((0 : Int), ((0 : Int), (0 : Int)))).1; let v1 := (List.getD x3 (Int.toNat x5) ((0 : Int), ((0 : Int), (0 : Int)))).2.1; Aav N v0 v1 ((List.getD x3 (Int.toNat x5) ((0 : Int), ((0 : Int), (0 : Int)))).2.2) (fun y0 => if ((decide ((y0 > (0 : Int)))) = true) then (if ((v0 != (30 : Int)) = true) then (let v2 := (Option.getD (Aov (kt := (.int .i64)) (et := (.int .i64)) v1 x6) (0 : Int)); if (((0 : Int) ≤ v2) ∧ (v2 < (len x13))) then (Aay N x13 x8 x9 x0 x5 (fun y1 => Acf N ((wi ((List.getD x13 (Int.toNat v2) (0 : Int)) - y1))) (fun y2 => if (((0 : Int) ≤ x5) ∧ (x5 < (len x1))) then (if ((decide ((y2 > (List.getD x1 (Int.toNat x5) (0 : Int))))) = true) then (if (((0 : Int) ≤ x5) ∧ (x5 < (len x10))) then (rc x0 x1 true x3 x4 ((wi (x5 + (1 : Int)))) x6 x7 x8 x9 ((List.set x10 (Int.toNat x5) y2)) x11 x12 x13) else none) else (rc x0 x1 x2 x3 x4 ((wi (x5 + (1 : Int)))) x6 x7 x8 x9 x10 x11 x12 x13)) else none))) else none) else (rc x0 x1 x2 x3 x4 ((wi (x5 + (1 : Int)))) x6 x7 x8 x9 x10 x11 x12 x13)) else (rc x0 x1 x2 x3 x4 ((wi (x5 + (1 : Int)))) x6 x7 x8 x9 x10 x11 x12 x13))) else none) else (K0 x0 x2 x6 x7 x8 x9 x10 x11 x12 x13)
noncomputable def Ad0 {R : Type} (N : Nat) : Nat → A7a R
  | 0 => fun _ _ _ _ _ _ _ _ _ _ _ _ _ _ _ => none
  | k + 1 => fun x0 x1 x2 x3 x4 x5 x6 x7 x8 x9 x10 x11 x12 x13 K0 => A7b @Aav @Aay @Acf N (fun x0 x1 x2 x3 x4 x5 x6 x7 x8 x9 x10 x11 x12 x13 => Ad0 N k x0 x1 x2 x3 x4 x5 x6 x7 x8 x9 x10 x11 x12 x13 K0) x0 x1 x2 x3 x4 x5 x6 x7 x8 x9 x10 x11 x12 x13 K0
noncomputable def Aty (Ad0 : Apo) (N k : Nat) : Aap Aid := fun R x K => Ad0 N k x.1.1 x.1.2.2.2.1 x.1.2.2.2.2.2.1 x.1.2.2.2.2.2.2.2.1 x.1.2.2.2.2.2.2.2.2.1 x.1.2.2.2.2.2.2.2.2.2.1 x.2.1 x.2.2.1.2.2.1 x.2.2.2.1.2.1 x.2.2.2.1.2.2.1 x.2.2.2.2.1 x.2.2.2.2.2.1 x.2.2.2.2.2.2.1 x.2.2.2.2.2.2.2.1 (fun y0 y1 y2 y3 y4 y5 y6 y7 y8 y9 => K (.exit 4) (Aab Au0 ((y0, (), (), (), y1, (), ()), (y2, ((), (), y3, ()), ((), y4, y5, ()), y6, y7, y8, y9, ()))))
noncomputable def A7c (N k : Nat) : Aap Aid := Aty @Ad0 N k
noncomputable def Aie : Aac := ⟨[(0, .one (.val z3)), (1, .one (.mp 0)), (4, .one (.ptr 32)), (5, .one (.slf 33))], [(0, .amap 82 (.int .i64) (.int .i64)), (32, .cells 63 [(.slf 34), (.slf 35), (.val (.int .i64))]), (33, .row 3 (.int .i64)), (34, .row 3 (.int .i64)), (35, .row 3 (.int .i64))]⟩
noncomputable def Au1 : Aac := ⟨[(4, .one (.ptr 32))], [(0, .amap 82 (.int .i64) (.int .i64)), (32, .cells 63 [(.slf 33), (.val (.list (.int .i64))), (.val (.int .i64))]), (33, .row 3 (.int .i64))]⟩
noncomputable def Bjh : Acj := .cons .ret Au1 (.nil)
@[reducible] def A7d (R : Type) : Type := d3 → d2 → Int → d0 → d0 → d0 → (d2 → d0 → Int → d0 → Option R) → Option R
@[reducible] def Bji (R : Type) : Type := d3 → d2 → Int → d0 → d0 → d0 → Option R
@[reducible] def App : Type 1 := {R : Type} → Nat → Nat → A7d R
noncomputable def A7e (Aew : Amy) (Ad0 : Apo) {R : Type} (N : Nat) (rc : Bji R) : A7d R := fun x0 x1 x2 x3 x4 x5 K0 =>
    Aew N x0 x3 (fun y0 y1 y2 => if ((((0 : Nat) + (List.length x3)) * (8 : Nat)) ≤ (70368744177664 : Nat)) then (Ad0 N N x0 x3 false x0 ((len x0)) 0 x1 x2 y0 y1 x3 x4 x5 y2 (fun y3 y4 y5 y6 y7 y8 y9 y10 y11 y12 => if ((!y4) = true) then (K0 y5 y7 y8 y12) else (rc y3 y5 y6 y9 y10 y11))) else none)
noncomputable def Adk {R : Type} (N : Nat) : Nat → A7d R
  | 0 => fun _ _ _ _ _ _ _ => none
  | k + 1 => fun x0 x1 x2 x3 x4 x5 K0 => A7e @Aew @Ad0 N (fun x0 x1 x2 x3 x4 x5 => Adk N k x0 x1 x2 x3 x4 x5 K0) x0 x1 x2 x3 x4 x5 K0
noncomputable def Atz (Adk : App) (N k : Nat) : Aap Aie := fun R x K => Adk N k x.1.1 x.2.1 x.2.2.1.2.2.1 x.2.2.2.1 x.2.2.2.2.1 x.2.2.2.2.2.1 (fun y0 y1 y2 y3 => K .ret (Aab Au1 (((), ()), (y0, ((), y1, y2, ()), y3, ()))))
noncomputable def A7f (N k : Nat) : Aap Aie := Atz @Adk N k
noncomputable def Bih : Aac := ⟨[(0, .one (.val z3)), (1, .one (.mp 0))], [(0, .amap 82 (.int .i64) (.int .i64))]⟩
noncomputable def A1y : Aac := ⟨[(0, .agg [(.slf 32), (.val (.list (.int .i64))), (.val (.int .i64))])], [(0, .amap 82 (.int .i64) (.int .i64)), (32, .row 3 (.int .i64))]⟩
@[reducible] def B8h (R : Type) : Type := d3 → d2 → (d0 → Int → d2 → d0 → Option R) → Option R
@[reducible] def Asp : Type 1 := {R : Type} → Nat → B8h R
noncomputable def Bii (Aeq : Aq8) (Adk : App) : Asp := fun {R} N x0 x1 K0 =>
    if (((0 : Int) ≤ (len x0)) ∧ (((len x0) ≤ (len x0)) ∧ (((len x0) * (8 : Int)) ≤ (70368744177664 : Int)))) then (Aeq N N x0 x0 ((len x0)) 0 x1 0 ((List.replicate (Int.toNat (len x0)) (0 : Int))) (([] : List Int)) (([] : List Int)) (fun y0 y1 y2 y3 y4 y5 => Adk N N y0 y1 y2 y3 y4 y5 (fun y6 y7 y8 y9 => K0 y7 y8 y6 y9))) else none
noncomputable def Ahr : Asp := @Bii @Aeq @Adk
noncomputable def Ch7 (N : Nat) : Abl Bih [A1y] := fun R x C => Ahr N x.1.1 x.2.1 (fun y0 y1 y2 y3 => C.1 ((((), y0, y1, ()), ()), (y2, y3, ())))
noncomputable def A8q (Ahr : Asp) (N : Nat) : Go.AX.Aai := Ack [true, false] [] false 2 1 Bih [A1y] (fun R x C => Ahr N x.1.1 x.2.1 (fun y0 y1 y2 y3 => C.1 ((((), y0, y1, ()), ()), (y2, y3, ()))))
noncomputable def Bs3 (N : Nat) : Go.AX.Aai := A8q @Ahr N
noncomputable def Ch8 (N : Nat) : List (Nat × Acn) := [(7, Aaa Ai0 (Ba1 N N)), (25, Aaa Aid (A7c N N)), (17, Aaa Aie (A7f N N))]
noncomputable def B8i (N : Nat) : List (Nat × Go.AX.Aai) := [(54, Av9 N), (38, Bdu N), (114, Bms N), (92, A00 N)]
noncomputable def A89 : Code := Go.Proofs.Try.f46.body.getD .skip
noncomputable def Ayv : Aac := ⟨[(0, .one (.ptr 0)), (1, .one (.val (.int .i64)))], [(0, .cells 68 [(.slf 1)]), (1, .row 5 (.int .u8))]⟩
noncomputable def Apc : Aac := ⟨[(0, .one (.ptr 0))], [(0, .cells 68 [(.slf 1)]), (1, .row 5 (.int .u8))]⟩
@[reducible] def Bo8 (R : Type) : Type := Int → d0 → (d0 → Option R) → Option R
@[reducible] def Ac1 : Type 1 := {R : Type} → Nat → Bo8 R
noncomputable def Aaf : Ac1 := fun {R} N x0 x1 K0 =>
    if ((((List.length x1) + (List.length ((IntKind.wrap .u8 x0) :: ([] : List Int)))) * (1 : Nat)) ≤ (70368744177664 : Nat)) then (K0 ((x1 ++ ((IntKind.wrap .u8 x0) :: ([] : List Int))))) else none
noncomputable def Bo9 (N : Nat) : Abl Ayv [Apc] := fun R x C => Aaf N x.1.2.1 x.2.2.1 (fun y0 => C.1 (((), ()), (((), ()), y0, ())))
noncomputable def Afu (Aaf : Ac1) (N : Nat) : Go.AX.Aai := Ack [false, true] (List.replicate 32 true) true 2 2 Ayv [Apc] (fun R x C => Aaf N x.1.2.1 x.2.2.1 (fun y0 => C.1 (((), ()), (((), ()), y0, ()))))
noncomputable def Aod (N : Nat) : Go.AX.Aai := Afu @Aaf N
noncomputable def Bpa (N : Nat) : List (Nat × Acn) := []
noncomputable def A9a (N : Nat) : List (Nat × Go.AX.Aai) := []
noncomputable def Ak5 : Code := Go.Proofs.Try.f48.body.getD .skip
noncomputable def Aha : Aac := ⟨[(0, .one (.ptr 0)), (1, .one (.val (.int .i64))), (7, .one (.val (.int .i64)))], [(0, .cells 68 [(.slf 1)]), (1, .row 5 (.int .u8))]⟩
noncomputable def Aol : Aac := ⟨[(0, .one (.ptr 0))], [(0, .cells 68 [(.slf 1)]), (1, .row 5 (.int .u8))]⟩
noncomputable def A6r : Acj := .cons (.exit 0) Aol (.nil)
@[reducible] def Awv (R : Type) : Type := Int → Int → d0 → (d0 → Option R) → Option R
@[reducible] def A6s (R : Type) : Type := Int → Int → d0 → Option R
@[reducible] def Aqq : Type 1 := {R : Type} → Nat → Nat → Awv R
noncomputable def Aqr (Aaf : Ac1) {R : Type} (N : Nat) (rc : A6s R) : Awv R := fun x0 x1 x2 K0 =>
    if ((decide ((x1 ≥ (0 : Int)))) = true) then (let v0 := (wi ((8 : Int) * x1)); if (v0 < (0 : Int)) then none else (Aaf N ((Ax7 .i64 x0 v0)) x2 (fun y0 => rc x0 ((wi (x1 - (1 : Int)))) y0))) else (K0 x2)
noncomputable def Ada {R : Type} (N : Nat) : Nat → Awv R
  | 0 => fun _ _ _ _ => none
  | k + 1 => fun x0 x1 x2 K0 => Aqr @Aaf N (fun x0 x1 x2 => Ada N k x0 x1 x2 K0) x0 x1 x2 K0
noncomputable def Aww (Ada : Aqq) (N k : Nat) : Aap Aha := fun R x K => Ada N k x.1.2.1 x.1.2.2.1 x.2.2.1 (fun y0 => K (.exit 0) (Aab Aol (((), ()), (((), ()), y0, ()))))
noncomputable def Awx (N k : Nat) : Aap Aha := Aww @Ada N k
noncomputable def A01 : Aac := ⟨[(0, .one (.ptr 0)), (1, .one (.val (.int .i64))), (2, .one (.val (.int .i64)))], [(0, .cells 68 [(.slf 1)]), (1, .row 5 (.int .u8))]⟩
noncomputable def Aqs : Aac := ⟨[(0, .one (.ptr 0))], [(0, .cells 68 [(.slf 1)]), (1, .row 5 (.int .u8))]⟩
@[reducible] def Brh (R : Type) : Type := Int → Int → d0 → (d0 → Option R) → Option R
@[reducible] def Aeh : Type 1 := {R : Type} → Nat → Brh R
noncomputable def A02 (Ada : Aqq) : Aeh := fun {R} N x0 x1 x2 K0 =>
    Ada N N x0 ((wi (x1 - (1 : Int)))) x2 (fun y0 => K0 y0)
noncomputable def Aam : Aeh := @A02 @Ada
noncomputable def Cdm (N : Nat) : Abl A01 [Aqs] := fun R x C => Aam N x.1.2.1 x.1.2.2.1 x.2.2.1 (fun y0 => C.1 (((), ()), (((), ()), y0, ())))
noncomputable def Ajk (Aam : Aeh) (N : Nat) : Go.AX.Aai := Ack [false, true, true] (List.replicate 32 true) true 3 2 A01 [Aqs] (fun R x C => Aam N x.1.2.1 x.1.2.2.1 x.2.2.1 (fun y0 => C.1 (((), ()), (((), ()), y0, ()))))
noncomputable def A03 (N : Nat) : Go.AX.Aai := Ajk @Aam N
noncomputable def Cdn (N : Nat) : List (Nat × Acn) := [(5, Aaa Aha (Awx N N))]
noncomputable def Bri (N : Nat) : List (Nat × Go.AX.Aai) := [(46, Aod N)]
noncomputable def Aly : Aac := ⟨[(0, .one (.val z3)), (3, .one (.ptr 32)), (4, .one (.mp 33)), (5, .one (.ptr 34)), (6, .one (.ptr 35)), (7, .one (.val (.int .i64))), (8, .one (.ptr 36)), (9, .one (.val (.int .i64))), (10, .one (.val (.int .i64))), (18, .one (.val z3)), (19, .one (.val (.int .i64))), (20, .one (.val (.int .i64)))], [(32, .cells 63 [(.slf 37), (.slf 38), (.val (.int .i64))]), (33, .amap 82 (.int .i64) (.int .i64)), (34, .cells 63 [(.slf 39), (.val (.list (.int .i64))), (.val (.int .i64))]), (35, .cells 68 [(.slf 40)]), (36, .cells 24 [(.val (.int .i64)), (.val (.int .i64)), (.val (.int .i64))]), (37, .row 3 (.int .i64)), (38, .row 3 (.int .i64)), (39, .row 3 (.int .i64)), (40, .row 5 (.int .u8))]⟩
noncomputable def A26 : Aac := ⟨[(0, .one (.val z3)), (3, .one (.ptr 32)), (4, .one (.mp 33)), (5, .one (.ptr 34)), (6, .one (.ptr 35)), (18, .one (.val z3)), (19, .one (.val (.int .i64))), (20, .one (.val (.int .i64)))], [(32, .cells 63 [(.slf 36), (.slf 37), (.val (.int .i64))]), (33, .amap 82 (.int .i64) (.int .i64)), (34, .cells 63 [(.slf 38), (.val (.list (.int .i64))), (.val (.int .i64))]), (35, .cells 68 [(.slf 39)]), (36, .row 3 (.int .i64)), (37, .row 3 (.int .i64)), (38, .row 3 (.int .i64)), (39, .row 5 (.int .u8))]⟩
noncomputable def Bjj : Acj := .cons .normal A26 (.nil)
@[reducible] def Bzp (R : Type) : Type := d3 → Int → Int → Int → d3 → Int → Int → Int → d2 → d0 → Int → Int → Int → Int → d0 → d0 → d0 → d0 → (d3 → d3 → Int → Int → Int → d2 → d0 → Int → d0 → d0 → d0 → d0 → Option R) → Option R
@[reducible] def Anl : Type 1 := {R : Type} → Nat → Bzp R
noncomputable def A7g (Aaf : Ac1) (Acp : Aj8) (Aam : Aeh) (Abg : Aho) : Anl := fun {R} N x0 x1 x2 x3 x4 x5 x6 x7 x8 x9 x10 x11 x12 x13 x14 x15 x16 x17 K0 =>
    if (((0 : Int) ≤ x1) ∧ (x1 < (len x9))) then (let v0 := (List.getD x9 (Int.toNat x1) (0 : Int)); Aaf N ((wi (x11 + (wi ((32 : Int) * v0))))) x17 (fun y0 => if (((0 : Int) ≤ x1) ∧ (x1 < (len x9))) then (Acp N v0 (fun y1 => Aam N x2 y1 y0 (fun y2 => Abg N x11 (fun y3 => Aam N x3 y3 y2 (fun y4 => K0 x0 x4 x5 x6 x7 x8 x9 x10 x14 x15 x16 y4))))) else none)) else none
noncomputable def Aee : Anl := @A7g @Aaf @Acp @Aam @Abg
noncomputable def A0c (Aee : Anl) (N : Nat) : Aap Aly := fun R x K => Aee N x.1.1 x.1.2.2.2.2.2.1 x.1.2.2.2.2.2.2.2.1 x.1.2.2.2.2.2.2.2.2.1 x.1.2.2.2.2.2.2.2.2.2.1 x.1.2.2.2.2.2.2.2.2.2.2.1 x.1.2.2.2.2.2.2.2.2.2.2.2.1 x.2.1.2.2.1 x.2.2.1 x.2.2.2.1.2.1 x.2.2.2.1.2.2.1 x.2.2.2.2.2.1.1 x.2.2.2.2.2.1.2.1 x.2.2.2.2.2.1.2.2.1 x.2.2.2.2.2.2.1 x.2.2.2.2.2.2.2.1 x.2.2.2.2.2.2.2.2.1 x.2.2.2.2.2.2.2.2.2.1 (fun y0 y1 y2 y3 y4 y5 y6 y7 y8 y9 y10 y11 => K .normal (Aab A26 ((y0, (), (), (), (), y1, y2, y3, ()), (((), (), y4, ()), y5, ((), y6, y7, ()), ((), ()), y8, y9, y10, y11, ()))))
noncomputable def Bjk (N : Nat) : Aap Aly := A0c @Aee N
noncomputable def Aja : Aac := ⟨[(0, .one (.val z3)), (3, .one (.ptr 32)), (4, .one (.mp 33)), (5, .one (.ptr 34)), (6, .one (.ptr 35)), (18, .one (.val z3)), (19, .one (.val (.int .i64))), (20, .one (.val (.int .i64)))], [(32, .cells 63 [(.slf 36), (.slf 37), (.val (.int .i64))]), (33, .amap 82 (.int .i64) (.int .i64)), (34, .cells 63 [(.slf 38), (.val (.list (.int .i64))), (.val (.int .i64))]), (35, .cells 68 [(.slf 39)]), (36, .row 3 (.int .i64)), (37, .row 3 (.int .i64)), (38, .row 3 (.int .i64)), (39, .row 5 (.int .u8))]⟩
noncomputable def Au2 : Aac := ⟨[(3, .one (.ptr 32)), (5, .one (.ptr 33)), (6, .one (.ptr 34))], [(32, .cells 63 [(.slf 35), (.slf 36), (.val (.int .i64))]), (33, .cells 63 [(.slf 37), (.val (.list (.int .i64))), (.val (.int .i64))]), (34, .cells 68 [(.slf 38)]), (35, .row 3 (.int .i64)), (36, .row 3 (.int .i64)), (37, .row 3 (.int .i64)), (38, .row 5 (.int .u8))]⟩
noncomputable def Bjl : Acj := .cons (.exit 0) Au2 (.nil)
@[reducible] def A7h (R : Type) : Type := d3 → d3 → Int → Int → Int → d2 → d0 → Int → d0 → d0 → d0 → d0 → (Int → d0 → Int → d0 → d0 → d0 → d0 → Option R) → Option R
@[reducible] def Bjm (R : Type) : Type := d3 → d3 → Int → Int → Int → d2 → d0 → Int → d0 → d0 → d0 → d0 → Option R
@[reducible] def At0 : Type 1 := {R : Type} → Nat → Nat → A7h R
noncomputable def A7i (Aay : Afl) (Aee : Anl) (Aav : Ad5) {R : Type} (N : Nat) (rc : Bjm R) : A7h R := fun x0 x1 x2 x3 x4 x5 x6 x7 x8 x9 x10 x11 K0 =>
    if ((decide ((x3 < x2))) = true) then (if (((0 : Int) ≤ x3) ∧ (x3 < (len x1))) then (let v0 := (List.getD x1 (Int.toNat x3) ((0 : Int), ((0 : Int), (0 : Int)))).1; let v1 := (List.getD x1 (Int.toNat x3) ((0 : Int), ((0 : Int), (0 : Int)))).2.1; let v2 := (List.getD x1 (Int.toNat x3) ((0 : Int), ((0 : Int), (0 : Int)))).2.2; if ((v0 == (19 : Int)) = true) then (rc x0 x1 x2 ((wi (x3 + (1 : Int)))) x4 x5 x6 x7 x8 x9 x10 x11) else (if ((v0 == (30 : Int)) = true) then (let v3 := (Option.getD (Aov (kt := (.int .i64)) (et := (.int .i64)) v2 x5) (0 : Int)); if (((0 : Int) ≤ v3) ∧ (v3 < (len x10))) then (Aay N x10 x6 x7 x0 x3 (fun y0 => Aee N x0 x3 v1 ((wi ((List.getD x10 (Int.toNat v3) (0 : Int)) - y0))) x1 x2 x3 x4 x5 x6 x7 v0 v1 v2 x8 x9 x10 x11 (fun y1 y2 y3 y4 y5 y6 y7 y8 y9 y10 y11 y12 => rc y1 y2 y3 ((wi (y4 + (1 : Int)))) y5 y6 y7 y8 y9 y10 y11 y12))) else none) else (Aav N v0 v1 v2 (fun y13 => if ((decide ((y13 > (0 : Int)))) = true) then (let v4 := (Option.getD (Aov (kt := (.int .i64)) (et := (.int .i64)) v1 x5) (0 : Int)); if (((0 : Int) ≤ v4) ∧ (v4 < (len x10))) then (Aay N x10 x6 x7 x0 x3 (fun y14 => Aee N x0 x3 ((wi ((List.getD x10 (Int.toNat v4) (0 : Int)) - y14))) v2 x1 x2 x3 x4 x5 x6 x7 v0 v1 v2 x8 x9 x10 x11 (fun y15 y16 y17 y18 y19 y20 y21 y22 y23 y24 y25 y26 => rc y15 y16 y17 ((wi (y18 + (1 : Int)))) y19 y20 y21 y22 y23 y24 y25 y26))) else none) else (Aee N x0 x3 v1 v2 x1 x2 x3 x4 x5 x6 x7 v0 v1 v2 x8 x9 x10 x11 (fun y27 y28 y29 y30 y31 y32 y33 y34 y35 y36 y37 y38 => rc y27 y28 y29 ((wi (y30 + (1 : Int)))) y31 y32 y33 y34 y35 y36 y37 y38)))))) else none) else (K0 x4 x6 x7 x8 x9 x10 x11)
noncomputable def Aey {R : Type} (N : Nat) : Nat → A7h R
  | 0 => fun _ _ _ _ _ _ _ _ _ _ _ _ _ => none
  | k + 1 => fun x0 x1 x2 x3 x4 x5 x6 x7 x8 x9 x10 x11 K0 => A7i @Aay @Aee @Aav N (fun x0 x1 x2 x3 x4 x5 x6 x7 x8 x9 x10 x11 => Aey N k x0 x1 x2 x3 x4 x5 x6 x7 x8 x9 x10 x11 K0) x0 x1 x2 x3 x4 x5 x6 x7 x8 x9 x10 x11 K0
noncomputable def A0d (Aey : At0) (N k : Nat) : Aap Aja := fun R x K => Aey N k x.1.1 x.1.2.2.2.2.2.1 x.1.2.2.2.2.2.2.1 x.1.2.2.2.2.2.2.2.1 x.2.1.2.2.1 x.2.2.1 x.2.2.2.1.2.1 x.2.2.2.1.2.2.1 x.2.2.2.2.2.1 x.2.2.2.2.2.2.1 x.2.2.2.2.2.2.2.1 x.2.2.2.2.2.2.2.2.1 (fun y0 y1 y2 y3 y4 y5 y6 => K (.exit 0) (Aab Au2 (((), (), (), ()), (((), (), y0, ()), ((), y1, y2, ()), ((), ()), y3, y4, y5, y6, ()))))
noncomputable def A7j (N k : Nat) : Aap Aja := A0d @Aey N k
noncomputable def Bij : Aac := ⟨[(0, .one (.val z3))], []⟩
noncomputable def A1z : Aac := ⟨[(0, .one (.slf 32)), (1, .agg [(.slf 33), (.val (.list (.int .i64))), (.val (.int .i64))])], [(32, .row 5 (.int .u8)), (33, .row 3 (.int .i64))]⟩
@[reducible] def B8j (R : Type) : Type := d3 → (d0 → Int → d0 → d0 → Option R) → Option R
@[reducible] def A1j : Type 1 := {R : Type} → Nat → B8j R
noncomputable def Bik (Agr : Ap9) (Ahr : Asp) (Aey : At0) : A1j := fun {R} N x0 K0 =>
    Agr N x0 (fun y0 => Ahr N x0 y0 (fun y1 y2 y3 y4 => Aey N N x0 x0 ((len x0)) 0 0 y3 y1 y2 (([] : List Int)) (([] : List Int)) y4 (([] : List Int)) (fun y5 y6 y7 y8 y9 y10 y11 => K0 y6 y7 y11 y10)))
noncomputable def Alz : A1j := @Bik @Agr @Ahr @Aey
noncomputable def Ch9 (N : Nat) : Abl Bij [A1z] := fun R x C => Alz N x.1.1 (fun y0 y1 y2 y3 => C.1 (((), ((), y0, y1, ()), ()), (y2, y3, ())))
noncomputable def Bs4 (Alz : A1j) (N : Nat) : Go.AX.Aai := Ack [true] [] false 1 0 Bij [A1z] (fun R x C => Alz N x.1.1 (fun y0 y1 y2 y3 => C.1 (((), ((), y0, y1, ()), ()), (y2, y3, ()))))
noncomputable def Bs5 (N : Nat) : Go.AX.Aai := Bs4 @Alz N
noncomputable def Cia (N : Nat) : List (Nat × Acn) := [(26, Aaa Aly (Bjk N)), (11, Aaa Aja (A7j N N))]
noncomputable def B8k (N : Nat) : List (Nat × Go.AX.Aai) := [(90, Bo5 N), (91, Bs3 N), (92, A00 N), (46, Aod N), (60, A44 N), (48, A03 N), (37, Ayf N), (54, Av9 N)]
noncomputable def Bev : Aac := ⟨[(0, .agg [(.val .str), (.val z2), (.val z3), (.val z1), (.val (.int .i64)), (.val (.int .i64))])], []⟩
noncomputable def A0e : Aac := ⟨[(0, .one (.slf 32)), (1, .agg [(.slf 33), (.slf 34), (.val (.int .i64))]), (2, .one (.val (.int .i64)))], [(32, .row 5 (.int .u8)), (33, .row 3 (.int .i64)), (34, .row 3 (.int .i64))]⟩
noncomputable def A0f : Aac := ⟨[(0, .one (.slf 32)), (1, .agg [(.slf 33), (.val (.list (.int .i64))), (.val (.int .i64))]), (2, .one (.val (.int .i64)))], [(32, .row 5 (.int .u8)), (33, .row 3 (.int .i64))]⟩
@[reducible] def B65 (R : Type) : Type := (List UInt8) → d4 → d3 → d1 → Int → Int → (Int → Int → d0 → d0 → d0 → Option R) → (d0 → Int → Int → d0 → d0 → Option R) → Option R
@[reducible] def Aoe : Type 1 := {R : Type} → Nat → B65 R
noncomputable def Bew (Ai9 : Awb) (Alz : A1j) : Aoe := fun {R} N x0 x1 x2 x3 x4 x5 K0 K1 =>
    Ai9 N x0 x1 x2 x3 x4 x5 (fun y0 => if ((y0 != (0 : Int)) = true) then (K0 0 y0 (([] : List Int)) (([] : List Int)) (([] : List Int))) else (Alz N x2 (fun y1 y2 y3 y4 => if ((decide (((len y3) > (32767 : Int)))) = true) then (K0 0 2 (([] : List Int)) (([] : List Int)) (([] : List Int))) else (if ((decide (((len x0) > (255 : Int)))) = true) then (K0 0 2 (([] : List Int)) (([] : List Int)) (([] : List Int))) else (if ((decide (((len x3) > (255 : Int)))) = true) then (K0 0 2 (([] : List Int)) (([] : List Int)) (([] : List Int))) else (K1 y1 y2 0 y3 y4))))))
noncomputable def Afe : Aoe := @Bew @Ai9 @Alz
noncomputable def Cht (N : Nat) : Abl Bev [A0e, A0f] := fun R x C => Afe N x.1.1.1 x.1.1.2.1 x.1.1.2.2.1 x.1.1.2.2.2.1 x.1.1.2.2.2.2.1 x.1.1.2.2.2.2.2.1 (fun y0 y1 y2 y3 y4 => C.1 (((), ((), (), y0, ()), y1, ()), (y2, y3, y4, ()))) (fun y0 y1 y2 y3 y4 => C.2.1 (((), ((), y0, y1, ()), y2, ()), (y3, y4, ())))
noncomputable def Ayw (Afe : Aoe) (N : Nat) : Go.AX.Aai := Ack [true] [] false 1 0 Bev [A0e, A0f] (fun R x C => Afe N x.1.1.1 x.1.1.2.1 x.1.1.2.2.1 x.1.1.2.2.2.1 x.1.1.2.2.2.2.1 x.1.1.2.2.2.2.2.1 (fun y0 y1 y2 y3 y4 => C.1 (((), ((), (), y0, ()), y1, ()), (y2, y3, y4, ()))) (fun y0 y1 y2 y3 y4 => C.2.1 (((), ((), y0, y1, ()), y2, ()), (y3, y4, ()))))
noncomputable def Bpb (N : Nat) : Go.AX.Aai := Ayw @Afe N
noncomputable def Chu (N : Nat) : List (Nat × Acn) := []
noncomputable def B66 (N : Nat) : List (Nat × Go.AX.Aai) := [(67, Bmp N), (68, Bs5 N)]
noncomputable def A9b : Code := Go.Proofs.Try.f47.body.getD .skip
noncomputable def Ayx : Aac := ⟨[(0, .one (.ptr 0)), (1, .one (.val .str))], [(0, .cells 68 [(.slf 1)]), (1, .row 5 (.int .u8))]⟩
noncomputable def Apd : Aac := ⟨[(0, .one (.ptr 0))], [(0, .cells 68 [(.slf 1)]), (1, .row 5 (.int .u8))]⟩
@[reducible] def Bpc (R : Type) : Type := (List UInt8) → d0 → (d0 → Option R) → Option R
@[reducible] def Ahs : Type 1 := {R : Type} → Nat → Bpc R
noncomputable def Ayy (Aaf : Ac1) : Ahs := fun {R} N x0 x1 K0 =>
    Aaf N ((len x0)) x1 (fun y0 => if ((((List.length y0) + (List.length (List.map (fun b : UInt8 => (((UInt8.toNat b) : Nat) : Int)) x0))) * (1 : Nat)) ≤ (70368744177664 : Nat)) then (K0 ((y0 ++ (List.map (fun b : UInt8 => (((UInt8.toNat b) : Nat) : Int)) x0)))) else none)
noncomputable def Abn : Ahs := @Ayy @Aaf
noncomputable def Cb7 (N : Nat) : Abl Ayx [Apd] := fun R x C => Abn N x.1.2.1 x.2.2.1 (fun y0 => C.1 (((), ()), (((), ()), y0, ())))
noncomputable def Aof (Abn : Ahs) (N : Nat) : Go.AX.Aai := Ack [false, true] (List.replicate 32 true) true 2 2 Ayx [Apd] (fun R x C => Abn N x.1.2.1 x.2.2.1 (fun y0 => C.1 (((), ()), (((), ()), y0, ()))))
noncomputable def A9c (N : Nat) : Go.AX.Aai := Aof @Abn N
noncomputable def Cb8 (N : Nat) : List (Nat × Acn) := []
noncomputable def Bpd (N : Nat) : List (Nat × Go.AX.Aai) := [(46, Aod N)]
noncomputable def Aif : Aac := ⟨[(1, .one (.ptr 32)), (4, .one (.slf 33)), (7, .one (.ptr 34)), (37, .one (.val z2)), (38, .one (.val (.int .i64))), (39, .one (.val (.int .i64))), (57, .one (.val (.list (.int .i64)))), (58, .one (.val (.int .i64))), (59, .one (.val (.int .i64)))], [(32, .cells 34 [(.val .str), (.val z2), (.val z3), (.val z1), (.val (.int .i64)), (.val (.int .i64))]), (33, .row 5 (.int .u8)), (34, .cells 68 [(.slf 35)]), (35, .row 5 (.int .u8))]⟩
noncomputable def Au3 : Aac := ⟨[(1, .one (.ptr 32)), (4, .one (.slf 33)), (7, .one (.ptr 34)), (37, .one (.val z2)), (38, .one (.val (.int .i64))), (39, .one (.val (.int .i64)))], [(32, .cells 34 [(.val .str), (.val z2), (.val z3), (.val z1), (.val (.int .i64)), (.val (.int .i64))]), (33, .row 5 (.int .u8)), (34, .cells 68 [(.slf 35)]), (35, .row 5 (.int .u8))]⟩
noncomputable def Bjn : Acj := .cons (.exit 2) Au3 (.nil)
@[reducible] def A7k (R : Type) : Type := d4 → Int → Int → d0 → Int → Int → (List UInt8) → d4 → d3 → d1 → Int → Int → d0 → d0 → (d4 → Int → Int → (List UInt8) → d4 → d3 → d1 → Int → Int → d0 → d0 → Option R) → Option R
@[reducible] def Bjo (R : Type) : Type := d4 → Int → Int → d0 → Int → Int → (List UInt8) → d4 → d3 → d1 → Int → Int → d0 → d0 → Option R
@[reducible] def Apq : Type 1 := {R : Type} → Nat → Nat → A7k R
noncomputable def A7l (Aam : Aeh) {R : Type} (N : Nat) (rc : Bjo R) : A7k R := fun x0 x1 x2 x3 x4 x5 x6 x7 x8 x9 x10 x11 x12 x13 K0 =>
    if ((decide ((x5 < x4))) = true) then (if (((0 : Int) ≤ x5) ∧ (x5 < (len x3))) then (Aam N ((List.getD x3 (Int.toNat x5) (0 : Int))) 4 x13 (fun y0 => rc x0 x1 x2 x3 x4 ((wi (x5 + (1 : Int)))) x6 x7 x8 x9 x10 x11 x12 y0)) else none) else (K0 x0 x1 x2 x6 x7 x8 x9 x10 x11 x12 x13)
noncomputable def Ad1 {R : Type} (N : Nat) : Nat → A7k R
  | 0 => fun _ _ _ _ _ _ _ _ _ _ _ _ _ _ _ => none
  | k + 1 => fun x0 x1 x2 x3 x4 x5 x6 x7 x8 x9 x10 x11 x12 x13 K0 => A7l @Aam N (fun x0 x1 x2 x3 x4 x5 x6 x7 x8 x9 x10 x11 x12 x13 => Ad1 N k x0 x1 x2 x3 x4 x5 x6 x7 x8 x9 x10 x11 x12 x13 K0) x0 x1 x2 x3 x4 x5 x6 x7 x8 x9 x10 x11 x12 x13 K0
noncomputable def At1 (Ad1 : Apq) (N k : Nat) : Aap Aif := fun R x K => Ad1 N k x.1.2.2.2.1 x.1.2.2.2.2.1 x.1.2.2.2.2.2.1 x.1.2.2.2.2.2.2.1 x.1.2.2.2.2.2.2.2.1 x.1.2.2.2.2.2.2.2.2.1 x.2.1.1 x.2.1.2.1 x.2.1.2.2.1 x.2.1.2.2.2.1 x.2.1.2.2.2.2.1 x.2.1.2.2.2.2.2.1 x.2.2.1 x.2.2.2.2.1 (fun y0 y1 y2 y3 y4 y5 y6 y7 y8 y9 y10 => K (.exit 2) (Aab Au3 (((), (), (), y0, y1, y2, ()), ((y3, y4, y5, y6, y7, y8, ()), y9, ((), ()), y10, ()))))
noncomputable def A7m (N k : Nat) : Aap Aif := At1 @Ad1 N k
noncomputable def Aig : Aac := ⟨[(1, .one (.ptr 32)), (4, .one (.slf 33)), (7, .one (.ptr 34)), (37, .one (.val z2)), (38, .one (.val (.int .i64))), (39, .one (.val (.int .i64)))], [(32, .cells 34 [(.val .str), (.val z2), (.val z3), (.val z1), (.val (.int .i64)), (.val (.int .i64))]), (33, .row 5 (.int .u8)), (34, .cells 68 [(.slf 35)]), (35, .row 5 (.int .u8))]⟩
noncomputable def Au4 : Aac := ⟨[(1, .one (.ptr 32)), (4, .one (.slf 33)), (7, .one (.ptr 34))], [(32, .cells 34 [(.val .str), (.val z2), (.val z3), (.val z1), (.val (.int .i64)), (.val (.int .i64))]), (33, .row 5 (.int .u8)), (34, .cells 68 [(.slf 35)]), (35, .row 5 (.int .u8))]⟩
noncomputable def Bjp : Acj := .cons (.exit 0) Au4 (.nil)
@[reducible] def A7n (R : Type) : Type := d4 → Int → Int → (List UInt8) → d4 → d3 → d1 → Int → Int → d0 → d0 → ((List UInt8) → d4 → d3 → d1 → Int → Int → d0 → d0 → Option R) → Option R
@[reducible] def Bjq (R : Type) : Type := d4 → Int → Int → (List UInt8) → d4 → d3 → d1 → Int → Int → d0 → d0 → Option R
@[reducible] def Apr : Type 1 := {R : Type} → Nat → Nat → A7n R
noncomputable def A7o (Aaf : Ac1) (Abn : Ahs) (Aam : Aeh) (Ad1 : Apq) {R : Type} (N : Nat) (rc : Bjq R) : A7n R := fun x0 x1 x2 x3 x4 x5 x6 x7 x8 x9 x10 K0 =>
    if ((decide ((x2 < x1))) = true) then (if (((0 : Int) ≤ x2) ∧ (x2 < (len x0))) then (let v0 := (List.getD x0 (Int.toNat x2) (([] : List UInt8), (false, ([] : List Int)))).2.2; if ((List.getD x0 (Int.toNat x2) (([] : List UInt8), (false, ([] : List Int)))).2.1 = true) then (Aaf N 0 x10 (fun y0 => Abn N ((List.getD x0 (Int.toNat x2) (([] : List UInt8), (false, ([] : List Int)))).1) y0 (fun y1 => rc x0 x1 ((wi (x2 + (1 : Int)))) x3 x4 x5 x6 x7 x8 x9 y1))) else (Aaf N 1 x10 (fun y2 => Aam N ((len v0)) 2 y2 (fun y3 => Ad1 N N x0 x1 x2 v0 ((len v0)) 0 x3 x4 x5 x6 x7 x8 x9 y3 (fun y4 y5 y6 y7 y8 y9 y10 y11 y12 y13 y14 => rc y4 y5 ((wi (y6 + (1 : Int)))) y7 y8 y9 y10 y11 y12 y13 y14))))) else none) else (K0 x3 x4 x5 x6 x7 x8 x9 x10)
noncomputable def Adl {R : Type} (N : Nat) : Nat → A7n R
  | 0 => fun _ _ _ _ _ _ _ _ _ _ _ _ => none
  | k + 1 => fun x0 x1 x2 x3 x4 x5 x6 x7 x8 x9 x10 K0 => A7o @Aaf @Abn @Aam @Ad1 N (fun x0 x1 x2 x3 x4 x5 x6 x7 x8 x9 x10 => Adl N k x0 x1 x2 x3 x4 x5 x6 x7 x8 x9 x10 K0) x0 x1 x2 x3 x4 x5 x6 x7 x8 x9 x10 K0
noncomputable def At2 (Adl : Apr) (N k : Nat) : Aap Aig := fun R x K => Adl N k x.1.2.2.2.1 x.1.2.2.2.2.1 x.1.2.2.2.2.2.1 x.2.1.1 x.2.1.2.1 x.2.1.2.2.1 x.2.1.2.2.2.1 x.2.1.2.2.2.2.1 x.2.1.2.2.2.2.2.1 x.2.2.1 x.2.2.2.2.1 (fun y0 y1 y2 y3 y4 y5 y6 y7 => K (.exit 0) (Aab Au4 (((), (), (), ()), ((y0, y1, y2, y3, y4, y5, ()), y6, ((), ()), y7, ()))))
noncomputable def A7p (N k : Nat) : Aap Aig := At2 @Adl N k
noncomputable def Aih : Aac := ⟨[(4, .one (.slf 32)), (7, .one (.ptr 33)), (74, .one (.val z1)), (75, .one (.val (.int .i64))), (76, .one (.val (.int .i64)))], [(32, .row 5 (.int .u8)), (33, .cells 68 [(.slf 34)]), (34, .row 5 (.int .u8))]⟩
noncomputable def Au5 : Aac := ⟨[(4, .one (.slf 32)), (7, .one (.ptr 33))], [(32, .row 5 (.int .u8)), (33, .cells 68 [(.slf 34)]), (34, .row 5 (.int .u8))]⟩
noncomputable def Bjr : Acj := .cons (.exit 4) Au5 (.nil)
@[reducible] def A7q (R : Type) : Type := d1 → Int → Int → d0 → d0 → (d0 → d0 → Option R) → Option R
@[reducible] def Bjs (R : Type) : Type := d1 → Int → Int → d0 → d0 → Option R
@[reducible] def Aps : Type 1 := {R : Type} → Nat → Nat → A7q R
noncomputable def A7r (Aaf : Ac1) (Aam : Aeh) {R : Type} (N : Nat) (rc : Bjs R) : A7q R := fun x0 x1 x2 x3 x4 K0 =>
    if ((decide ((x2 < x1))) = true) then (if (((0 : Int) ≤ x2) ∧ (x2 < (len x0))) then (Aaf N ((List.getD x0 (Int.toNat x2) ((0 : Int), (0 : Int))).1) x4 (fun y0 => Aam N ((List.getD x0 (Int.toNat x2) ((0 : Int), (0 : Int))).2) 2 y0 (fun y1 => rc x0 x1 ((wi (x2 + (1 : Int)))) x3 y1))) else none) else (K0 x3 x4)
noncomputable def Adm {R : Type} (N : Nat) : Nat → A7q R
  | 0 => fun _ _ _ _ _ _ => none
  | k + 1 => fun x0 x1 x2 x3 x4 K0 => A7r @Aaf @Aam N (fun x0 x1 x2 x3 x4 => Adm N k x0 x1 x2 x3 x4 K0) x0 x1 x2 x3 x4 K0
noncomputable def At3 (Adm : Aps) (N k : Nat) : Aap Aih := fun R x K => Adm N k x.1.2.2.1 x.1.2.2.2.1 x.1.2.2.2.2.1 x.2.1 x.2.2.2.1 (fun y0 y1 => K (.exit 4) (Aab Au5 (((), (), ()), (y0, ((), ()), y1, ()))))
noncomputable def A7s (N k : Nat) : Aap Aih := At3 @Adm N k
noncomputable def Au6 : Code := Go.Proofs.Try.f31.body.getD .skip
noncomputable def Amh : Aac := ⟨[(3, .one (.val (.int .i64))), (6, .one (.val (.list (.int .u8)))), (7, .one (.val (.int .i64))), (8, .one (.val (.int .i64)))], []⟩
noncomputable def A0g : Aac := ⟨[(3, .one (.val (.int .i64)))], []⟩
noncomputable def Bpe : Acj := .cons (.exit 0) A0g (.nil)
@[reducible] def Bex (R : Type) : Type := Int → d0 → Int → Int → (Int → Option R) → Option R
@[reducible] def Bpf (R : Type) : Type := Int → d0 → Int → Int → Option R
@[reducible] def A49 : Type 1 := {R : Type} → Nat → Nat → Bex R
noncomputable def Bey {R : Type} (N : Nat) (rc : Bpf R) : Bex R := fun x0 x1 x2 x3 K0 =>
    if ((decide ((x3 < x2))) = true) then (if (((0 : Int) ≤ x3) ∧ (x3 < (len x1))) then (let v0 := (wi (x3 + (1 : Int))); rc ((Bn7 .i64 (wi (x0 + (wi (v0 * (wi (List.getD x1 (Int.toNat x3) (0 : Int))))))) (4294967295 : Int))) x1 x2 v0) else none) else (K0 x0)
noncomputable def Aht {R : Type} (N : Nat) : Nat → Bex R
  | 0 => fun _ _ _ _ _ => none
  | k + 1 => fun x0 x1 x2 x3 K0 => Bey N (fun x0 x1 x2 x3 => Aht N k x0 x1 x2 x3 K0) x0 x1 x2 x3 K0
noncomputable def Bez (Aht : A49) (N k : Nat) : Aap Amh := fun R x K => Aht N k x.1.1 x.1.2.1 x.1.2.2.1 x.1.2.2.2.1 (fun y0 => K (.exit 0) (Aab A0g ((y0, ()), (()))))
noncomputable def Be0 (N k : Nat) : Aap Amh := Bez @Aht N k
noncomputable def Bli : Aac := ⟨[(0, .one (.val (.list (.int .u8))))], []⟩
noncomputable def A5a : Aac := ⟨[(0, .one (.val (.int .i64)))], []⟩
@[reducible] def Cam (R : Type) : Type := d0 → (Int → Option R) → Option R
@[reducible] def Ar1 : Type 1 := {R : Type} → Nat → Cam R
noncomputable def Blj (Aht : A49) : Ar1 := fun {R} N x0 K0 =>
    Aht N N 0 x0 ((len x0)) 0 (fun y0 => K0 y0)
noncomputable def Afv : Ar1 := @Blj @Aht
noncomputable def Ciq (N : Nat) : Abl Bli [A5a] := fun R x C => Afv N x.1.1 (fun y0 => C.1 ((y0, ()), (())))
noncomputable def A5b (Afv : Ar1) (N : Nat) : Go.AX.Aai := Ack [true] [] false 1 0 Bli [A5a] (fun R x C => Afv N x.1.1 (fun y0 => C.1 ((y0, ()), (()))))
noncomputable def Bw5 (N : Nat) : Go.AX.Aai := A5b @Afv N
noncomputable def Cir (N : Nat) : List (Nat × Acn) := [(7, Aaa Amh (Be0 N N))]
noncomputable def Can (N : Nat) : List (Nat × Go.AX.Aai) := []
noncomputable def Bil : Aac := ⟨[(0, .agg [(.val .str), (.val z2), (.val z3), (.val z1), (.val (.int .i64)), (.val (.int .i64))])], []⟩
noncomputable def A10 : Aac := ⟨[(0, .one (.slf 32)), (1, .one (.val (.int .i64)))], [(32, .row 5 (.int .u8))]⟩
@[reducible] def B8l (R : Type) : Type := (List UInt8) → d4 → d3 → d1 → Int → Int → (Int → d0 → Option R) → Option R
@[reducible] def A1k : Type 1 := {R : Type} → Nat → B8l R
noncomputable def Bim (Afe : Aoe) (Aaf : Ac1) (Abn : Ahs) (Aam : Aeh) (Adl : Apr) (Adm : Aps) (Afv : Ar1) : A1k := fun {R} N x0 x1 x2 x3 x4 x5 K0 =>
    Afe N x0 x1 x2 x3 x4 x5 (fun y0 y1 y2 y3 y4 => if ((y1 != (0 : Int)) = true) then (K0 y1 (([] : List Int))) else (Aaf N 98 (([] : List Int)) (fun y5 => Aaf N 98 y5 (fun y6 => Aaf N 1 y6 (fun y7 => Abn N x0 y7 (fun y8 => Aam N ((len x1)) 2 y8 (fun y9 => Adl N N x1 ((len x1)) 0 x0 x1 x2 x3 x4 x5 y2 y9 (fun y10 y11 y12 y13 y14 y15 y16 y17 => Aaf N ((len y13)) y17 (fun y18 => Adm N N y13 ((len y13)) 0 y16 y18 (fun y19 y20 => Aam N ((len y19)) 4 y20 (fun y21 => if ((((List.length y21) + (List.length y19)) * (1 : Nat)) ≤ (70368744177664 : Nat)) then (Afv N ((y21 ++ y19)) (fun y22 => Aam N y22 4 ((y21 ++ y19)) (fun y23 => K0 0 y23))) else none))))))))))) (fun y24 y25 y26 y27 y28 => if ((y26 != (0 : Int)) = true) then (K0 y26 (([] : List Int))) else (Aaf N 98 (([] : List Int)) (fun y29 => Aaf N 98 y29 (fun y30 => Aaf N 1 y30 (fun y31 => Abn N x0 y31 (fun y32 => Aam N ((len x1)) 2 y32 (fun y33 => Adl N N x1 ((len x1)) 0 x0 x1 x2 x3 x4 x5 y27 y33 (fun y34 y35 y36 y37 y38 y39 y40 y41 => Aaf N ((len y37)) y41 (fun y42 => Adm N N y37 ((len y37)) 0 y40 y42 (fun y43 y44 => Aam N ((len y43)) 4 y44 (fun y45 => if ((((List.length y45) + (List.length y43)) * (1 : Nat)) ≤ (70368744177664 : Nat)) then (Afv N ((y45 ++ y43)) (fun y46 => Aam N y46 4 ((y45 ++ y43)) (fun y47 => K0 0 y47))) else none)))))))))))
noncomputable def Al0 : A1k := @Bim @Afe @Aaf @Abn @Aam @Adl @Adm @Afv
noncomputable def Cib (N : Nat) : Abl Bil [A10] := fun R x C => Al0 N x.1.1.1 x.1.1.2.1 x.1.1.2.2.1 x.1.1.2.2.2.1 x.1.1.2.2.2.2.1 x.1.1.2.2.2.2.2.1 (fun y0 y1 => C.1 (((), y0, ()), (y1, ())))
noncomputable def Bs6 (Al0 : A1k) (N : Nat) : Go.AX.Aai := Ack [true] [] false 1 0 Bil [A10] (fun R x C => Al0 N x.1.1.1 x.1.1.2.1 x.1.1.2.2.1 x.1.1.2.2.2.1 x.1.1.2.2.2.2.1 x.1.1.2.2.2.2.2.1 (fun y0 y1 => C.1 (((), y0, ()), (y1, ()))))
noncomputable def Bs7 (N : Nat) : Go.AX.Aai := Bs6 @Al0 N
noncomputable def Cic (N : Nat) : List (Nat × Acn) := [(27, Aaa Aif (A7m N N)), (15, Aaa Aig (A7p N N)), (41, Aaa Aih (A7s N N))]
noncomputable def B8m (N : Nat) : List (Nat × Go.AX.Aai) := [(45, Bpb N), (46, Aod N), (47, A9c N), (48, A03 N), (31, Bw5 N)]
noncomputable def Afw : Code := Go.Proofs.Try.f17.body.getD .skip
noncomputable def Bmt : Code := Go.Proofs.Try.f49.body.getD .skip
noncomputable def Ao2 : Code := Go.Proofs.Try.f66.body.getD .skip
noncomputable def Ami : Code := Go.Proofs.Try.f81.body.getD .skip
noncomputable def Ahu : Aac := ⟨[(1, .one (.ptr 32)), (3, .one (.val (.int .i64))), (4, .one (.val (.int .i64)))], [(32, .cells 34 [(.val .str), (.val z2), (.val z3), (.val z1), (.val (.int .i64)), (.val (.int .i64))])]⟩
noncomputable def Ape : Aac := ⟨[(3, .one (.val (.int .i64)))], []⟩
noncomputable def A9d : Acj := .cons (.exit 0) Ape (.nil)
@[reducible] def Ayz (R : Type) : Type := Int → Int → (List UInt8) → d4 → d3 → d1 → Int → Int → (Int → Option R) → Option R
@[reducible] def A9e (R : Type) : Type := Int → Int → (List UInt8) → d4 → d3 → d1 → Int → Int → Option R
@[reducible] def Ar2 : Type 1 := {R : Type} → Nat → Nat → Ayz R
noncomputable def Ar3 {R : Type} (N : Nat) (rc : A9e R) : Ayz R := fun x0 x1 x2 x3 x4 x5 x6 x7 K0 =>
    if ((decide ((x1 < (len x3)))) = true) then (if (((0 : Int) ≤ x1) ∧ (x1 < (len x3))) then (let v0 := (wi (x0 + (((List.length (List.getD x3 (Int.toNat x1) (([] : List UInt8), (false, ([] : List Int)))).2.2) : Nat) : Int))); if (((0 : Int) ≤ x1) ∧ (x1 < (len x3))) then (if ((List.getD x3 (Int.toNat x1) (([] : List UInt8), (false, ([] : List Int)))).2.1 = true) then (if (((0 : Int) ≤ x1) ∧ (x1 < (len x3))) then (rc ((wi (v0 + (wi (Int.tdiv (wi ((((List.length (List.getD x3 (Int.toNat x1) (([] : List UInt8), (false, ([] : List Int)))).1) : Nat) : Int) + (2 : Int))) (2 : Int)))))) ((wi (x1 + (1 : Int)))) x2 x3 x4 x5 x6 x7) else none) else (rc v0 ((wi (x1 + (1 : Int)))) x2 x3 x4 x5 x6 x7)) else none) else none) else (K0 x0)
noncomputable def Adr {R : Type} (N : Nat) : Nat → Ayz R
  | 0 => fun _ _ _ _ _ _ _ _ _ => none
  | k + 1 => fun x0 x1 x2 x3 x4 x5 x6 x7 K0 => Ar3 N (fun x0 x1 x2 x3 x4 x5 x6 x7 => Adr N k x0 x1 x2 x3 x4 x5 x6 x7 K0) x0 x1 x2 x3 x4 x5 x6 x7 K0
noncomputable def Ay0 (Adr : Ar2) (N k : Nat) : Aap Ahu := fun R x K => Adr N k x.1.2.1 x.1.2.2.1 x.2.1.1 x.2.1.2.1 x.2.1.2.2.1 x.2.1.2.2.2.1 x.2.1.2.2.2.2.1 x.2.1.2.2.2.2.2.1 (fun y0 => K (.exit 0) (Aab Ape ((y0, ()), (()))))
noncomputable def Ay1 (N k : Nat) : Aap Ahu := Ay0 @Adr N k
noncomputable def A5c : Aac := ⟨[(0, .agg [(.val .str), (.val z2), (.val z3), (.val z1), (.val (.int .i64)), (.val (.int .i64))])], []⟩
noncomputable def Atb : Aac := ⟨[(0, .one (.val .bool))], []⟩
@[reducible] def Bw6 (R : Type) : Type := (List UInt8) → d4 → d3 → d1 → Int → Int → (Bool → Option R) → Option R
@[reducible] def Aom : Type 1 := {R : Type} → Nat → Bw6 R
noncomputable def A5d (Adr : Ar2) : Aom := fun {R} N x0 x1 x2 x3 x4 x5 K0 =>
    if ((decide (((len x2) > (40000 : Int)))) = true) then (K0 true) else (if ((decide (((len x1) > (2000 : Int)))) = true) then (K0 true) else (if ((decide ((x4 > (200 : Int)))) = true) then (K0 true) else (if ((decide ((x5 > (20000 : Int)))) = true) then (K0 true) else (Adr N N 0 0 x0 x1 x2 x3 x4 x5 (fun y0 => K0 ((decide ((y0 > (7800 : Int))))))))))
noncomputable def Afm : Aom := @A5d @Adr
noncomputable def Ce0 (N : Nat) : Abl A5c [Atb] := fun R x C => Afm N x.1.1.1 x.1.1.2.1 x.1.1.2.2.1 x.1.1.2.2.2.1 x.1.1.2.2.2.2.1 x.1.1.2.2.2.2.2.1 (fun y0 => C.1 ((y0, ()), (())))
noncomputable def A5e (Afm : Aom) (N : Nat) : Go.AX.Aai := Ack [true] [] false 1 0 A5c [Atb] (fun R x C => Afm N x.1.1.1 x.1.1.2.1 x.1.1.2.2.1 x.1.1.2.2.2.1 x.1.1.2.2.2.2.1 x.1.1.2.2.2.2.2.1 (fun y0 => C.1 ((y0, ()), (()))))
noncomputable def Bg4 (N : Nat) : Go.AX.Aai := A5e @Afm N
noncomputable def Ce1 (N : Nat) : List (Nat × Acn) := [(11, Aaa Ahu (Ay1 N N))]
noncomputable def Bw7 (N : Nat) : List (Nat × Go.AX.Aai) := []
noncomputable def Adt : Code := Go.Proofs.Try.f82.body.getD .skip
noncomputable def Ao3 : Code := Go.Proofs.Try.f97.body.getD .skip
noncomputable def Aju : Aac := ⟨[(0, .one (.val .str)), (4, .one (.val .str)), (5, .one (.val (.int .i64)))], []⟩
noncomputable def Atc : Aac := ⟨[(2, .one (.val .str)), (3, .one (.val (.int .i64)))], []⟩
noncomputable def Atd : Aac := ⟨[(0, .one (.val .str)), (4, .one (.val .str))], []⟩
noncomputable def Bg5 : Acj := .cons .ret Atc (.cons (.exit 0) Atd (.nil))
@[reducible] def A5f (R : Type) : Type := (List UInt8) → (List UInt8) → Int → ((List UInt8) → Int → Option R) → ((List UInt8) → (List UInt8) → Option R) → Option R
@[reducible] def Bg6 (R : Type) : Type := (List UInt8) → (List UInt8) → Int → Option R
@[reducible] def Axn : Type 1 := {R : Type} → Nat → Nat → A5f R
noncomputable def Axo {R : Type} (N : Nat) (rc : Bg6 R) : A5f R := fun x0 x1 x2 K0 K1 =>
    if ((decide ((x2 < (len x0)))) = true) then (if (((0 : Int) ≤ x2) ∧ (x2 < (len x0))) then (let v0 := (((UInt8.toNat (List.getD x0 (Int.toNat x2) (0 : UInt8))) : Nat) : Int); if ((v0 == (10 : Int)) = true) then (if (((List.length x1) + (2 : Nat)) ≤ (70368744177664 : Nat)) then (rc x0 ((x1 ++ [(42 : UInt8), (110 : UInt8)])) ((wi (x2 + (1 : Int))))) else none) else (if ((v0 == (9 : Int)) = true) then (if (((List.length x1) + (2 : Nat)) ≤ (70368744177664 : Nat)) then (rc x0 ((x1 ++ [(42 : UInt8), (116 : UInt8)])) ((wi (x2 + (1 : Int))))) else none) else (if ((v0 == (42 : Int)) = true) then (let v1 := (wi (x2 + (1 : Int))); if (((0 : Int) ≤ v1) ∧ (v1 ≤ (len x0))) then (if (((0 : Int) ≤ x2) ∧ (x2 ≤ v1)) then (let v2 := (List.drop (Int.toNat x2) (List.take (Int.toNat v1) x0)); if (((1 : Nat) + (List.length v2)) ≤ (70368744177664 : Nat)) then (if (((List.length x1) + (List.length ((42 : UInt8) :: v2))) ≤ (70368744177664 : Nat)) then (rc x0 ((x1 ++ ((42 : UInt8) :: v2))) v1) else none) else none) else none) else none) else (if ((v0 == (34 : Int)) = true) then (let v3 := (wi (x2 + (1 : Int))); if (((0 : Int) ≤ v3) ∧ (v3 ≤ (len x0))) then (if (((0 : Int) ≤ x2) ∧ (x2 ≤ v3)) then (let v4 := (List.drop (Int.toNat x2) (List.take (Int.toNat v3) x0)); if (((1 : Nat) + (List.length v4)) ≤ (70368744177664 : Nat)) then (if (((List.length x1) + (List.length ((42 : UInt8) :: v4))) ≤ (70368744177664 : Nat)) then (rc x0 ((x1 ++ ((42 : UInt8) :: v4))) v3) else none) else none) else none) else none) else (if ((decide ((v0 < (32 : Int)))) = true) then (K0 (([] : List UInt8)) 3) else (if ((decide ((v0 > (126 : Int)))) = true) then (K0 (([] : List UInt8)) 3) else (let v5 := (wi (x2 + (1 : Int))); if (((0 : Int) ≤ v5) ∧ (v5 ≤ (len x0))) then (if (((0 : Int) ≤ x2) ∧ (x2 ≤ v5)) then (let v6 := (List.drop (Int.toNat x2) (List.take (Int.toNat v5) x0)); if (((List.length x1) + (List.length v6)) ≤ (70368744177664 : Nat)) then (rc x0 ((x1 ++ v6)) v5) else none) else none) else none))))))) else none) else (K1 x0 x1)
noncomputable def Aeu {R : Type} (N : Nat) : Nat → A5f R
  | 0 => fun _ _ _ _ _ => none
  | k + 1 => fun x0 x1 x2 K0 K1 => Axo N (fun x0 x1 x2 => Aeu N k x0 x1 x2 K0 K1) x0 x1 x2 K0 K1
noncomputable def A5g (Aeu : Axn) (N k : Nat) : Aap Aju := fun R x K => Aeu N k x.1.1 x.1.2.1 x.1.2.2.1 (fun y0 y1 => K .ret (Aab Atc ((y0, y1, ()), (())))) (fun y0 y1 => K (.exit 0) (Aab Atd ((y0, y1, ()), (()))))
noncomputable def A5h (N k : Nat) : Aap Aju := A5g @Aeu N k
noncomputable def Ba4 : Aac := ⟨[(0, .one (.val .str))], []⟩
noncomputable def Axp : Aac := ⟨[(0, .one (.val .str)), (1, .one (.val (.int .i64)))], []⟩
@[reducible] def B3s (R : Type) : Type := (List UInt8) → ((List UInt8) → Int → Option R) → Option R
@[reducible] def Akn : Type 1 := {R : Type} → Nat → B3s R
noncomputable def Ba5 (Aeu : Axn) : Akn := fun {R} N x0 K0 =>
    Aeu N N x0 ([(34 : UInt8)]) 0 (fun y0 y1 => K0 y0 y1) (fun y2 y3 => if ((decide (((len y2) > (100 : Int)))) = true) then (K0 (([] : List UInt8)) 2) else (if (((List.length y3) + (1 : Nat)) ≤ (70368744177664 : Nat)) then (K0 ((y3 ++ [(34 : UInt8)])) 0) else none))
noncomputable def Acw : Akn := @Ba5 @Aeu
noncomputable def Cgr (N : Nat) : Abl Ba4 [Axp] := fun R x C => Acw N x.1.1 (fun y0 y1 => C.1 ((y0, y1, ()), (())))
noncomputable def Aq9 (Acw : Akn) (N : Nat) : Go.AX.Aai := Ack [true] [] false 1 0 Ba4 [Axp] (fun R x C => Acw N x.1.1 (fun y0 y1 => C.1 ((y0, y1, ()), (()))))
noncomputable def Bmu (N : Nat) : Go.AX.Aai := Aq9 @Acw N
noncomputable def Cgs (N : Nat) : List (Nat × Acn) := [(7, Aaa Aju (A5h N N))]
noncomputable def B3t (N : Nat) : List (Nat × Go.AX.Aai) := []
noncomputable def Bw8 : Code := Go.Proofs.Try.f98.body.getD .skip
noncomputable def Blk : Aac := ⟨[(0, .one (.val (.int .i64))), (1, .one (.val (.int .i64))), (2, .one (.val (.int .i64)))], []⟩
noncomputable def A5i : Aac := ⟨[(0, .one (.val .bool))], []⟩
@[reducible] def Cao (R : Type) : Type := Int → Int → Int → (Bool → Option R) → Option R
@[reducible] def Aei : Type 1 := {R : Type} → Nat → Cao R
noncomputable def Aaq : Aei := fun {R} N x0 x1 x2 K0 =>
    if ((decide ((x0 ≥ x1))) = true) then (K0 ((decide ((x0 ≤ x2))))) else (K0 false)
noncomputable def Cap (N : Nat) : Abl Blk [A5i] := fun R x C => Aaq N x.1.1 x.1.2.1 x.1.2.2.1 (fun y0 => C.1 ((y0, ()), (())))
noncomputable def Ah6 (Aaq : Aei) (N : Nat) : Go.AX.Aai := Ack [true, true, true] [] false 3 0 Blk [A5i] (fun R x C => Aaq N x.1.1 x.1.2.1 x.1.2.2.1 (fun y0 => C.1 ((y0, ()), (()))))
noncomputable def A5j (N : Nat) : Go.AX.Aai := Ah6 @Aaq N
noncomputable def Caq (N : Nat) : List (Nat × Acn) := []
noncomputable def Bw9 (N : Nat) : List (Nat × Go.AX.Aai) := []
noncomputable def Agh : Aac := ⟨[(1, .one (.ptr 32)), (3, .one (.val (.int .i64))), (4, .one (.ptr 33)), (7, .one (.val (.int .i64)))], [(32, .cells 34 [(.val .str), (.val z2), (.val z3), (.val z1), (.val (.int .i64)), (.val (.int .i64))]), (33, .cells 73 [(.val .str), (.val .bool), (.val (.list (.int .i64)))])]⟩
noncomputable def Ar4 : Aac := ⟨[(2, .one (.val .bool))], []⟩
noncomputable def Ar5 : Aac := ⟨[(1, .one (.ptr 32)), (3, .one (.val (.int .i64)))], [(32, .cells 34 [(.val .str), (.val z2), (.val z3), (.val z1), (.val (.int .i64)), (.val (.int .i64))])]⟩
noncomputable def Be1 : Acj := .cons .ret Ar4 (.cons (.exit 2) Ar5 (.nil))
@[reducible] def A27 (R : Type) : Type := Int → Int → (List UInt8) → d4 → d3 → d1 → Int → Int → (List UInt8) → Bool → d0 → (Bool → Option R) → (Int → (List UInt8) → d4 → d3 → d1 → Int → Int → Option R) → Option R
@[reducible] def Be2 (R : Type) : Type := Int → Int → (List UInt8) → d4 → d3 → d1 → Int → Int → (List UInt8) → Bool → d0 → Option R
@[reducible] def Alm : Type 1 := {R : Type} → Nat → Nat → A27 R
noncomputable def Au7 (Aaq : Aei) {R : Type} (N : Nat) (rc : Be2 R) : A27 R := fun x0 x1 x2 x3 x4 x5 x6 x7 x8 x9 x10 K0 K1 =>
    if ((decide ((x1 < (len x10)))) = true) then (if (((0 : Int) ≤ x1) ∧ (x1 < (len x10))) then (Aaq N ((List.getD x10 (Int.toNat x1) (0 : Int))) (-2147483648) 2147483647 (fun y0 => if ((!y0) = true) then (K0 false) else (rc x0 ((wi (x1 + (1 : Int)))) x2 x3 x4 x5 x6 x7 x8 x9 x10))) else none) else (K1 x0 x2 x3 x4 x5 x6 x7)
noncomputable def Ab9 {R : Type} (N : Nat) : Nat → A27 R
  | 0 => fun _ _ _ _ _ _ _ _ _ _ _ _ _ => none
  | k + 1 => fun x0 x1 x2 x3 x4 x5 x6 x7 x8 x9 x10 K0 K1 => Au7 @Aaq N (fun x0 x1 x2 x3 x4 x5 x6 x7 x8 x9 x10 => Ab9 N k x0 x1 x2 x3 x4 x5 x6 x7 x8 x9 x10 K0 K1) x0 x1 x2 x3 x4 x5 x6 x7 x8 x9 x10 K0 K1
noncomputable def Anm (Ab9 : Alm) (N k : Nat) : Aap Agh := fun R x K => Ab9 N k x.1.2.1 x.1.2.2.2.1 x.2.1.1 x.2.1.2.1 x.2.1.2.2.1 x.2.1.2.2.2.1 x.2.1.2.2.2.2.1 x.2.1.2.2.2.2.2.1 x.2.2.1.1 x.2.2.1.2.1 x.2.2.1.2.2.1 (fun y0 => K .ret (Aab Ar4 ((y0, ()), (())))) (fun y0 y1 y2 y3 y4 y5 y6 => K (.exit 2) (Aab Ar5 (((), y0, ()), ((y1, y2, y3, y4, y5, y6, ()), ()))))
noncomputable def A28 (N k : Nat) : Aap Agh := Anm @Ab9 N k
noncomputable def Ag1 : Aac := ⟨[(1, .one (.ptr 32)), (3, .one (.val (.int .i64)))], [(32, .cells 34 [(.val .str), (.val z2), (.val z3), (.val z1), (.val (.int .i64)), (.val (.int .i64))])]⟩
noncomputable def Ate : Aac := ⟨[(2, .one (.val .bool))], []⟩
noncomputable def Atf : Aac := ⟨[(1, .one (.ptr 32))], [(32, .cells 34 [(.val .str), (.val z2), (.val z3), (.val z1), (.val (.int .i64)), (.val (.int .i64))])]⟩
noncomputable def Bg7 : Acj := .cons .ret Ate (.cons (.exit 0) Atf (.nil))
@[reducible] def A5k (R : Type) : Type := Int → (List UInt8) → d4 → d3 → d1 → Int → Int → (Bool → Option R) → ((List UInt8) → d4 → d3 → d1 → Int → Int → Option R) → Option R
@[reducible] def Bg8 (R : Type) : Type := Int → (List UInt8) → d4 → d3 → d1 → Int → Int → Option R
@[reducible] def Amj : Type 1 := {R : Type} → Nat → Nat → A5k R
noncomputable def Axq (Acw : Akn) (Ab9 : Alm) {R : Type} (N : Nat) (rc : Bg8 R) : A5k R := fun x0 x1 x2 x3 x4 x5 x6 K0 K1 =>
    if ((decide ((x0 < (len x2)))) = true) then (if (((0 : Int) ≤ x0) ∧ (x0 < (len x2))) then (let v0 := (List.getD x2 (Int.toNat x0) (([] : List UInt8), (false, ([] : List Int)))).1; let v1 := (List.getD x2 (Int.toNat x0) (([] : List UInt8), (false, ([] : List Int)))).2.2; if ((List.getD x2 (Int.toNat x0) (([] : List UInt8), (false, ([] : List Int)))).2.1 = true) then (Acw N v0 (fun y0 y1 => if ((y1 != (0 : Int)) = true) then (K0 false) else (if ((decide (((len v1) > (0 : Int)))) = true) then (K0 false) else (rc ((wi (x0 + (1 : Int)))) x1 x2 x3 x4 x5 x6)))) else (if ((!(v0 == ([] : List UInt8))) = true) then (K0 false) else (if (((len v1) == (0 : Int)) = true) then (K0 false) else (Ab9 N N x0 0 x1 x2 x3 x4 x5 x6 v0 ((List.getD x2 (Int.toNat x0) (([] : List UInt8), (false, ([] : List Int)))).2.1) v1 (fun y2 => K0 y2) (fun y3 y4 y5 y6 y7 y8 y9 => rc ((wi (y3 + (1 : Int)))) y4 y5 y6 y7 y8 y9))))) else none) else (K1 x1 x2 x3 x4 x5 x6)
noncomputable def Acg {R : Type} (N : Nat) : Nat → A5k R
  | 0 => fun _ _ _ _ _ _ _ _ _ => none
  | k + 1 => fun x0 x1 x2 x3 x4 x5 x6 K0 K1 => Axq @Acw @Ab9 N (fun x0 x1 x2 x3 x4 x5 x6 => Acg N k x0 x1 x2 x3 x4 x5 x6 K0 K1) x0 x1 x2 x3 x4 x5 x6 K0 K1
noncomputable def Aon (Acg : Amj) (N k : Nat) : Aap Ag1 := fun R x K => Acg N k x.1.2.1 x.2.1.1 x.2.1.2.1 x.2.1.2.2.1 x.2.1.2.2.2.1 x.2.1.2.2.2.2.1 x.2.1.2.2.2.2.2.1 (fun y0 => K .ret (Aab Ate ((y0, ()), (())))) (fun y0 y1 y2 y3 y4 y5 => K (.exit 0) (Aab Atf (((), ()), ((y0, y1, y2, y3, y4, y5, ()), ()))))
noncomputable def A5l (N k : Nat) : Aap Ag1 := Aon @Acg N k
noncomputable def Agi : Aac := ⟨[(1, .one (.ptr 32)), (8, .one (.val (.int .i64))), (9, .one (.ptr 33)), (10, .one (.val (.int .i64)))], [(32, .cells 34 [(.val .str), (.val z2), (.val z3), (.val z1), (.val (.int .i64)), (.val (.int .i64))]), (33, .cells 75 [(.val (.int .i64)), (.val (.int .i64))])]⟩
noncomputable def Ar6 : Aac := ⟨[(2, .one (.val .bool))], []⟩
noncomputable def Ar7 : Aac := ⟨[(1, .one (.ptr 32)), (8, .one (.val (.int .i64)))], [(32, .cells 34 [(.val .str), (.val z2), (.val z3), (.val z1), (.val (.int .i64)), (.val (.int .i64))])]⟩
noncomputable def Be3 : Acj := .cons .ret Ar6 (.cons (.exit 6) Ar7 (.nil))
@[reducible] def A29 (R : Type) : Type := Int → Int → (List UInt8) → d4 → d3 → d1 → Int → Int → Int → Int → (Bool → Option R) → (Int → (List UInt8) → d4 → d3 → d1 → Int → Int → Option R) → Option R
@[reducible] def Be4 (R : Type) : Type := Int → Int → (List UInt8) → d4 → d3 → d1 → Int → Int → Int → Int → Option R
@[reducible] def Aln : Type 1 := {R : Type} → Nat → Nat → A29 R
noncomputable def Au8 {R : Type} (N : Nat) (rc : Be4 R) : A29 R := fun x0 x1 x2 x3 x4 x5 x6 x7 x8 x9 K0 K1 =>
    if ((decide ((x1 < x0))) = true) then (if (((0 : Int) ≤ x1) ∧ (x1 < (len x5))) then (if (((List.getD x5 (Int.toNat x1) ((0 : Int), (0 : Int))).1 == x8) = true) then (K0 false) else (rc x0 ((wi (x1 + (1 : Int)))) x2 x3 x4 x5 x6 x7 x8 x9)) else none) else (K1 x0 x2 x3 x4 x5 x6 x7)
noncomputable def Aca {R : Type} (N : Nat) : Nat → A29 R
  | 0 => fun _ _ _ _ _ _ _ _ _ _ _ _ => none
  | k + 1 => fun x0 x1 x2 x3 x4 x5 x6 x7 x8 x9 K0 K1 => Au8 N (fun x0 x1 x2 x3 x4 x5 x6 x7 x8 x9 => Aca N k x0 x1 x2 x3 x4 x5 x6 x7 x8 x9 K0 K1) x0 x1 x2 x3 x4 x5 x6 x7 x8 x9 K0 K1
noncomputable def Ann (Aca : Aln) (N k : Nat) : Aap Agi := fun R x K => Aca N k x.1.2.1 x.1.2.2.2.1 x.2.1.1 x.2.1.2.1 x.2.1.2.2.1 x.2.1.2.2.2.1 x.2.1.2.2.2.2.1 x.2.1.2.2.2.2.2.1 x.2.2.1.1 x.2.2.1.2.1 (fun y0 => K .ret (Aab Ar6 ((y0, ()), (())))) (fun y0 y1 y2 y3 y4 y5 y6 => K (.exit 6) (Aab Ar7 (((), y0, ()), ((y1, y2, y3, y4, y5, y6, ()), ()))))
noncomputable def A3a (N k : Nat) : Aap Agi := Ann @Aca N k
noncomputable def Agj : Aac := ⟨[(1, .one (.ptr 32)), (8, .one (.val (.int .i64)))], [(32, .cells 34 [(.val .str), (.val z2), (.val z3), (.val z1), (.val (.int .i64)), (.val (.int .i64))])]⟩
noncomputable def Ar8 : Aac := ⟨[(2, .one (.val .bool))], []⟩
noncomputable def Ar9 : Aac := ⟨[(1, .one (.ptr 32))], [(32, .cells 34 [(.val .str), (.val z2), (.val z3), (.val z1), (.val (.int .i64)), (.val (.int .i64))])]⟩
noncomputable def Be5 : Acj := .cons .ret Ar8 (.cons (.exit 4) Ar9 (.nil))
@[reducible] def A3b (R : Type) : Type := Int → (List UInt8) → d4 → d3 → d1 → Int → Int → (Bool → Option R) → ((List UInt8) → d4 → d3 → d1 → Int → Int → Option R) → Option R
@[reducible] def Be6 (R : Type) : Type := Int → (List UInt8) → d4 → d3 → d1 → Int → Int → Option R
@[reducible] def Alo : Type 1 := {R : Type} → Nat → Nat → A3b R
noncomputable def Au9 (Aaq : Aei) (Aca : Aln) {R : Type} (N : Nat) (rc : Be6 R) : A3b R := fun x0 x1 x2 x3 x4 x5 x6 K0 K1 =>
    if ((decide ((x0 < (len x4)))) = true) then (if (((0 : Int) ≤ x0) ∧ (x0 < (len x4))) then (let v0 := (List.getD x4 (Int.toNat x0) ((0 : Int), (0 : Int))).1; let v1 := (List.getD x4 (Int.toNat x0) ((0 : Int), (0 : Int))).2; Aaq N v0 1 199 (fun y0 => if ((!y0) = true) then (K0 false) else (Aaq N v1 1 x5 (fun y1 => if ((!y1) = true) then (K0 false) else (Aca N N x0 0 x1 x2 x3 x4 x5 x6 v0 v1 (fun y2 => K0 y2) (fun y3 y4 y5 y6 y7 y8 y9 => rc ((wi (y3 + (1 : Int)))) y4 y5 y6 y7 y8 y9)))))) else none) else (K1 x1 x2 x3 x4 x5 x6)
noncomputable def Abu {R : Type} (N : Nat) : Nat → A3b R
  | 0 => fun _ _ _ _ _ _ _ _ _ => none
  | k + 1 => fun x0 x1 x2 x3 x4 x5 x6 K0 K1 => Au9 @Aaq @Aca N (fun x0 x1 x2 x3 x4 x5 x6 => Abu N k x0 x1 x2 x3 x4 x5 x6 K0 K1) x0 x1 x2 x3 x4 x5 x6 K0 K1
noncomputable def Ano (Abu : Alo) (N k : Nat) : Aap Agj := fun R x K => Abu N k x.1.2.1 x.2.1.1 x.2.1.2.1 x.2.1.2.2.1 x.2.1.2.2.2.1 x.2.1.2.2.2.2.1 x.2.1.2.2.2.2.2.1 (fun y0 => K .ret (Aab Ar8 ((y0, ()), (())))) (fun y0 y1 y2 y3 y4 y5 => K (.exit 4) (Aab Ar9 (((), ()), ((y0, y1, y2, y3, y4, y5, ()), ()))))
noncomputable def A3c (N k : Nat) : Aap Agj := Ano @Abu N k
noncomputable def Ba6 : Aac := ⟨[(0, .agg [(.val .str), (.val z2), (.val z3), (.val z1), (.val (.int .i64)), (.val (.int .i64))])], []⟩
noncomputable def Axr : Aac := ⟨[(0, .one (.val .bool))], []⟩
@[reducible] def B3u (R : Type) : Type := (List UInt8) → d4 → d3 → d1 → Int → Int → (Bool → Option R) → Option R
@[reducible] def Ara : Type 1 := {R : Type} → Nat → B3u R
noncomputable def Ba7 (Acg : Amj) (Abu : Alo) (Acw : Akn) : Ara := fun {R} N x0 x1 x2 x3 x4 x5 K0 =>
    Acg N N 0 x0 x1 x2 x3 x4 x5 (fun y0 => K0 y0) (fun y1 y2 y3 y4 y5 y6 => Abu N N 0 y1 y2 y3 y4 y5 y6 (fun y7 => K0 y7) (fun y8 y9 y10 y11 y12 y13 => Acw N y8 (fun y14 y15 => K0 ((y15 == (0 : Int))))))
noncomputable def Ahd : Ara := @Ba7 @Acg @Abu @Acw
noncomputable def Cgt (N : Nat) : Abl Ba6 [Axr] := fun R x C => Ahd N x.1.1.1 x.1.1.2.1 x.1.1.2.2.1 x.1.1.2.2.2.1 x.1.1.2.2.2.2.1 x.1.1.2.2.2.2.2.1 (fun y0 => C.1 ((y0, ()), (())))
noncomputable def Ba8 (Ahd : Ara) (N : Nat) : Go.AX.Aai := Ack [true] [] false 1 0 Ba6 [Axr] (fun R x C => Ahd N x.1.1.1 x.1.1.2.1 x.1.1.2.2.1 x.1.1.2.2.2.1 x.1.1.2.2.2.2.1 x.1.1.2.2.2.2.2.1 (fun y0 => C.1 ((y0, ()), (()))))
noncomputable def Bmv (N : Nat) : Go.AX.Aai := Ba8 @Ahd N
noncomputable def Cgu (N : Nat) : List (Nat × Acn) := [(25, Aaa Agh (A28 N N)), (5, Aaa Ag1 (A5l N N)), (47, Aaa Agi (A3a N N)), (35, Aaa Agj (A3c N N))]
noncomputable def B3v (N : Nat) : List (Nat × Go.AX.Aai) := [(97, Bmu N), (98, A5j N)]
noncomputable def Aej : Code := Go.Proofs.Try.f83.body.getD .skip
noncomputable def Afx : Aac := ⟨[(2, .one (.ptr 32)), (3, .one (.ptr 33)), (40, .one (.val (.int .i64))), (93, .one (.val .bool))], [(32, .cells 34 [(.val .str), (.val z2), (.val z3), (.val z1), (.val (.int .i64)), (.val (.int .i64))]), (33, .cells 24 [(.val (.int .i64)), (.val (.int .i64)), (.val (.int .i64))])]⟩
noncomputable def Ava : Aac := ⟨[(4, .one (.val .bool))], []⟩
noncomputable def Avb : Aac := ⟨[(3, .one (.ptr 32))], [(32, .cells 24 [(.val (.int .i64)), (.val (.int .i64)), (.val (.int .i64))])]⟩
noncomputable def A9f : Acj := .cons .ret Ava (.cons .normal Avb (.nil))
@[reducible] def Bpg (R : Type) : Type := Int → Bool → (List UInt8) → d4 → d3 → d1 → Int → Int → Int → Int → Int → (Bool → Option R) → (Int → Int → Int → Option R) → Option R
@[reducible] def Agu : Type 1 := {R : Type} → Nat → Bpg R
noncomputable def Ay2 (Aaq : Aei) : Agu := fun {R} N x0 x1 x2 x3 x4 x5 x6 x7 x8 x9 x10 K0 K1 =>
    if (x1 = true) then (Aaq N x9 1 x7 (fun y0 => K0 y0)) else (if ((x0 == (24 : Int)) = true) then (Aaq N x9 1 x6 (fun y1 => if (y1 = true) then (Aaq N x10 0 8 (fun y2 => K0 y2)) else (K0 false))) else (if ((x0 == (29 : Int)) = true) then (Aaq N x9 1 x7 (fun y3 => if (y3 = true) then (Aaq N x10 0 1000 (fun y4 => K0 y4)) else (K0 false))) else (if ((x0 == (30 : Int)) = true) then (Aaq N x10 1 x7 (fun y5 => K0 y5)) else (K1 x8 x9 x10))))
noncomputable def Aa8 : Agu := @Ay2 @Aaq
noncomputable def Aj9 (Aa8 : Agu) (N : Nat) : Aap Afx := fun R x K => Aa8 N x.1.2.2.1 x.1.2.2.2.1 x.2.1.1 x.2.1.2.1 x.2.1.2.2.1 x.2.1.2.2.2.1 x.2.1.2.2.2.2.1 x.2.1.2.2.2.2.2.1 x.2.2.1.1 x.2.2.1.2.1 x.2.2.1.2.2.1 (fun y0 => K .ret (Aab Ava ((y0, ()), (())))) (fun y0 y1 y2 => K .normal (Aab Avb (((), ()), ((y0, y1, y2, ()), ()))))
noncomputable def A9g (N : Nat) : Aap Afx := Aj9 @Aa8 N
noncomputable def Afy : Aac := ⟨[(2, .one (.ptr 32)), (3, .one (.ptr 33)), (40, .one (.val (.int .i64))), (60, .one (.val .bool))], [(32, .cells 34 [(.val .str), (.val z2), (.val z3), (.val z1), (.val (.int .i64)), (.val (.int .i64))]), (33, .cells 24 [(.val (.int .i64)), (.val (.int .i64)), (.val (.int .i64))])]⟩
noncomputable def Avc : Aac := ⟨[(4, .one (.val .bool))], []⟩
noncomputable def Avd : Aac := ⟨[(3, .one (.ptr 32))], [(32, .cells 24 [(.val (.int .i64)), (.val (.int .i64)), (.val (.int .i64))])]⟩
noncomputable def A9h : Acj := .cons .ret Avc (.cons .normal Avd (.nil))
@[reducible] def Bph (R : Type) : Type := Int → Bool → (List UInt8) → d4 → d3 → d1 → Int → Int → Int → Int → Int → (Bool → Option R) → (Int → Int → Int → Option R) → Option R
@[reducible] def Agv : Type 1 := {R : Type} → Nat → Bph R
noncomputable def Ay3 (Aaq : Aei) (Aa8 : Agu) : Agv := fun {R} N x0 x1 x2 x3 x4 x5 x6 x7 x8 x9 x10 K0 K1 =>
    if (x1 = true) then (Aaq N x9 0 ((wi ((len x3) - (1 : Int)))) (fun y0 => K0 y0)) else (if ((x0 == (11 : Int)) = true) then (Aaq N x9 1 x6 (fun y1 => K0 y1)) else (if ((x0 == (16 : Int)) = true) then (Aaq N x9 1 17 (fun y2 => K0 y2)) else (if ((x0 == (17 : Int)) = true) then (if ((x9 == (18 : Int)) = true) then (K0 true) else (K0 ((x9 == (19 : Int))))) else (if ((x0 == (19 : Int)) = true) then (Aa8 N x0 ((x0 == (19 : Int))) x2 x3 x4 x5 x6 x7 x8 x9 x10 (fun y3 => K0 y3) (fun y4 y5 y6 => K1 y4 y5 y6)) else (if ((x0 == (20 : Int)) = true) then (Aa8 N x0 ((x0 == (20 : Int))) x2 x3 x4 x5 x6 x7 x8 x9 x10 (fun y7 => K0 y7) (fun y8 y9 y10 => K1 y8 y9 y10)) else (if ((x0 == (21 : Int)) = true) then (Aa8 N x0 ((x0 == (21 : Int))) x2 x3 x4 x5 x6 x7 x8 x9 x10 (fun y11 => K0 y11) (fun y12 y13 y14 => K1 y12 y13 y14)) else (if ((x0 == (22 : Int)) = true) then (Aa8 N x0 ((x0 == (22 : Int))) x2 x3 x4 x5 x6 x7 x8 x9 x10 (fun y15 => K0 y15) (fun y16 y17 y18 => K1 y16 y17 y18)) else (Aa8 N x0 ((x0 == (27 : Int))) x2 x3 x4 x5 x6 x7 x8 x9 x10 (fun y19 => K0 y19) (fun y20 y21 y22 => K1 y20 y21 y22)))))))))
noncomputable def Abi : Agv := @Ay3 @Aaq @Aa8
noncomputable def Aka (Abi : Agv) (N : Nat) : Aap Afy := fun R x K => Abi N x.1.2.2.1 x.1.2.2.2.1 x.2.1.1 x.2.1.2.1 x.2.1.2.2.1 x.2.1.2.2.2.1 x.2.1.2.2.2.2.1 x.2.1.2.2.2.2.2.1 x.2.2.1.1 x.2.2.1.2.1 x.2.2.1.2.2.1 (fun y0 => K .ret (Aab Avc ((y0, ()), (())))) (fun y0 y1 y2 => K .normal (Aab Avd (((), ()), ((y0, y1, y2, ()), ()))))
noncomputable def A9i (N : Nat) : Aap Afy := Aka @Abi N
noncomputable def Afz : Aac := ⟨[(2, .one (.ptr 32)), (3, .one (.ptr 33)), (40, .one (.val (.int .i64))), (53, .one (.val .bool))], [(32, .cells 34 [(.val .str), (.val z2), (.val z3), (.val z1), (.val (.int .i64)), (.val (.int .i64))]), (33, .cells 24 [(.val (.int .i64)), (.val (.int .i64)), (.val (.int .i64))])]⟩
noncomputable def Ave : Aac := ⟨[(4, .one (.val .bool))], []⟩
noncomputable def Avf : Aac := ⟨[(3, .one (.ptr 32))], [(32, .cells 24 [(.val (.int .i64)), (.val (.int .i64)), (.val (.int .i64))])]⟩
noncomputable def A9j : Acj := .cons .ret Ave (.cons .normal Avf (.nil))
@[reducible] def Bpi (R : Type) : Type := Int → Bool → (List UInt8) → d4 → d3 → d1 → Int → Int → Int → Int → Int → (Bool → Option R) → (Int → Int → Int → Option R) → Option R
@[reducible] def Agw : Type 1 := {R : Type} → Nat → Bpi R
noncomputable def Ay4 (Aaq : Aei) (Abi : Agv) : Agw := fun {R} N x0 x1 x2 x3 x4 x5 x6 x7 x8 x9 x10 K0 K1 =>
    if (x1 = true) then (Aaq N x9 0 199 (fun y0 => K0 y0)) else (if ((x0 == (8 : Int)) = true) then (Abi N x0 ((x0 == (8 : Int))) x2 x3 x4 x5 x6 x7 x8 x9 x10 (fun y1 => K0 y1) (fun y2 y3 y4 => K1 y2 y3 y4)) else (if ((x0 == (9 : Int)) = true) then (Abi N x0 ((x0 == (9 : Int))) x2 x3 x4 x5 x6 x7 x8 x9 x10 (fun y5 => K0 y5) (fun y6 y7 y8 => K1 y6 y7 y8)) else (Abi N x0 ((x0 == (10 : Int))) x2 x3 x4 x5 x6 x7 x8 x9 x10 (fun y9 => K0 y9) (fun y10 y11 y12 => K1 y10 y11 y12))))
noncomputable def Abj : Agw := @Ay4 @Aaq @Abi
noncomputable def Akb (Abj : Agw) (N : Nat) : Aap Afz := fun R x K => Abj N x.1.2.2.1 x.1.2.2.2.1 x.2.1.1 x.2.1.2.1 x.2.1.2.2.1 x.2.1.2.2.2.1 x.2.1.2.2.2.2.1 x.2.1.2.2.2.2.2.1 x.2.2.1.1 x.2.2.1.2.1 x.2.2.1.2.2.1 (fun y0 => K .ret (Aab Ave ((y0, ()), (())))) (fun y0 y1 y2 => K .normal (Aab Avf (((), ()), ((y0, y1, y2, ()), ()))))
noncomputable def A9k (N : Nat) : Aap Afz := Akb @Abj N
noncomputable def Af0 : Aac := ⟨[(2, .one (.ptr 32)), (3, .one (.ptr 33)), (40, .one (.val (.int .i64))), (43, .one (.val .bool))], [(32, .cells 34 [(.val .str), (.val z2), (.val z3), (.val z1), (.val (.int .i64)), (.val (.int .i64))]), (33, .cells 24 [(.val (.int .i64)), (.val (.int .i64)), (.val (.int .i64))])]⟩
noncomputable def Avg : Aac := ⟨[(4, .one (.val .bool))], []⟩
noncomputable def Avh : Aac := ⟨[(3, .one (.ptr 32))], [(32, .cells 24 [(.val (.int .i64)), (.val (.int .i64)), (.val (.int .i64))])]⟩
noncomputable def A9l : Acj := .cons .ret Avg (.cons .normal Avh (.nil))
@[reducible] def Bpj (R : Type) : Type := Int → Bool → (List UInt8) → d4 → d3 → d1 → Int → Int → Int → Int → Int → (Bool → Option R) → (Int → Int → Int → Option R) → Option R
@[reducible] def Agx : Type 1 := {R : Type} → Nat → Bpj R
noncomputable def Ay5 (Aaq : Aei) (Abj : Agw) : Agx := fun {R} N x0 x1 x2 x3 x4 x5 x6 x7 x8 x9 x10 K0 K1 =>
    if (x1 = true) then (Aaq N x9 0 4000 (fun y0 => K0 y0)) else (if ((x0 == (5 : Int)) = true) then (Abj N x0 ((x0 == (5 : Int))) x2 x3 x4 x5 x6 x7 x8 x9 x10 (fun y1 => K0 y1) (fun y2 y3 y4 => K1 y2 y3 y4)) else (if ((x0 == (6 : Int)) = true) then (Abj N x0 ((x0 == (6 : Int))) x2 x3 x4 x5 x6 x7 x8 x9 x10 (fun y5 => K0 y5) (fun y6 y7 y8 => K1 y6 y7 y8)) else (Abj N x0 ((x0 == (7 : Int))) x2 x3 x4 x5 x6 x7 x8 x9 x10 (fun y9 => K0 y9) (fun y10 y11 y12 => K1 y10 y11 y12))))
noncomputable def Aas : Agx := @Ay5 @Aaq @Abj
noncomputable def Akc (Aas : Agx) (N : Nat) : Aap Af0 := fun R x K => Aas N x.1.2.2.1 x.1.2.2.2.1 x.2.1.1 x.2.1.2.1 x.2.1.2.2.1 x.2.1.2.2.2.1 x.2.1.2.2.2.2.1 x.2.1.2.2.2.2.2.1 x.2.2.1.1 x.2.2.1.2.1 x.2.2.1.2.2.1 (fun y0 => K .ret (Aab Avg ((y0, ()), (())))) (fun y0 y1 y2 => K .normal (Aab Avh (((), ()), ((y0, y1, y2, ()), ()))))
noncomputable def A9m (N : Nat) : Aap Af0 := Akc @Aas N
noncomputable def Af1 : Aac := ⟨[(3, .one (.ptr 32))], [(32, .cells 24 [(.val (.int .i64)), (.val (.int .i64)), (.val (.int .i64))])]⟩
noncomputable def Avi : Aac := ⟨[(4, .one (.val .bool))], []⟩
noncomputable def A9n : Acj := .cons .ret Avi (.nil)
@[reducible] def Bpk (R : Type) : Type := Int → Int → Int → (Bool → Option R) → Option R
@[reducible] def Ahv : Type 1 := {R : Type} → Nat → Bpk R
noncomputable def Aar : Ahv := fun {R} N x0 x1 x2 K0 =>
    K0 ((x1 == (0 : Int)))
noncomputable def Akd (Aar : Ahv) (N : Nat) : Aap Af1 := fun R x K => Aar N x.2.1.1 x.2.1.2.1 x.2.1.2.2.1 (fun y0 => K .ret (Aab Avi ((y0, ()), (()))))
noncomputable def A9o (N : Nat) : Aap Af1 := Akd @Aar N
noncomputable def A5m : Aac := ⟨[(0, .agg [(.val .str), (.val z2), (.val z3), (.val z1), (.val (.int .i64)), (.val (.int .i64))]), (1, .agg [(.val (.int .i64)), (.val (.int .i64)), (.val (.int .i64))])], []⟩
noncomputable def Atg : Aac := ⟨[(0, .one (.val .bool))], []⟩
@[reducible] def Bxa (R : Type) : Type := (List UInt8) → d4 → d3 → d1 → Int → Int → Int → Int → Int → (Bool → Option R) → Option R
@[reducible] def Aoo : Type 1 := {R : Type} → Nat → Bxa R
noncomputable def Asa (Aaq : Aei) (Aas : Agx) (Aar : Ahv) : Aoo := fun {R} N x0 x1 x2 x3 x4 x5 x6 x7 x8 K0 =>
    Aaq N x6 1 30 (fun y0 => if ((!y0) = true) then (K0 false) else (Aaq N x7 (-2147483648) 2147483647 (fun y1 => if ((!y1) = true) then (K0 false) else (Aaq N x8 (-2147483648) 2147483647 (fun y2 => if ((!y2) = true) then (K0 false) else (if ((x6 != (24 : Int)) = true) then (if ((x6 != (29 : Int)) = true) then (if ((x6 != (30 : Int)) = true) then (if ((x8 != (0 : Int)) = true) then (K0 false) else (if ((x6 == (1 : Int)) = true) then (K0 true) else (if ((x6 == (2 : Int)) = true) then (Aas N x6 ((x6 == (2 : Int))) x0 x1 x2 x3 x4 x5 x6 x7 x8 (fun y3 => K0 y3) (fun y4 y5 y6 => Aar N y4 y5 y6 (fun y7 => K0 y7))) else (if ((x6 == (3 : Int)) = true) then (Aas N x6 ((x6 == (3 : Int))) x0 x1 x2 x3 x4 x5 x6 x7 x8 (fun y8 => K0 y8) (fun y9 y10 y11 => Aar N y9 y10 y11 (fun y12 => K0 y12))) else (if ((x6 == (4 : Int)) = true) then (Aas N x6 ((x6 == (4 : Int))) x0 x1 x2 x3 x4 x5 x6 x7 x8 (fun y13 => K0 y13) (fun y14 y15 y16 => Aar N y14 y15 y16 (fun y17 => K0 y17))) else (if ((x6 == (23 : Int)) = true) then (Aas N x6 ((x6 == (23 : Int))) x0 x1 x2 x3 x4 x5 x6 x7 x8 (fun y18 => K0 y18) (fun y19 y20 y21 => Aar N y19 y20 y21 (fun y22 => K0 y22))) else (if ((x6 == (18 : Int)) = true) then (Aas N x6 ((x6 == (18 : Int))) x0 x1 x2 x3 x4 x5 x6 x7 x8 (fun y23 => K0 y23) (fun y24 y25 y26 => Aar N y24 y25 y26 (fun y27 => K0 y27))) else (Aas N x6 ((x6 == (28 : Int))) x0 x1 x2 x3 x4 x5 x6 x7 x8 (fun y28 => K0 y28) (fun y29 y30 y31 => Aar N y29 y30 y31 (fun y32 => K0 y32)))))))))) else (if ((x6 == (1 : Int)) = true) then (K0 true) else (if ((x6 == (2 : Int)) = true) then (Aas N x6 ((x6 == (2 : Int))) x0 x1 x2 x3 x4 x5 x6 x7 x8 (fun y33 => K0 y33) (fun y34 y35 y36 => Aar N y34 y35 y36 (fun y37 => K0 y37))) else (if ((x6 == (3 : Int)) = true) then (Aas N x6 ((x6 == (3 : Int))) x0 x1 x2 x3 x4 x5 x6 x7 x8 (fun y38 => K0 y38) (fun y39 y40 y41 => Aar N y39 y40 y41 (fun y42 => K0 y42))) else (if ((x6 == (4 : Int)) = true) then (Aas N x6 ((x6 == (4 : Int))) x0 x1 x2 x3 x4 x5 x6 x7 x8 (fun y43 => K0 y43) (fun y44 y45 y46 => Aar N y44 y45 y46 (fun y47 => K0 y47))) else (if ((x6 == (23 : Int)) = true) then (Aas N x6 ((x6 == (23 : Int))) x0 x1 x2 x3 x4 x5 x6 x7 x8 (fun y48 => K0 y48) (fun y49 y50 y51 => Aar N y49 y50 y51 (fun y52 => K0 y52))) else (if ((x6 == (18 : Int)) = true) then (Aas N x6 ((x6 == (18 : Int))) x0 x1 x2 x3 x4 x5 x6 x7 x8 (fun y53 => K0 y53) (fun y54 y55 y56 => Aar N y54 y55 y56 (fun y57 => K0 y57))) else (Aas N x6 ((x6 == (28 : Int))) x0 x1 x2 x3 x4 x5 x6 x7 x8 (fun y58 => K0 y58) (fun y59 y60 y61 => Aar N y59 y60 y61 (fun y62 => K0 y62)))))))))) else (if ((x6 == (1 : Int)) = true) then (K0 true) else (if ((x6 == (2 : Int)) = true) then (Aas N x6 ((x6 == (2 : Int))) x0 x1 x2 x3 x4 x5 x6 x7 x8 (fun y63 => K0 y63) (fun y64 y65 y66 => Aar N y64 y65 y66 (fun y67 => K0 y67))) else (if ((x6 == (3 : Int)) = true) then (Aas N x6 ((x6 == (3 : Int))) x0 x1 x2 x3 x4 x5 x6 x7 x8 (fun y68 => K0 y68) (fun y69 y70 y71 => Aar N y69 y70 y71 (fun y72 => K0 y72))) else (if ((x6 == (4 : Int)) = true) then (Aas N x6 ((x6 == (4 : Int))) x0 x1 x2 x3 x4 x5 x6 x7 x8 (fun y73 => K0 y73) (fun y74 y75 y76 => Aar N y74 y75 y76 (fun y77 => K0 y77))) else (if ((x6 == (23 : Int)) = true) then (Aas N x6 ((x6 == (23 : Int))) x0 x1 x2 x3 x4 x5 x6 x7 x8 (fun y78 => K0 y78) (fun y79 y80 y81 => Aar N y79 y80 y81 (fun y82 => K0 y82))) else (if ((x6 == (18 : Int)) = true) then (Aas N x6 ((x6 == (18 : Int))) x0 x1 x2 x3 x4 x5 x6 x7 x8 (fun y83 => K0 y83) (fun y84 y85 y86 => Aar N y84 y85 y86 (fun y87 => K0 y87))) else (Aas N x6 ((x6 == (28 : Int))) x0 x1 x2 x3 x4 x5 x6 x7 x8 (fun y88 => K0 y88) (fun y89 y90 y91 => Aar N y89 y90 y91 (fun y92 => K0 y92)))))))))) else (if ((x6 == (1 : Int)) = true) then (K0 true) else (if ((x6 == (2 : Int)) = true) then (Aas N x6 ((x6 == (2 : Int))) x0 x1 x2 x3 x4 x5 x6 x7 x8 (fun y93 => K0 y93) (fun y94 y95 y96 => Aar N y94 y95 y96 (fun y97 => K0 y97))) else (if ((x6 == (3 : Int)) = true) then (Aas N x6 ((x6 == (3 : Int))) x0 x1 x2 x3 x4 x5 x6 x7 x8 (fun y98 => K0 y98) (fun y99 y100 y101 => Aar N y99 y100 y101 (fun y102 => K0 y102))) else (if ((x6 == (4 : Int)) = true) then (Aas N x6 ((x6 == (4 : Int))) x0 x1 x2 x3 x4 x5 x6 x7 x8 (fun y103 => K0 y103) (fun y104 y105 y106 => Aar N y104 y105 y106 (fun y107 => K0 y107))) else (if ((x6 == (23 : Int)) = true) then (Aas N x6 ((x6 == (23 : Int))) x0 x1 x2 x3 x4 x5 x6 x7 x8 (fun y108 => K0 y108) (fun y109 y110 y111 => Aar N y109 y110 y111 (fun y112 => K0 y112))) else (if ((x6 == (18 : Int)) = true) then (Aas N x6 ((x6 == (18 : Int))) x0 x1 x2 x3 x4 x5 x6 x7 x8 (fun y113 => K0 y113) (fun y114 y115 y116 => Aar N y114 y115 y116 (fun y117 => K0 y117))) else (Aas N x6 ((x6 == (28 : Int))) x0 x1 x2 x3 x4 x5 x6 x7 x8 (fun y118 => K0 y118) (fun y119 y120 y121 => Aar N y119 y120 y121 (fun y122 => K0 y122)))))))))))))))
noncomputable def Aev : Aoo := @Asa @Aaq @Aas @Aar
noncomputable def Ce2 (N : Nat) : Abl A5m [Atg] := fun R x C => Aev N x.1.1.1 x.1.1.2.1 x.1.1.2.2.1 x.1.1.2.2.2.1 x.1.1.2.2.2.2.1 x.1.1.2.2.2.2.2.1 x.1.2.1.1 x.1.2.1.2.1 x.1.2.1.2.2.1 (fun y0 => C.1 ((y0, ()), (())))
noncomputable def A5n (Aev : Aoo) (N : Nat) : Go.AX.Aai := Ack [true, true] [] false 2 0 A5m [Atg] (fun R x C => Aev N x.1.1.1 x.1.1.2.1 x.1.1.2.2.1 x.1.1.2.2.2.1 x.1.1.2.2.2.2.1 x.1.1.2.2.2.2.2.1 x.1.2.1.1 x.1.2.1.2.1 x.1.2.1.2.2.1 (fun y0 => C.1 ((y0, ()), (()))))
noncomputable def Bg9 (N : Nat) : Go.AX.Aai := A5n @Aev N
noncomputable def Ce3 (N : Nat) : List (Nat × Acn) := [(68, Aaa Afx (A9g N)), (44, Aaa Afy (A9i N)), (36, Aaa Afz (A9k N)), (28, Aaa Af0 (A9m N)), (82, Aaa Af1 (A9o N))]
noncomputable def Bxb (N : Nat) : List (Nat × Go.AX.Aai) := [(98, A5j N)]
noncomputable def Air : Aac := ⟨[(1, .one (.ptr 32)), (3, .one (.val (.int .i64)))], [(32, .cells 34 [(.val .str), (.val z2), (.val z3), (.val z1), (.val (.int .i64)), (.val (.int .i64))])]⟩
noncomputable def Asb : Aac := ⟨[(2, .one (.val (.int .i64)))], []⟩
noncomputable def Asc : Aac := ⟨[(1, .one (.ptr 32))], [(32, .cells 34 [(.val .str), (.val z2), (.val z3), (.val z1), (.val (.int .i64)), (.val (.int .i64))])]⟩
noncomputable def Be7 : Acj := .cons .ret Asb (.cons (.exit 0) Asc (.nil))
@[reducible] def A3d (R : Type) : Type := Int → (List UInt8) → d4 → d3 → d1 → Int → Int → (Int → Option R) → ((List UInt8) → d4 → d3 → d1 → Int → Int → Option R) → Option R
@[reducible] def Be8 (R : Type) : Type := Int → (List UInt8) → d4 → d3 → d1 → Int → Int → Option R
@[reducible] def Avj : Type 1 := {R : Type} → Nat → Nat → A3d R
noncomputable def A3e (Aev : Aoo) {R : Type} (N : Nat) (rc : Be8 R) : A3d R := fun x0 x1 x2 x3 x4 x5 x6 K0 K1 =>
    if ((decide ((x0 < (len x3)))) = true) then (if (((0 : Int) ≤ x0) ∧ (x0 < (len x3))) then (Aev N x1 x2 x3 x4 x5 x6 ((List.getD x3 (Int.toNat x0) ((0 : Int), ((0 : Int), (0 : Int)))).1) ((List.getD x3 (Int.toNat x0) ((0 : Int), ((0 : Int), (0 : Int)))).2.1) ((List.getD x3 (Int.toNat x0) ((0 : Int), ((0 : Int), (0 : Int)))).2.2) (fun y0 => if ((!y0) = true) then (K0 60) else (rc ((wi (x0 + (1 : Int)))) x1 x2 x3 x4 x5 x6))) else none) else (K1 x1 x2 x3 x4 x5 x6)
noncomputable def Aez {R : Type} (N : Nat) : Nat → A3d R
  | 0 => fun _ _ _ _ _ _ _ _ _ => none
  | k + 1 => fun x0 x1 x2 x3 x4 x5 x6 K0 K1 => A3e @Aev N (fun x0 x1 x2 x3 x4 x5 x6 => Aez N k x0 x1 x2 x3 x4 x5 x6 K0 K1) x0 x1 x2 x3 x4 x5 x6 K0 K1
noncomputable def A3f (Aez : Avj) (N k : Nat) : Aap Air := fun R x K => Aez N k x.1.2.1 x.2.1.1 x.2.1.2.1 x.2.1.2.2.1 x.2.1.2.2.2.1 x.2.1.2.2.2.2.1 x.2.1.2.2.2.2.2.1 (fun y0 => K .ret (Aab Asb ((y0, ()), (())))) (fun y0 y1 y2 y3 y4 y5 => K (.exit 0) (Aab Asc (((), ()), ((y0, y1, y2, y3, y4, y5, ()), ()))))
noncomputable def A3g (N k : Nat) : Aap Air := A3f @Aez N k
noncomputable def Ahj : Code := Go.Proofs.Try.f84.body.getD .skip
noncomputable def Bjt : Code := Go.Proofs.Try.f99.body.getD .skip
noncomputable def A7t : Aac := ⟨[(0, .agg [(.val (.int .i64)), (.val (.int .i64)), (.val (.int .i64))])], []⟩
noncomputable def Avk : Aac := ⟨[(0, .one (.val .bool))], []⟩
@[reducible] def Bzq (R : Type) : Type := Int → Int → Int → (Bool → Option R) → Option R
@[reducible] def Ajb : Type 1 := {R : Type} → Nat → Bzq R
noncomputable def Aa0 : Ajb := fun {R} N x0 x1 x2 K0 =>
    if ((x0 != (20 : Int)) = true) then (if ((x0 != (25 : Int)) = true) then (if ((x0 != (26 : Int)) = true) then (if ((x0 != (27 : Int)) = true) then (if ((x0 != (29 : Int)) = true) then (K0 ((x0 != (30 : Int)))) else (K0 false)) else (K0 false)) else (K0 false)) else (K0 false)) else (K0 false)
noncomputable def Bzr (N : Nat) : Abl A7t [Avk] := fun R x C => Aa0 N x.1.1.1 x.1.1.2.1 x.1.1.2.2.1 (fun y0 => C.1 ((y0, ()), (())))
noncomputable def Anp (Aa0 : Ajb) (N : Nat) : Go.AX.Aai := Ack [true] [] false 1 0 A7t [Avk] (fun R x C => Aa0 N x.1.1.1 x.1.1.2.1 x.1.1.2.2.1 (fun y0 => C.1 ((y0, ()), (()))))
noncomputable def A7u (N : Nat) : Go.AX.Aai := Anp @Aa0 N
noncomputable def Bzs (N : Nat) : List (Nat × Acn) := []
noncomputable def Bju (N : Nat) : List (Nat × Go.AX.Aai) := []
noncomputable def Ais : Aac := ⟨[(1, .one (.ptr 32)), (3, .one (.val (.int .i64))), (4, .one (.val (.int .i64))), (5, .one (.val (.int .i64))), (6, .one (.val (.int .i64))), (7, .one (.ptr 33)), (8, .one (.val .bool))], [(32, .cells 34 [(.val .str), (.val z2), (.val z3), (.val z1), (.val (.int .i64)), (.val (.int .i64))]), (33, .cells 24 [(.val (.int .i64)), (.val (.int .i64)), (.val (.int .i64))])]⟩
noncomputable def Ay6 : Aac := ⟨[(2, .one (.val .bool))], []⟩
noncomputable def Ay7 : Aac := ⟨[(1, .one (.ptr 32)), (3, .one (.val (.int .i64))), (4, .one (.val (.int .i64))), (5, .one (.val (.int .i64))), (6, .one (.val (.int .i64)))], [(32, .cells 34 [(.val .str), (.val z2), (.val z3), (.val z1), (.val (.int .i64)), (.val (.int .i64))])]⟩
noncomputable def Be9 : Acj := .cons .ret Ay6 (.cons .normal Ay7 (.nil))
@[reducible] def Bt0 (R : Type) : Type := Int → Int → Int → Int → Bool → (List UInt8) → d4 → d3 → d1 → Int → Int → Int → Int → Int → (Bool → Option R) → (Int → Int → Int → Int → (List UInt8) → d4 → d3 → d1 → Int → Int → Option R) → Option R
@[reducible] def Ake : Type 1 := {R : Type} → Nat → Bt0 R
noncomputable def A3h (Aa0 : Ajb) : Ake := fun {R} N x0 x1 x2 x3 x4 x5 x6 x7 x8 x9 x10 x11 x12 x13 K0 K1 =>
    Aa0 N x11 x12 x13 (fun y0 => if (y0 = true) then (if (x4 = true) then (K0 false) else (let v0 := (wi (x3 + (1 : Int))); if (((0 : Int) ≤ v0) ∧ (v0 < (len x7))) then (if (((List.getD x7 (Int.toNat v0) ((0 : Int), ((0 : Int), (0 : Int)))).1 == (24 : Int)) = true) then (K0 false) else (if ((x3 == (0 : Int)) = true) then (if ((x11 != (24 : Int)) = true) then (K0 false) else (K1 x0 x1 x2 x3 x5 x6 x7 x8 x9 x10)) else (K1 x0 x1 x2 x3 x5 x6 x7 x8 x9 x10))) else none)) else (if ((x3 == (0 : Int)) = true) then (if ((x11 != (24 : Int)) = true) then (K0 false) else (K1 x0 x1 x2 x3 x5 x6 x7 x8 x9 x10)) else (K1 x0 x1 x2 x3 x5 x6 x7 x8 x9 x10)))
noncomputable def Acb : Ake := @A3h @Aa0
noncomputable def Aqb (Acb : Ake) (N : Nat) : Aap Ais := fun R x K => Acb N x.1.2.1 x.1.2.2.1 x.1.2.2.2.1 x.1.2.2.2.2.1 x.1.2.2.2.2.2.2.1 x.2.1.1 x.2.1.2.1 x.2.1.2.2.1 x.2.1.2.2.2.1 x.2.1.2.2.2.2.1 x.2.1.2.2.2.2.2.1 x.2.2.1.1 x.2.2.1.2.1 x.2.2.1.2.2.1 (fun y0 => K .ret (Aab Ay6 ((y0, ()), (())))) (fun y0 y1 y2 y3 y4 y5 y6 y7 y8 y9 => K .normal (Aab Ay7 (((), y0, y1, y2, y3, ()), ((y4, y5, y6, y7, y8, y9, ()), ()))))
noncomputable def Bfa (N : Nat) : Aap Ais := Aqb @Acb N
noncomputable def Ait : Aac := ⟨[(1, .one (.ptr 32)), (3, .one (.val (.int .i64))), (4, .one (.val (.int .i64))), (5, .one (.val (.int .i64))), (6, .one (.val (.int .i64))), (7, .one (.ptr 33))], [(32, .cells 34 [(.val .str), (.val z2), (.val z3), (.val z1), (.val (.int .i64)), (.val (.int .i64))]), (33, .cells 24 [(.val (.int .i64)), (.val (.int .i64)), (.val (.int .i64))])]⟩
noncomputable def Ay8 : Aac := ⟨[(2, .one (.val .bool))], []⟩
noncomputable def Ay9 : Aac := ⟨[(1, .one (.ptr 32)), (3, .one (.val (.int .i64))), (4, .one (.val (.int .i64))), (5, .one (.val (.int .i64))), (6, .one (.val (.int .i64)))], [(32, .cells 34 [(.val .str), (.val z2), (.val z3), (.val z1), (.val (.int .i64)), (.val (.int .i64))])]⟩
noncomputable def Bfb : Acj := .cons .ret Ay8 (.cons .normal Ay9 (.nil))
@[reducible] def Bt1 (R : Type) : Type := Int → Int → Int → Int → (List UInt8) → d4 → d3 → d1 → Int → Int → Int → Int → Int → (Bool → Option R) → (Int → Int → Int → Int → (List UInt8) → d4 → d3 → d1 → Int → Int → Option R) → Option R
@[reducible] def Akf : Type 1 := {R : Type} → Nat → Bt1 R
noncomputable def A3i (Acb : Ake) : Akf := fun {R} N x0 x1 x2 x3 x4 x5 x6 x7 x8 x9 x10 x11 x12 K0 K1 =>
    let v0 := (wi (x3 + (1 : Int))); if ((x10 == (24 : Int)) = true) then (let v1 := (wi (x0 + (1 : Int))); if ((x11 != v1) = true) then (K0 false) else (Acb N v1 x1 x2 x3 ((decide ((v0 ≥ (len x6))))) x4 x5 x6 x7 x8 x9 x10 x11 x12 (fun y0 => K0 y0) (fun y1 y2 y3 y4 y5 y6 y7 y8 y9 y10 => K1 y1 y2 y3 y4 y5 y6 y7 y8 y9 y10))) else (if ((x10 == (29 : Int)) = true) then (Acb N x0 x1 x12 x3 ((decide ((v0 ≥ (len x6))))) x4 x5 x6 x7 x8 x9 x10 x11 x12 (fun y11 => K0 y11) (fun y12 y13 y14 y15 y16 y17 y18 y19 y20 y21 => K1 y12 y13 y14 y15 y16 y17 y18 y19 y20 y21)) else (if ((x10 == (19 : Int)) = true) then (let v2 := (if (x11 > x1) then x11 else x1); if ((decide ((v0 ≥ (len x6)))) = true) then (K0 false) else (if (((0 : Int) ≤ v0) ∧ (v0 < (len x6))) then (let v3 := (List.getD x6 (Int.toNat v0) ((0 : Int), ((0 : Int), (0 : Int)))).1; if ((v3 != (18 : Int)) = true) then (if (((0 : Int) ≤ v0) ∧ (v0 < (len x6))) then (if ((v3 != (28 : Int)) = true) then (if (((0 : Int) ≤ v0) ∧ (v0 < (len x6))) then (if ((v3 != (19 : Int)) = true) then (K0 false) else (Acb N x0 v2 x2 x3 ((decide ((v0 ≥ (len x6))))) x4 x5 x6 x7 x8 x9 x10 x11 x12 (fun y22 => K0 y22) (fun y23 y24 y25 y26 y27 y28 y29 y30 y31 y32 => K1 y23 y24 y25 y26 y27 y28 y29 y30 y31 y32))) else none) else (Acb N x0 v2 x2 x3 ((decide ((v0 ≥ (len x6))))) x4 x5 x6 x7 x8 x9 x10 x11 x12 (fun y33 => K0 y33) (fun y34 y35 y36 y37 y38 y39 y40 y41 y42 y43 => K1 y34 y35 y36 y37 y38 y39 y40 y41 y42 y43))) else none) else (Acb N x0 v2 x2 x3 ((decide ((v0 ≥ (len x6))))) x4 x5 x6 x7 x8 x9 x10 x11 x12 (fun y44 => K0 y44) (fun y45 y46 y47 y48 y49 y50 y51 y52 y53 y54 => K1 y45 y46 y47 y48 y49 y50 y51 y52 y53 y54))) else none)) else (Acb N x0 x1 x2 x3 ((decide ((v0 ≥ (len x6))))) x4 x5 x6 x7 x8 x9 x10 x11 x12 (fun y55 => K0 y55) (fun y56 y57 y58 y59 y60 y61 y62 y63 y64 y65 => K1 y56 y57 y58 y59 y60 y61 y62 y63 y64 y65))))
noncomputable def Ade : Akf := @A3i @Acb
noncomputable def Aqc (Ade : Akf) (N : Nat) : Aap Ait := fun R x K => Ade N x.1.2.1 x.1.2.2.1 x.1.2.2.2.1 x.1.2.2.2.2.1 x.2.1.1 x.2.1.2.1 x.2.1.2.2.1 x.2.1.2.2.2.1 x.2.1.2.2.2.2.1 x.2.1.2.2.2.2.2.1 x.2.2.1.1 x.2.2.1.2.1 x.2.2.1.2.2.1 (fun y0 => K .ret (Aab Ay8 ((y0, ()), (())))) (fun y0 y1 y2 y3 y4 y5 y6 y7 y8 y9 => K .normal (Aab Ay9 (((), y0, y1, y2, y3, ()), ((y4, y5, y6, y7, y8, y9, ()), ()))))
noncomputable def Bfc (N : Nat) : Aap Ait := Aqc @Ade N
noncomputable def Ahw : Aac := ⟨[(1, .one (.ptr 32)), (3, .one (.val (.int .i64))), (4, .one (.val (.int .i64))), (5, .one (.val (.int .i64))), (6, .one (.val (.int .i64)))], [(32, .cells 34 [(.val .str), (.val z2), (.val z3), (.val z1), (.val (.int .i64)), (.val (.int .i64))])]⟩
noncomputable def Ath : Aac := ⟨[(2, .one (.val .bool))], []⟩
noncomputable def Ati : Aac := ⟨[(1, .one (.ptr 32)), (3, .one (.val (.int .i64))), (4, .one (.val (.int .i64))), (5, .one (.val (.int .i64)))], [(32, .cells 34 [(.val .str), (.val z2), (.val z3), (.val z1), (.val (.int .i64)), (.val (.int .i64))])]⟩
noncomputable def Bha : Acj := .cons .ret Ath (.cons (.exit 0) Ati (.nil))
@[reducible] def A5o (R : Type) : Type := Int → Int → Int → Int → (List UInt8) → d4 → d3 → d1 → Int → Int → (Bool → Option R) → (Int → Int → Int → (List UInt8) → d4 → d3 → d1 → Int → Int → Option R) → Option R
@[reducible] def Bhb (R : Type) : Type := Int → Int → Int → Int → (List UInt8) → d4 → d3 → d1 → Int → Int → Option R
@[reducible] def Aop : Type 1 := {R : Type} → Nat → Nat → A5o R
noncomputable def A5p (Ade : Akf) {R : Type} (N : Nat) (rc : Bhb R) : A5o R := fun x0 x1 x2 x3 x4 x5 x6 x7 x8 x9 K0 K1 =>
    if ((decide ((x3 < (len x6)))) = true) then (if (((0 : Int) ≤ x3) ∧ (x3 < (len x6))) then (let v0 := (List.getD x6 (Int.toNat x3) ((0 : Int), ((0 : Int), (0 : Int)))).1; let v1 := (List.getD x6 (Int.toNat x3) ((0 : Int), ((0 : Int), (0 : Int)))).2.1; let v2 := (List.getD x6 (Int.toNat x3) ((0 : Int), ((0 : Int), (0 : Int)))).2.2; if ((!((decide ((x2 > (0 : Int)))) == (v0 == (30 : Int)))) = true) then (K0 false) else (if ((decide ((x2 > (0 : Int)))) = true) then (Ade N x0 x1 ((wi (x2 - (1 : Int)))) x3 x4 x5 x6 x7 x8 x9 v0 v1 v2 (fun y0 => K0 y0) (fun y1 y2 y3 y4 y5 y6 y7 y8 y9 y10 => rc y1 y2 y3 ((wi (y4 + (1 : Int)))) y5 y6 y7 y8 y9 y10)) else (Ade N x0 x1 x2 x3 x4 x5 x6 x7 x8 x9 v0 v1 v2 (fun y11 => K0 y11) (fun y12 y13 y14 y15 y16 y17 y18 y19 y20 y21 => rc y12 y13 y14 ((wi (y15 + (1 : Int)))) y16 y17 y18 y19 y20 y21)))) else none) else (K1 x0 x1 x2 x4 x5 x6 x7 x8 x9)
noncomputable def Ac2 {R : Type} (N : Nat) : Nat → A5o R
  | 0 => fun _ _ _ _ _ _ _ _ _ _ _ _ => none
  | k + 1 => fun x0 x1 x2 x3 x4 x5 x6 x7 x8 x9 K0 K1 => A5p @Ade N (fun x0 x1 x2 x3 x4 x5 x6 x7 x8 x9 => Ac2 N k x0 x1 x2 x3 x4 x5 x6 x7 x8 x9 K0 K1) x0 x1 x2 x3 x4 x5 x6 x7 x8 x9 K0 K1
noncomputable def Asd (Ac2 : Aop) (N k : Nat) : Aap Ahw := fun R x K => Ac2 N k x.1.2.1 x.1.2.2.1 x.1.2.2.2.1 x.1.2.2.2.2.1 x.2.1.1 x.2.1.2.1 x.2.1.2.2.1 x.2.1.2.2.2.1 x.2.1.2.2.2.2.1 x.2.1.2.2.2.2.2.1 (fun y0 => K .ret (Aab Ath ((y0, ()), (())))) (fun y0 y1 y2 y3 y4 y5 y6 y7 y8 => K (.exit 0) (Aab Ati (((), y0, y1, y2, ()), ((y3, y4, y5, y6, y7, y8, ()), ()))))
noncomputable def A5q (N k : Nat) : Aap Ahw := Asd @Ac2 N k
noncomputable def Ba9 : Aac := ⟨[(0, .agg [(.val .str), (.val z2), (.val z3), (.val z1), (.val (.int .i64)), (.val (.int .i64))])], []⟩
noncomputable def Axs : Aac := ⟨[(0, .one (.val .bool))], []⟩
@[reducible] def B3w (R : Type) : Type := (List UInt8) → d4 → d3 → d1 → Int → Int → (Bool → Option R) → Option R
@[reducible] def Arb : Type 1 := {R : Type} → Nat → B3w R
noncomputable def Bba (Ac2 : Aop) : Arb := fun {R} N x0 x1 x2 x3 x4 x5 K0 =>
    Ac2 N N 0 0 0 0 x0 x1 x2 x3 x4 x5 (fun y0 => K0 y0) (fun y1 y2 y3 y4 y5 y6 y7 y8 y9 => if ((y3 == (0 : Int)) = true) then (if ((y1 == y8) = true) then (K0 ((y2 == y9))) else (K0 false)) else (K0 false))
noncomputable def Agy : Arb := @Bba @Ac2
noncomputable def Cgv (N : Nat) : Abl Ba9 [Axs] := fun R x C => Agy N x.1.1.1 x.1.1.2.1 x.1.1.2.2.1 x.1.1.2.2.2.1 x.1.1.2.2.2.2.1 x.1.1.2.2.2.2.2.1 (fun y0 => C.1 ((y0, ()), (())))
noncomputable def Bbb (Agy : Arb) (N : Nat) : Go.AX.Aai := Ack [true] [] false 1 0 Ba9 [Axs] (fun R x C => Agy N x.1.1.1 x.1.1.2.1 x.1.1.2.2.1 x.1.1.2.2.2.1 x.1.1.2.2.2.2.1 x.1.1.2.2.2.2.2.1 (fun y0 => C.1 ((y0, ()), (()))))
noncomputable def Bmw (N : Nat) : Go.AX.Aai := Bbb @Agy N
noncomputable def Cgw (N : Nat) : List (Nat × Acn) := [(44, Aaa Ais (Bfa N)), (20, Aaa Ait (Bfc N)), (7, Aaa Ahw (A5q N N))]
noncomputable def B3x (N : Nat) : List (Nat × Go.AX.Aai) := [(99, A7u N)]
noncomputable def Adv : Code := Go.Proofs.Try.f85.body.getD .skip
noncomputable def Agk : Aac := ⟨[(1, .one (.ptr 32)), (2, .one (.ptr 33)), (4, .one (.ptr 34)), (5, .one (.val (.int .i64)))], [(32, .cells 34 [(.val .str), (.val z2), (.val z3), (.val z1), (.val (.int .i64)), (.val (.int .i64))]), (33, .cells 111 [(.slf 35), (.slf 36)]), (34, .cells 111 [(.slf 37), (.slf 38)]), (35, .row 3 (.int .i64)), (36, .row 3 (.int .i64)), (37, .row 3 (.int .i64)), (38, .row 3 (.int .i64))]⟩
noncomputable def Ase : Aac := ⟨[(1, .one (.ptr 32)), (2, .one (.ptr 33)), (4, .one (.ptr 34))], [(32, .cells 34 [(.val .str), (.val z2), (.val z3), (.val z1), (.val (.int .i64)), (.val (.int .i64))]), (33, .cells 111 [(.slf 35), (.slf 36)]), (34, .cells 111 [(.slf 37), (.slf 38)]), (35, .row 3 (.int .i64)), (36, .row 3 (.int .i64)), (37, .row 3 (.int .i64)), (38, .row 3 (.int .i64))]⟩
noncomputable def Bfd : Acj := .cons (.exit 0) Ase (.nil)
@[reducible] def A3j (R : Type) : Type := Int → (List UInt8) → d4 → d3 → d1 → Int → Int → d0 → d0 → d0 → d0 → ((List UInt8) → d4 → d3 → d1 → Int → Int → d0 → d0 → d0 → d0 → Option R) → Option R
@[reducible] def Bfe (R : Type) : Type := Int → (List UInt8) → d4 → d3 → d1 → Int → Int → d0 → d0 → d0 → d0 → Option R
@[reducible] def Alp : Type 1 := {R : Type} → Nat → Nat → A3j R
noncomputable def Avl {R : Type} (N : Nat) (rc : Bfe R) : A3j R := fun x0 x1 x2 x3 x4 x5 x6 x7 x8 x9 x10 K0 =>
    if ((decide ((x0 ≤ x6))) = true) then (if (((0 : Int) ≤ x0) ∧ (x0 < (len x9))) then (rc ((wi (x0 + (1 : Int)))) x1 x2 x3 x4 x5 x6 x7 x8 ((List.set x9 (Int.toNat x0) (-1 : Int))) x10) else none) else (K0 x1 x2 x3 x4 x5 x6 x7 x8 x9 x10)
noncomputable def Acc {R : Type} (N : Nat) : Nat → A3j R
  | 0 => fun _ _ _ _ _ _ _ _ _ _ _ _ => none
  | k + 1 => fun x0 x1 x2 x3 x4 x5 x6 x7 x8 x9 x10 K0 => Avl N (fun x0 x1 x2 x3 x4 x5 x6 x7 x8 x9 x10 => Acc N k x0 x1 x2 x3 x4 x5 x6 x7 x8 x9 x10 K0) x0 x1 x2 x3 x4 x5 x6 x7 x8 x9 x10 K0
noncomputable def Anq (Acc : Alp) (N k : Nat) : Aap Agk := fun R x K => Acc N k x.1.2.2.2.1 x.2.1.1 x.2.1.2.1 x.2.1.2.2.1 x.2.1.2.2.2.1 x.2.1.2.2.2.2.1 x.2.1.2.2.2.2.2.1 x.2.2.2.2.1 x.2.2.2.2.2.1 x.2.2.2.2.2.2.1 x.2.2.2.2.2.2.2.1 (fun y0 y1 y2 y3 y4 y5 y6 y7 y8 y9 => K (.exit 0) (Aab Ase (((), (), (), ()), ((y0, y1, y2, y3, y4, y5, ()), ((), (), ()), ((), (), ()), y6, y7, y8, y9, ()))))
noncomputable def A3k (N k : Nat) : Aap Agk := Anq @Acc N k
noncomputable def Ahe : Aac := ⟨[(1, .one (.ptr 32)), (2, .one (.ptr 33)), (4, .one (.ptr 34)), (6, .one (.val (.int .i64))), (7, .one (.val (.int .i64)))], [(32, .cells 34 [(.val .str), (.val z2), (.val z3), (.val z1), (.val (.int .i64)), (.val (.int .i64))]), (33, .cells 111 [(.slf 35), (.slf 36)]), (34, .cells 111 [(.slf 37), (.slf 38)]), (35, .row 3 (.int .i64)), (36, .row 3 (.int .i64)), (37, .row 3 (.int .i64)), (38, .row 3 (.int .i64))]⟩
noncomputable def Awy : Aac := ⟨[(2, .one (.ptr 32)), (3, .one (.val .bool))], [(32, .cells 111 [(.slf 33), (.slf 34)]), (33, .row 3 (.int .i64)), (34, .row 3 (.int .i64))]⟩
noncomputable def Awz : Aac := ⟨[(1, .one (.ptr 32)), (2, .one (.ptr 33)), (4, .one (.ptr 34)), (6, .one (.val (.int .i64))), (7, .one (.val (.int .i64)))], [(32, .cells 34 [(.val .str), (.val z2), (.val z3), (.val z1), (.val (.int .i64)), (.val (.int .i64))]), (33, .cells 111 [(.slf 35), (.slf 36)]), (34, .cells 111 [(.slf 37), (.slf 38)]), (35, .row 3 (.int .i64)), (36, .row 3 (.int .i64)), (37, .row 3 (.int .i64)), (38, .row 3 (.int .i64))]⟩
noncomputable def Bch : Acj := .cons .ret Awy (.cons .normal Awz (.nil))
@[reducible] def Brj (R : Type) : Type := Int → Int → (List UInt8) → d4 → d3 → d1 → Int → Int → d0 → d0 → d0 → d0 → (Bool → d0 → d0 → Option R) → (Int → Int → (List UInt8) → d4 → d3 → d1 → Int → Int → d0 → d0 → d0 → d0 → Option R) → Option R
@[reducible] def Ajl : Type 1 := {R : Type} → Nat → Brj R
noncomputable def Ach : Ajl := fun {R} N x0 x1 x2 x3 x4 x5 x6 x7 x8 x9 x10 x11 K0 K1 =>
    if (((0 : Int) ≤ x1) ∧ (x1 < (len x11))) then (if (((0 : Int) ≤ x1) ∧ (x1 < (len x4))) then (if (((List.getD x4 (Int.toNat x1) ((0 : Int), ((0 : Int), (0 : Int)))).1 == (19 : Int)) = true) then (if (((0 : Int) ≤ x1) ∧ (x1 < (len x4))) then (let v0 := (List.getD x4 (Int.toNat x1) ((0 : Int), ((0 : Int), (0 : Int)))).2.1; if (((0 : Int) ≤ v0) ∧ (v0 < (len x10))) then (if ((decide (((List.getD x10 (Int.toNat v0) (0 : Int)) ≥ (0 : Int)))) = true) then (K0 false x10 ((List.set x11 (Int.toNat x1) x0))) else (if (((0 : Int) ≤ x1) ∧ (x1 < (len x4))) then (if (((0 : Int) ≤ v0) ∧ (v0 < (len x10))) then (K1 x0 x1 x2 x3 x4 x5 x6 x7 x8 x9 ((List.set x10 (Int.toNat v0) x1)) ((List.set x11 (Int.toNat x1) x0))) else none) else none)) else none) else none) else (K1 x0 x1 x2 x3 x4 x5 x6 x7 x8 x9 x10 ((List.set x11 (Int.toNat x1) x0)))) else none) else none
noncomputable def Ams (Ach : Ajl) (N : Nat) : Aap Ahe := fun R x K => Ach N x.1.2.2.2.1 x.1.2.2.2.2.1 x.2.1.1 x.2.1.2.1 x.2.1.2.2.1 x.2.1.2.2.2.1 x.2.1.2.2.2.2.1 x.2.1.2.2.2.2.2.1 x.2.2.2.2.1 x.2.2.2.2.2.1 x.2.2.2.2.2.2.1 x.2.2.2.2.2.2.2.1 (fun y0 y1 y2 => K .ret (Aab Awy (((), y0, ()), (((), (), ()), y1, y2, ())))) (fun y0 y1 y2 y3 y4 y5 y6 y7 y8 y9 y10 y11 => K .normal (Aab Awz (((), (), (), y0, y1, ()), ((y2, y3, y4, y5, y6, y7, ()), ((), (), ()), ((), (), ()), y8, y9, y10, y11, ()))))
noncomputable def Bci (N : Nat) : Aap Ahe := Ams @Ach N
noncomputable def Afn : Aac := ⟨[(1, .one (.ptr 32)), (2, .one (.ptr 33)), (4, .one (.ptr 34)), (6, .one (.val (.int .i64))), (7, .one (.val (.int .i64)))], [(32, .cells 34 [(.val .str), (.val z2), (.val z3), (.val z1), (.val (.int .i64)), (.val (.int .i64))]), (33, .cells 111 [(.slf 35), (.slf 36)]), (34, .cells 111 [(.slf 37), (.slf 38)]), (35, .row 3 (.int .i64)), (36, .row 3 (.int .i64)), (37, .row 3 (.int .i64)), (38, .row 3 (.int .i64))]⟩
noncomputable def Aqt : Aac := ⟨[(2, .one (.ptr 32)), (3, .one (.val .bool))], [(32, .cells 111 [(.slf 33), (.slf 34)]), (33, .row 3 (.int .i64)), (34, .row 3 (.int .i64))]⟩
noncomputable def Aqu : Aac := ⟨[(1, .one (.ptr 32)), (2, .one (.ptr 33)), (4, .one (.ptr 34))], [(32, .cells 34 [(.val .str), (.val z2), (.val z3), (.val z1), (.val (.int .i64)), (.val (.int .i64))]), (33, .cells 111 [(.slf 35), (.slf 36)]), (34, .cells 111 [(.slf 37), (.slf 38)]), (35, .row 3 (.int .i64)), (36, .row 3 (.int .i64)), (37, .row 3 (.int .i64)), (38, .row 3 (.int .i64))]⟩
noncomputable def Bcj : Acj := .cons .ret Aqt (.cons (.exit 2) Aqu (.nil))
@[reducible] def A04 (R : Type) : Type := Int → Int → (List UInt8) → d4 → d3 → d1 → Int → Int → d0 → d0 → d0 → d0 → (Bool → d0 → d0 → Option R) → ((List UInt8) → d4 → d3 → d1 → Int → Int → d0 → d0 → d0 → d0 → Option R) → Option R
@[reducible] def Bck (R : Type) : Type := Int → Int → (List UInt8) → d4 → d3 → d1 → Int → Int → d0 → d0 → d0 → d0 → Option R
@[reducible] def Ak6 : Type 1 := {R : Type} → Nat → Nat → A04 R
noncomputable def A05 (Ach : Ajl) {R : Type} (N : Nat) (rc : Bck R) : A04 R := fun x0 x1 x2 x3 x4 x5 x6 x7 x8 x9 x10 x11 K0 K1 =>
    if ((decide ((x1 < (len x4)))) = true) then (if (((0 : Int) ≤ x1) ∧ (x1 < (len x4))) then (if (((List.getD x4 (Int.toNat x1) ((0 : Int), ((0 : Int), (0 : Int)))).1 == (24 : Int)) = true) then (Ach N ((wi (x0 + (1 : Int)))) x1 x2 x3 x4 x5 x6 x7 x8 x9 x10 x11 (fun y0 y1 y2 => K0 y0 y1 y2) (fun y3 y4 y5 y6 y7 y8 y9 y10 y11 y12 y13 y14 => rc y3 ((wi (y4 + (1 : Int)))) y5 y6 y7 y8 y9 y10 y11 y12 y13 y14)) else (Ach N x0 x1 x2 x3 x4 x5 x6 x7 x8 x9 x10 x11 (fun y15 y16 y17 => K0 y15 y16 y17) (fun y18 y19 y20 y21 y22 y23 y24 y25 y26 y27 y28 y29 => rc y18 ((wi (y19 + (1 : Int)))) y20 y21 y22 y23 y24 y25 y26 y27 y28 y29))) else none) else (K1 x2 x3 x4 x5 x6 x7 x8 x9 x10 x11)
noncomputable def Abv {R : Type} (N : Nat) : Nat → A04 R
  | 0 => fun _ _ _ _ _ _ _ _ _ _ _ _ _ _ => none
  | k + 1 => fun x0 x1 x2 x3 x4 x5 x6 x7 x8 x9 x10 x11 K0 K1 => A05 @Ach N (fun x0 x1 x2 x3 x4 x5 x6 x7 x8 x9 x10 x11 => Abv N k x0 x1 x2 x3 x4 x5 x6 x7 x8 x9 x10 x11 K0 K1) x0 x1 x2 x3 x4 x5 x6 x7 x8 x9 x10 x11 K0 K1
noncomputable def Amt (Abv : Ak6) (N k : Nat) : Aap Afn := fun R x K => Abv N k x.1.2.2.2.1 x.1.2.2.2.2.1 x.2.1.1 x.2.1.2.1 x.2.1.2.2.1 x.2.1.2.2.2.1 x.2.1.2.2.2.2.1 x.2.1.2.2.2.2.2.1 x.2.2.2.2.1 x.2.2.2.2.2.1 x.2.2.2.2.2.2.1 x.2.2.2.2.2.2.2.1 (fun y0 y1 y2 => K .ret (Aab Aqt (((), y0, ()), (((), (), ()), y1, y2, ())))) (fun y0 y1 y2 y3 y4 y5 y6 y7 y8 y9 => K (.exit 2) (Aab Aqu (((), (), (), ()), ((y0, y1, y2, y3, y4, y5, ()), ((), (), ()), ((), (), ()), y6, y7, y8, y9, ()))))
noncomputable def A06 (N k : Nat) : Aap Afn := Amt @Abv N k
noncomputable def Awe : Code := Go.Proofs.Try.f33.body.getD .skip
noncomputable def Alq : Aac := ⟨[(1, .one (.ptr 32)), (4, .one (.val (.int .i64))), (5, .one (.val .bool))], [(32, .cells 24 [(.val (.int .i64)), (.val (.int .i64)), (.val (.int .i64))])]⟩
noncomputable def Aza : Aac := ⟨[(2, .one (.val (.int .i64)))], []⟩
noncomputable def Azb : Aac := ⟨[], []⟩
noncomputable def Bff : Acj := .cons .ret Aza (.cons .normal Azb (.nil))
@[reducible] def Bt2 (R : Type) : Type := Int → Bool → Int → Int → Int → (Int → Option R) → (Option R) → Option R
@[reducible] def Aqd : Type 1 := {R : Type} → Nat → Bt2 R
noncomputable def Aeb : Aqd := fun {R} N x0 x1 x2 x3 x4 K0 K1 =>
    if (x1 = true) then (K0 x3) else (if ((x0 == (30 : Int)) = true) then (K0 x4) else K1)
noncomputable def A3l (Aeb : Aqd) (N : Nat) : Aap Alq := fun R x K => Aeb N x.1.2.1 x.1.2.2.1 x.2.1.1 x.2.1.2.1 x.2.1.2.2.1 (fun y0 => K .ret (Aab Aza ((y0, ()), (())))) (K .normal (Aab Azb ((()), (()))))
noncomputable def Bfg (N : Nat) : Aap Alq := A3l @Aeb N
noncomputable def Bbc : Aac := ⟨[(0, .agg [(.val (.int .i64)), (.val (.int .i64)), (.val (.int .i64))])], []⟩
noncomputable def Axt : Aac := ⟨[(0, .one (.val (.int .i64)))], []⟩
@[reducible] def B3y (R : Type) : Type := Int → Int → Int → (Int → Option R) → Option R
@[reducible] def Aia : Type 1 := {R : Type} → Nat → B3y R
noncomputable def Bbd (Aeb : Aqd) : Aia := fun {R} N x0 x1 x2 K0 =>
    if ((x0 == (20 : Int)) = true) then (Aeb N x0 ((x0 == (20 : Int))) x0 x1 x2 (fun y0 => K0 y0) (K0 0)) else (if ((x0 == (21 : Int)) = true) then (Aeb N x0 ((x0 == (21 : Int))) x0 x1 x2 (fun y1 => K0 y1) (K0 0)) else (if ((x0 == (22 : Int)) = true) then (Aeb N x0 ((x0 == (22 : Int))) x0 x1 x2 (fun y2 => K0 y2) (K0 0)) else (if ((x0 == (27 : Int)) = true) then (Aeb N x0 ((x0 == (27 : Int))) x0 x1 x2 (fun y3 => K0 y3) (K0 0)) else (Aeb N x0 ((x0 == (29 : Int))) x0 x1 x2 (fun y4 => K0 y4) (K0 0)))))
noncomputable def Abf : Aia := @Bbd @Aeb
noncomputable def Cgx (N : Nat) : Abl Bbc [Axt] := fun R x C => Abf N x.1.1.1 x.1.1.2.1 x.1.1.2.2.1 (fun y0 => C.1 ((y0, ()), (())))
noncomputable def Amz (Abf : Aia) (N : Nat) : Go.AX.Aai := Ack [true] [] false 1 0 Bbc [Axt] (fun R x C => Abf N x.1.1.1 x.1.1.2.1 x.1.1.2.2.1 (fun y0 => C.1 ((y0, ()), (()))))
noncomputable def Bbe (N : Nat) : Go.AX.Aai := Amz @Abf N
noncomputable def Cgy (N : Nat) : List (Nat × Acn) := [(14, Aaa Alq (Bfg N))]
noncomputable def B3z (N : Nat) : List (Nat × Go.AX.Aai) := []
noncomputable def Afo : Aac := ⟨[(1, .one (.ptr 32)), (2, .one (.ptr 33)), (4, .one (.ptr 34)), (8, .one (.val (.int .i64)))], [(32, .cells 34 [(.val .str), (.val z2), (.val z3), (.val z1), (.val (.int .i64)), (.val (.int .i64))]), (33, .cells 111 [(.slf 35), (.slf 36)]), (34, .cells 111 [(.slf 37), (.slf 38)]), (35, .row 3 (.int .i64)), (36, .row 3 (.int .i64)), (37, .row 3 (.int .i64)), (38, .row 3 (.int .i64))]⟩
noncomputable def Aqv : Aac := ⟨[(2, .one (.ptr 32)), (3, .one (.val .bool))], [(32, .cells 111 [(.slf 33), (.slf 34)]), (33, .row 3 (.int .i64)), (34, .row 3 (.int .i64))]⟩
noncomputable def Aqw : Aac := ⟨[(2, .one (.ptr 32)), (4, .one (.ptr 33))], [(32, .cells 111 [(.slf 34), (.slf 35)]), (33, .cells 111 [(.slf 36), (.slf 37)]), (34, .row 3 (.int .i64)), (35, .row 3 (.int .i64)), (36, .row 3 (.int .i64)), (37, .row 3 (.int .i64))]⟩
noncomputable def Bcl : Acj := .cons .ret Aqv (.cons (.exit 4) Aqw (.nil))
@[reducible] def A07 (R : Type) : Type := Int → (List UInt8) → d4 → d3 → d1 → Int → Int → d0 → d0 → d0 → d0 → (Bool → d0 → d0 → Option R) → (d0 → d0 → d0 → d0 → Option R) → Option R
@[reducible] def Bcm (R : Type) : Type := Int → (List UInt8) → d4 → d3 → d1 → Int → Int → d0 → d0 → d0 → d0 → Option R
@[reducible] def Ak7 : Type 1 := {R : Type} → Nat → Nat → A07 R
noncomputable def A08 (Abf : Aia) {R : Type} (N : Nat) (rc : Bcm R) : A07 R := fun x0 x1 x2 x3 x4 x5 x6 x7 x8 x9 x10 K0 K1 =>
    if ((decide ((x0 < (len x3)))) = true) then (if (((0 : Int) ≤ x0) ∧ (x0 < (len x3))) then (Abf N ((List.getD x3 (Int.toNat x0) ((0 : Int), ((0 : Int), (0 : Int)))).1) ((List.getD x3 (Int.toNat x0) ((0 : Int), ((0 : Int), (0 : Int)))).2.1) ((List.getD x3 (Int.toNat x0) ((0 : Int), ((0 : Int), (0 : Int)))).2.2) (fun y0 => if ((decide ((y0 > (0 : Int)))) = true) then (if (((0 : Int) ≤ y0) ∧ (y0 < (len x9))) then (let v0 := (List.getD x9 (Int.toNat y0) (0 : Int)); if ((decide ((v0 < (0 : Int)))) = true) then (K0 false x9 x10) else (if (((0 : Int) ≤ y0) ∧ (y0 < (len x9))) then (if (((0 : Int) ≤ v0) ∧ (v0 < (len x10))) then (if (((0 : Int) ≤ x0) ∧ (x0 < (len x10))) then (if (((List.getD x10 (Int.toNat v0) (0 : Int)) != (List.getD x10 (Int.toNat x0) (0 : Int))) = true) then (K0 false x9 x10) else (rc ((wi (x0 + (1 : Int)))) x1 x2 x3 x4 x5 x6 x7 x8 x9 x10)) else none) else none) else none)) else none) else (rc ((wi (x0 + (1 : Int)))) x1 x2 x3 x4 x5 x6 x7 x8 x9 x10))) else none) else (K1 x7 x8 x9 x10)
noncomputable def Abp {R : Type} (N : Nat) : Nat → A07 R
  | 0 => fun _ _ _ _ _ _ _ _ _ _ _ _ _ => none
  | k + 1 => fun x0 x1 x2 x3 x4 x5 x6 x7 x8 x9 x10 K0 K1 => A08 @Abf N (fun x0 x1 x2 x3 x4 x5 x6 x7 x8 x9 x10 => Abp N k x0 x1 x2 x3 x4 x5 x6 x7 x8 x9 x10 K0 K1) x0 x1 x2 x3 x4 x5 x6 x7 x8 x9 x10 K0 K1
noncomputable def Amu (Abp : Ak7) (N k : Nat) : Aap Afo := fun R x K => Abp N k x.1.2.2.2.1 x.2.1.1 x.2.1.2.1 x.2.1.2.2.1 x.2.1.2.2.2.1 x.2.1.2.2.2.2.1 x.2.1.2.2.2.2.2.1 x.2.2.2.2.1 x.2.2.2.2.2.1 x.2.2.2.2.2.2.1 x.2.2.2.2.2.2.2.1 (fun y0 y1 y2 => K .ret (Aab Aqv (((), y0, ()), (((), (), ()), y1, y2, ())))) (fun y0 y1 y2 y3 => K (.exit 4) (Aab Aqw (((), (), ()), (((), (), ()), ((), (), ()), y0, y1, y2, y3, ()))))
noncomputable def A09 (N k : Nat) : Aap Afo := Amu @Abp N k
noncomputable def A7v : Aac := ⟨[(0, .agg [(.val .str), (.val z2), (.val z3), (.val z1), (.val (.int .i64)), (.val (.int .i64))])], []⟩
noncomputable def Avm : Aac := ⟨[(0, .agg [(.slf 32), (.slf 33)]), (1, .one (.val .bool))], [(32, .row 3 (.int .i64)), (33, .row 3 (.int .i64))]⟩
@[reducible] def Bzt (R : Type) : Type := (List UInt8) → d4 → d3 → d1 → Int → Int → (Bool → d0 → d0 → Option R) → Option R
@[reducible] def Apt : Type 1 := {R : Type} → Nat → Bzt R
noncomputable def A7w (Acc : Alp) (Abv : Ak6) (Abp : Ak7) : Apt := fun {R} N x0 x1 x2 x3 x4 x5 K0 =>
    let v0 := (wi (x5 + (1 : Int))); if (((0 : Int) ≤ v0) ∧ ((v0 ≤ v0) ∧ ((v0 * (8 : Int)) ≤ (70368744177664 : Int)))) then (if (((0 : Int) ≤ (len x2)) ∧ (((len x2) ≤ (len x2)) ∧ (((len x2) * (8 : Int)) ≤ (70368744177664 : Int)))) then (Acc N N 0 x0 x1 x2 x3 x4 x5 (([] : List Int)) (([] : List Int)) ((List.replicate (Int.toNat v0) (0 : Int))) ((List.replicate (Int.toNat (len x2)) (0 : Int))) (fun y0 y1 y2 y3 y4 y5 y6 y7 y8 y9 => Abv N N 0 0 y0 y1 y2 y3 y4 y5 y6 y7 y8 y9 (fun y10 y11 y12 => K0 y10 y11 y12) (fun y13 y14 y15 y16 y17 y18 y19 y20 y21 y22 => Abp N N 0 y13 y14 y15 y16 y17 y18 y19 y20 y21 y22 (fun y23 y24 y25 => K0 y23 y24 y25) (fun y26 y27 y28 y29 => K0 true y28 y29)))) else none) else none
noncomputable def Af2 : Apt := @A7w @Acc @Abv @Abp
noncomputable def Cfu (N : Nat) : Abl A7v [Avm] := fun R x C => Af2 N x.1.1.1 x.1.1.2.1 x.1.1.2.2.1 x.1.1.2.2.2.1 x.1.1.2.2.2.2.1 x.1.1.2.2.2.2.2.1 (fun y0 y1 y2 => C.1 ((((), (), ()), y0, ()), (y1, y2, ())))
noncomputable def A7x (Af2 : Apt) (N : Nat) : Go.AX.Aai := Ack [true] [] false 1 0 A7v [Avm] (fun R x C => Af2 N x.1.1.1 x.1.1.2.1 x.1.1.2.2.1 x.1.1.2.2.2.1 x.1.1.2.2.2.2.1 x.1.1.2.2.2.2.2.1 (fun y0 y1 y2 => C.1 ((((), (), ()), y0, ()), (y1, y2, ()))))
noncomputable def Bjv (N : Nat) : Go.AX.Aai := A7x @Af2 N
noncomputable def Cfv (N : Nat) : List (Nat × Acn) := [(7, Aaa Agk (A3k N N)), (24, Aaa Ahe (Bci N)), (17, Aaa Afn (A06 N N)), (37, Aaa Afo (A09 N N))]
noncomputable def Bzu (N : Nat) : List (Nat × Go.AX.Aai) := [(33, Bbe N)]
noncomputable def Aqe : Code := Go.Proofs.Try.f86.body.getD .skip
noncomputable def Ai1 : Code := Go.Proofs.Try.f100.body.getD .skip
noncomputable def Aiu : Aac := ⟨[(1, .one (.val (.int .i64))), (2, .one (.ptr 32)), (6, .one (.val (.int .i64))), (43, .one (.val .bool))], [(32, .cells 24 [(.val (.int .i64)), (.val (.int .i64)), (.val (.int .i64))])]⟩
noncomputable def Azc : Aac := ⟨[(4, .one (.val (.int .i64)))], []⟩
noncomputable def Azd : Aac := ⟨[(1, .one (.val (.int .i64)))], []⟩
noncomputable def Bfh : Acj := .cons .ret Azc (.cons .normal Azd (.nil))
@[reducible] def Bt3 (R : Type) : Type := Int → Int → Bool → Int → Int → Int → (Int → Option R) → (Int → Option R) → Option R
@[reducible] def Alr : Type 1 := {R : Type} → Nat → Bt3 R
noncomputable def Adf : Alr := fun {R} N x0 x1 x2 x3 x4 x5 K0 K1 =>
    if (x2 = true) then (K0 ((wi (x4 + (1 : Int))))) else (if ((x1 == (24 : Int)) = true) then (K0 ((wi ((2 : Int) + x5)))) else (K1 x0))
noncomputable def Aqf (Adf : Alr) (N : Nat) : Aap Aiu := fun R x K => Adf N x.1.1 x.1.2.2.1 x.1.2.2.2.1 x.2.1.1 x.2.1.2.1 x.2.1.2.2.1 (fun y0 => K .ret (Aab Azc ((y0, ()), (())))) (fun y0 => K .normal (Aab Azd ((y0, ()), (()))))
noncomputable def Bfi (N : Nat) : Aap Aiu := Aqf @Adf N
noncomputable def Aiv : Aac := ⟨[(1, .one (.val (.int .i64))), (2, .one (.ptr 32)), (6, .one (.val (.int .i64))), (18, .one (.val .bool))], [(32, .cells 24 [(.val (.int .i64)), (.val (.int .i64)), (.val (.int .i64))])]⟩
noncomputable def Aze : Aac := ⟨[(4, .one (.val (.int .i64)))], []⟩
noncomputable def Azf : Aac := ⟨[(1, .one (.val (.int .i64)))], []⟩
noncomputable def Bfj : Acj := .cons .ret Aze (.cons .normal Azf (.nil))
@[reducible] def Bt4 (R : Type) : Type := Int → Int → Bool → Int → Int → Int → (Int → Option R) → (Int → Option R) → Option R
@[reducible] def Akg : Type 1 := {R : Type} → Nat → Bt4 R
noncomputable def A3m (Adf : Alr) : Akg := fun {R} N x0 x1 x2 x3 x4 x5 K0 K1 =>
    if (x2 = true) then (K0 ((wi (x0 - (1 : Int))))) else (if ((x1 == (13 : Int)) = true) then (K0 ((wi (x0 - (2 : Int))))) else (if ((x1 == (15 : Int)) = true) then (K0 ((wi (x0 - (3 : Int))))) else (if ((x1 == (18 : Int)) = true) then (K0 x4) else (if ((x1 == (23 : Int)) = true) then (Adf N x0 x1 ((x1 == (23 : Int))) x3 x4 x5 (fun y0 => K0 y0) (fun y1 => K1 y1)) else (Adf N x0 x1 ((x1 == (28 : Int))) x3 x4 x5 (fun y2 => K0 y2) (fun y3 => K1 y3))))))
noncomputable def Abw : Akg := @A3m @Adf
noncomputable def Aqg (Abw : Akg) (N : Nat) : Aap Aiv := fun R x K => Abw N x.1.1 x.1.2.2.1 x.1.2.2.2.1 x.2.1.1 x.2.1.2.1 x.2.1.2.2.1 (fun y0 => K .ret (Aab Aze ((y0, ()), (())))) (fun y0 => K .normal (Aab Azf ((y0, ()), (()))))
noncomputable def Bfk (N : Nat) : Aap Aiv := Aqg @Abw N
noncomputable def Aiw : Aac := ⟨[(1, .one (.val (.int .i64))), (2, .one (.ptr 32)), (6, .one (.val (.int .i64))), (7, .one (.val .bool))], [(32, .cells 24 [(.val (.int .i64)), (.val (.int .i64)), (.val (.int .i64))])]⟩
noncomputable def Azg : Aac := ⟨[(4, .one (.val (.int .i64)))], []⟩
noncomputable def Azh : Aac := ⟨[(1, .one (.val (.int .i64)))], []⟩
noncomputable def Bfl : Acj := .cons .ret Azg (.cons .normal Azh (.nil))
@[reducible] def Bt5 (R : Type) : Type := Int → Int → Bool → Int → Int → Int → (Int → Option R) → (Int → Option R) → Option R
@[reducible] def Akh : Type 1 := {R : Type} → Nat → Bt5 R
noncomputable def A3n (Abw : Akg) : Akh := fun {R} N x0 x1 x2 x3 x4 x5 K0 K1 =>
    if (x2 = true) then (K0 ((wi (x0 + (1 : Int))))) else (if ((x1 == (3 : Int)) = true) then (Abw N x0 x1 ((x1 == (3 : Int))) x3 x4 x5 (fun y0 => K0 y0) (fun y1 => K1 y1)) else (if ((x1 == (6 : Int)) = true) then (Abw N x0 x1 ((x1 == (6 : Int))) x3 x4 x5 (fun y2 => K0 y2) (fun y3 => K1 y3)) else (if ((x1 == (9 : Int)) = true) then (Abw N x0 x1 ((x1 == (9 : Int))) x3 x4 x5 (fun y4 => K0 y4) (fun y5 => K1 y5)) else (if ((x1 == (16 : Int)) = true) then (Abw N x0 x1 ((x1 == (16 : Int))) x3 x4 x5 (fun y6 => K0 y6) (fun y7 => K1 y7)) else (if ((x1 == (14 : Int)) = true) then (Abw N x0 x1 ((x1 == (14 : Int))) x3 x4 x5 (fun y8 => K0 y8) (fun y9 => K1 y9)) else (if ((x1 == (21 : Int)) = true) then (Abw N x0 x1 ((x1 == (21 : Int))) x3 x4 x5 (fun y10 => K0 y10) (fun y11 => K1 y11)) else (if ((x1 == (22 : Int)) = true) then (Abw N x0 x1 ((x1 == (22 : Int))) x3 x4 x5 (fun y12 => K0 y12) (fun y13 => K1 y13)) else (if ((x1 == (29 : Int)) = true) then (Abw N x0 x1 ((x1 == (29 : Int))) x3 x4 x5 (fun y14 => K0 y14) (fun y15 => K1 y15)) else (if ((x1 == (25 : Int)) = true) then (Abw N x0 x1 ((x1 == (25 : Int))) x3 x4 x5 (fun y16 => K0 y16) (fun y17 => K1 y17)) else (Abw N x0 x1 ((x1 == (27 : Int))) x3 x4 x5 (fun y18 => K0 y18) (fun y19 => K1 y19)))))))))))
noncomputable def Acd : Akh := @A3n @Abw
noncomputable def Aqh (Acd : Akh) (N : Nat) : Aap Aiw := fun R x K => Acd N x.1.1 x.1.2.2.1 x.1.2.2.2.1 x.2.1.1 x.2.1.2.1 x.2.1.2.2.1 (fun y0 => K .ret (Aab Azg ((y0, ()), (())))) (fun y0 => K .normal (Aab Azh ((y0, ()), (()))))
noncomputable def Bfm (N : Nat) : Aap Aiw := Aqh @Acd N
noncomputable def Bbf : Aac := ⟨[(0, .agg [(.val (.int .i64)), (.val (.int .i64)), (.val (.int .i64))]), (1, .one (.val (.int .i64)))], []⟩
noncomputable def Axu : Aac := ⟨[(0, .one (.val (.int .i64)))], []⟩
@[reducible] def B30 (R : Type) : Type := Int → Int → Int → Int → (Int → Option R) → Option R
@[reducible] def Arc : Type 1 := {R : Type} → Nat → B30 R
noncomputable def Bbg (Acd : Akh) : Arc := fun {R} N x0 x1 x2 x3 K0 =>
    if ((x0 == (1 : Int)) = true) then (Acd N x3 x0 ((x0 == (1 : Int))) x0 x1 x2 (fun y0 => K0 y0) (fun y1 => K0 y1)) else (if ((x0 == (2 : Int)) = true) then (Acd N x3 x0 ((x0 == (2 : Int))) x0 x1 x2 (fun y2 => K0 y2) (fun y3 => K0 y3)) else (if ((x0 == (4 : Int)) = true) then (Acd N x3 x0 ((x0 == (4 : Int))) x0 x1 x2 (fun y4 => K0 y4) (fun y5 => K0 y5)) else (if ((x0 == (5 : Int)) = true) then (Acd N x3 x0 ((x0 == (5 : Int))) x0 x1 x2 (fun y6 => K0 y6) (fun y7 => K0 y7)) else (if ((x0 == (7 : Int)) = true) then (Acd N x3 x0 ((x0 == (7 : Int))) x0 x1 x2 (fun y8 => K0 y8) (fun y9 => K0 y9)) else (if ((x0 == (8 : Int)) = true) then (Acd N x3 x0 ((x0 == (8 : Int))) x0 x1 x2 (fun y10 => K0 y10) (fun y11 => K0 y11)) else (if ((x0 == (10 : Int)) = true) then (Acd N x3 x0 ((x0 == (10 : Int))) x0 x1 x2 (fun y12 => K0 y12) (fun y13 => K0 y13)) else (Acd N x3 x0 ((x0 == (11 : Int))) x0 x1 x2 (fun y14 => K0 y14) (fun y15 => K0 y15))))))))
noncomputable def Agc : Arc := @Bbg @Acd
noncomputable def Cgz (N : Nat) : Abl Bbf [Axu] := fun R x C => Agc N x.1.1.1 x.1.1.2.1 x.1.1.2.2.1 x.1.2.1 (fun y0 => C.1 ((y0, ()), (())))
noncomputable def Bbh (Agc : Arc) (N : Nat) : Go.AX.Aai := Ack [true, true] [] false 2 0 Bbf [Axu] (fun R x C => Agc N x.1.1.1 x.1.1.2.1 x.1.1.2.2.1 x.1.2.1 (fun y0 => C.1 ((y0, ()), (()))))
noncomputable def Bmx (N : Nat) : Go.AX.Aai := Bbh @Agc N
noncomputable def Cg0 (N : Nat) : List (Nat × Acn) := [(60, Aaa Aiu (Bfi N)), (42, Aaa Aiv (Bfk N)), (20, Aaa Aiw (Bfm N))]
noncomputable def B31 (N : Nat) : List (Nat × Go.AX.Aai) := []
noncomputable def Am0 : Code := Go.Proofs.Try.f101.body.getD .skip
noncomputable def Aki : Aac := ⟨[(4, .one (.val (.int .i64))), (16, .one (.val .bool))], []⟩
noncomputable def Azi : Aac := ⟨[(2, .one (.val (.int .i64)))], []⟩
noncomputable def Azj : Aac := ⟨[], []⟩
noncomputable def Bfn : Acj := .cons .ret Azi (.cons .normal Azj (.nil))
@[reducible] def Bt6 (R : Type) : Type := Int → Bool → (Int → Option R) → (Option R) → Option R
@[reducible] def Anr : Type 1 := {R : Type} → Nat → Bt6 R
noncomputable def Adw : Anr := fun {R} N x0 x1 K0 K1 =>
    if (x1 = true) then (K0 2) else (if ((x0 == (15 : Int)) = true) then (K0 3) else K1)
noncomputable def Avn (Adw : Anr) (N : Nat) : Aap Aki := fun R x K => Adw N x.1.1 x.1.2.1 (fun y0 => K .ret (Aab Azi ((y0, ()), (())))) (K .normal (Aab Azj ((()), (()))))
noncomputable def Bfo (N : Nat) : Aap Aki := Avn @Adw N
noncomputable def Akj : Aac := ⟨[(4, .one (.val (.int .i64))), (5, .one (.val .bool))], []⟩
noncomputable def Azk : Aac := ⟨[(2, .one (.val (.int .i64)))], []⟩
noncomputable def Azl : Aac := ⟨[], []⟩
noncomputable def Bfp : Acj := .cons .ret Azk (.cons .normal Azl (.nil))
@[reducible] def Bt7 (R : Type) : Type := Int → Bool → (Int → Option R) → (Option R) → Option R
@[reducible] def Als : Type 1 := {R : Type} → Nat → Bt7 R
noncomputable def A3o (Adw : Anr) : Als := fun {R} N x0 x1 K0 K1 =>
    if (x1 = true) then (K0 1) else (if ((x0 == (16 : Int)) = true) then (Adw N x0 ((x0 == (16 : Int))) (fun y0 => K0 y0) K1) else (if ((x0 == (14 : Int)) = true) then (Adw N x0 ((x0 == (14 : Int))) (fun y1 => K0 y1) K1) else (Adw N x0 ((x0 == (13 : Int))) (fun y2 => K0 y2) K1)))
noncomputable def Acm : Als := @A3o @Adw
noncomputable def Avo (Acm : Als) (N : Nat) : Aap Akj := fun R x K => Acm N x.1.1 x.1.2.1 (fun y0 => K .ret (Aab Azk ((y0, ()), (())))) (K .normal (Aab Azl ((()), (()))))
noncomputable def Bfq (N : Nat) : Aap Akj := Avo @Acm N
noncomputable def Bbi : Aac := ⟨[(0, .agg [(.val (.int .i64)), (.val (.int .i64)), (.val (.int .i64))])], []⟩
noncomputable def Axv : Aac := ⟨[(0, .one (.val (.int .i64)))], []⟩
@[reducible] def B32 (R : Type) : Type := Int → Int → Int → (Int → Option R) → Option R
@[reducible] def Ard : Type 1 := {R : Type} → Nat → B32 R
noncomputable def Bbj (Acm : Als) : Ard := fun {R} N x0 x1 x2 K0 =>
    if ((x0 == (3 : Int)) = true) then (Acm N x0 ((x0 == (3 : Int))) (fun y0 => K0 y0) (K0 0)) else (if ((x0 == (6 : Int)) = true) then (Acm N x0 ((x0 == (6 : Int))) (fun y1 => K0 y1) (K0 0)) else (if ((x0 == (9 : Int)) = true) then (Acm N x0 ((x0 == (9 : Int))) (fun y2 => K0 y2) (K0 0)) else (if ((x0 == (12 : Int)) = true) then (Acm N x0 ((x0 == (12 : Int))) (fun y3 => K0 y3) (K0 0)) else (if ((x0 == (17 : Int)) = true) then (Acm N x0 ((x0 == (17 : Int))) (fun y4 => K0 y4) (K0 0)) else (if ((x0 == (21 : Int)) = true) then (Acm N x0 ((x0 == (21 : Int))) (fun y5 => K0 y5) (K0 0)) else (if ((x0 == (22 : Int)) = true) then (Acm N x0 ((x0 == (22 : Int))) (fun y6 => K0 y6) (K0 0)) else (if ((x0 == (29 : Int)) = true) then (Acm N x0 ((x0 == (29 : Int))) (fun y7 => K0 y7) (K0 0)) else (if ((x0 == (25 : Int)) = true) then (Acm N x0 ((x0 == (25 : Int))) (fun y8 => K0 y8) (K0 0)) else (Acm N x0 ((x0 == (27 : Int))) (fun y9 => K0 y9) (K0 0))))))))))
noncomputable def Afb : Ard := @Bbj @Acm
noncomputable def Cg1 (N : Nat) : Abl Bbi [Axv] := fun R x C => Afb N x.1.1.1 x.1.1.2.1 x.1.1.2.2.1 (fun y0 => C.1 ((y0, ()), (())))
noncomputable def Bbk (Afb : Ard) (N : Nat) : Go.AX.Aai := Ack [true] [] false 1 0 Bbi [Axv] (fun R x C => Afb N x.1.1.1 x.1.1.2.1 x.1.1.2.2.1 (fun y0 => C.1 ((y0, ()), (()))))
noncomputable def Bmy (N : Nat) : Go.AX.Aai := Bbk @Afb N
noncomputable def Cg2 (N : Nat) : List (Nat × Acn) := [(32, Aaa Aki (Bfo N)), (24, Aaa Akj (Bfq N))]
noncomputable def B33 (N : Nat) : List (Nat × Go.AX.Aai) := []
noncomputable def Awf : Code := Go.Proofs.Try.f102.body.getD .skip
end
end Q

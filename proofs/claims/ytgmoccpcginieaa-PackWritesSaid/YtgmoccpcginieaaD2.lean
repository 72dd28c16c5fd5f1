/- Part D2 of the proof. -/
import Derived.Test.YtgmoccpcginieaaD1
open Go Go.AX Go.Proofs
namespace Q
noncomputable section
set_option maxRecDepth 100000
set_option linter.unusedVariables false
noncomputable def Amk : Aac := ⟨[(1, .one (.val (.int .i64))), (2, .one (.ptr 32)), (6, .one (.val (.int .i64))), (7, .one (.val .bool))], [(32, .cells 24 [(.val (.int .i64)), (.val (.int .i64)), (.val (.int .i64))])]⟩
noncomputable def A1a : Aac := ⟨[(4, .one (.val .bool))], []⟩
noncomputable def A1b : Aac := ⟨[], []⟩
noncomputable def Bhc : Acj := .cons .ret A1a (.cons .normal A1b (.nil))
@[reducible] def Bxc (R : Type) : Type := Int → Int → Bool → Int → Int → Int → (Bool → Option R) → (Option R) → Option R
@[reducible] def Aoq : Type 1 := {R : Type} → Nat → Bxc R
noncomputable def A5r (Aaq : Aei) : Aoq := fun {R} N x0 x1 x2 x3 x4 x5 K0 K1 =>
    if (x2 = true) then (Aaq N x4 2 ((wi (x0 - (1 : Int)))) (fun y0 => K0 y0)) else (if ((x1 == (4 : Int)) = true) then (K0 ((decide ((x4 ≥ (2 : Int)))))) else (if ((x1 == (23 : Int)) = true) then (Aaq N x4 2 ((wi (x0 - (3 : Int)))) (fun y1 => K0 y1)) else (if ((x1 == (18 : Int)) = true) then (K0 ((decide ((x4 ≤ (wi ((wi (x0 + (2000 : Int))) + (2 : Int)))))))) else K1)))
noncomputable def Agl : Aoq := @A5r @Aaq
noncomputable def A5s (Agl : Aoq) (N : Nat) : Aap Amk := fun R x K => Agl N x.1.1 x.1.2.2.1 x.1.2.2.2.1 x.2.1.1 x.2.1.2.1 x.2.1.2.2.1 (fun y0 => K .ret (Aab A1a ((y0, ()), (())))) (K .normal (Aab A1b ((()), (()))))
noncomputable def Bhd (N : Nat) : Aap Amk := A5s @Agl N
noncomputable def Bbl : Aac := ⟨[(0, .agg [(.val (.int .i64)), (.val (.int .i64)), (.val (.int .i64))]), (1, .one (.val (.int .i64)))], []⟩
noncomputable def Axw : Aac := ⟨[(0, .one (.val .bool))], []⟩
@[reducible] def B34 (R : Type) : Type := Int → Int → Int → Int → (Bool → Option R) → Option R
@[reducible] def Are : Type 1 := {R : Type} → Nat → B34 R
noncomputable def Bbm (Agl : Aoq) : Are := fun {R} N x0 x1 x2 x3 K0 =>
    if ((x0 == (2 : Int)) = true) then (Agl N x3 x0 ((x0 == (2 : Int))) x0 x1 x2 (fun y0 => K0 y0) (K0 true)) else (Agl N x3 x0 ((x0 == (3 : Int))) x0 x1 x2 (fun y1 => K0 y1) (K0 true))
noncomputable def Afc : Are := @Bbm @Agl
noncomputable def Cg3 (N : Nat) : Abl Bbl [Axw] := fun R x C => Afc N x.1.1.1 x.1.1.2.1 x.1.1.2.2.1 x.1.2.1 (fun y0 => C.1 ((y0, ()), (())))
noncomputable def Bbn (Afc : Are) (N : Nat) : Go.AX.Aai := Ack [true, true] [] false 2 0 Bbl [Axw] (fun R x C => Afc N x.1.1.1 x.1.1.2.1 x.1.1.2.2.1 x.1.2.1 (fun y0 => C.1 ((y0, ()), (()))))
noncomputable def Bmz (N : Nat) : Go.AX.Aai := Bbn @Afc N
noncomputable def Cg4 (N : Nat) : List (Nat × Acn) := [(8, Aaa Amk (Bhd N))]
noncomputable def B35 (N : Nat) : List (Nat × Go.AX.Aai) := [(98, A5j N)]
noncomputable def Ao4 : Code := Go.Proofs.Try.f103.body.getD .skip
noncomputable def Ajv : Aac := ⟨[(0, .one (.val z3)), (1, .one (.val (.int .i64)))], []⟩
noncomputable def Atj : Aac := ⟨[(0, .one (.val z3)), (1, .one (.val (.int .i64)))], []⟩
noncomputable def Bhe : Acj := .cons (.exit 0) Atj (.nil)
@[reducible] def A5t (R : Type) : Type := d3 → Int → (d3 → Int → Option R) → Option R
@[reducible] def Bhf (R : Type) : Type := d3 → Int → Option R
@[reducible] def Axx : Type 1 := {R : Type} → Nat → Nat → A5t R
noncomputable def A5u {R : Type} (N : Nat) (rc : Bhf R) : A5t R := fun x0 x1 K0 =>
    if ((decide ((x1 < (len x0)))) = true) then (if (((0 : Int) ≤ x1) ∧ (x1 < (len x0))) then (if (((List.getD x0 (Int.toNat x1) ((0 : Int), ((0 : Int), (0 : Int)))).1 == (19 : Int)) = true) then (rc x0 ((wi (x1 + (1 : Int))))) else (K0 x0 x1)) else none) else (K0 x0 x1)
noncomputable def Ae8 {R : Type} (N : Nat) : Nat → A5t R
  | 0 => fun _ _ _ => none
  | k + 1 => fun x0 x1 K0 => A5u N (fun x0 x1 => Ae8 N k x0 x1 K0) x0 x1 K0
noncomputable def A5v (Ae8 : Axx) (N k : Nat) : Aap Ajv := fun R x K => Ae8 N k x.1.1 x.1.2.1 (fun y0 y1 => K (.exit 0) (Aab Atj ((y0, y1, ()), (()))))
noncomputable def A5w (N k : Nat) : Aap Ajv := A5v @Ae8 N k
noncomputable def Bbo : Aac := ⟨[(0, .one (.val z3)), (1, .one (.val (.int .i64)))], []⟩
noncomputable def Axy : Aac := ⟨[(0, .one (.val .bool))], []⟩
@[reducible] def B36 (R : Type) : Type := d3 → Int → (Bool → Option R) → Option R
@[reducible] def Arf : Type 1 := {R : Type} → Nat → B36 R
noncomputable def Bbp (Ae8 : Axx) : Arf := fun {R} N x0 x1 K0 =>
    Ae8 N N x0 x1 (fun y0 y1 => if ((decide ((y1 < (len y0)))) = true) then (if (((0 : Int) ≤ y1) ∧ (y1 < (len y0))) then (K0 (((List.getD y0 (Int.toNat y1) ((0 : Int), ((0 : Int), (0 : Int)))).1 == (28 : Int)))) else none) else (K0 false))
noncomputable def Aer : Arf := @Bbp @Ae8
noncomputable def Cg5 (N : Nat) : Abl Bbo [Axy] := fun R x C => Aer N x.1.1 x.1.2.1 (fun y0 => C.1 ((y0, ()), (())))
noncomputable def Bbq (Aer : Arf) (N : Nat) : Go.AX.Aai := Ack [true, true] [] false 2 0 Bbo [Axy] (fun R x C => Aer N x.1.1 x.1.2.1 (fun y0 => C.1 ((y0, ()), (()))))
noncomputable def Bm0 (N : Nat) : Go.AX.Aai := Bbq @Aer N
noncomputable def Cg6 (N : Nat) : List (Nat × Acn) := [(3, Aaa Ajv (A5w N N))]
noncomputable def B37 (N : Nat) : List (Nat × Go.AX.Aai) := []
noncomputable def Aku : Aac := ⟨[(2, .one (.ptr 32)), (3, .one (.ptr 33)), (5, .one (.val (.int .i64))), (6, .one (.val .bool)), (7, .one (.val (.int .i64)))], [(32, .cells 34 [(.val .str), (.val z2), (.val z3), (.val z1), (.val (.int .i64)), (.val (.int .i64))]), (33, .cells 111 [(.val (.list (.int .i64))), (.val (.list (.int .i64)))])]⟩
noncomputable def Avp : Aac := ⟨[(4, .one (.val .bool))], []⟩
noncomputable def Avq : Aac := ⟨[], []⟩
noncomputable def Bjw : Acj := .cons .ret Avp (.cons (.exit 0) Avq (.nil))
@[reducible] def A7y (R : Type) : Type := Int → Bool → Int → (List UInt8) → d4 → d3 → d1 → Int → Int → d0 → d0 → (Bool → Option R) → (Option R) → Option R
@[reducible] def Ans (R : Type) : Type := Int → Bool → Int → (List UInt8) → d4 → d3 → d1 → Int → Int → d0 → d0 → Option R
@[reducible] def A0h : Type 1 := {R : Type} → Nat → Nat → A7y R
noncomputable def A7z (Agc : Arc) (Afb : Ard) (Aaq : Aei) (Afc : Are) (Abf : Aia) (Aer : Arf) (Aa0 : Ajb) {R : Type} (N : Nat) (rc : Ans R) : A7y R := fun x0 x1 x2 x3 x4 x5 x6 x7 x8 x9 x10 K0 K1 =>
    if ((decide ((x2 < (len x5)))) = true) then (if (((0 : Int) ≤ x2) ∧ (x2 < (len x5))) then (let v0 := (List.getD x5 (Int.toNat x2) ((0 : Int), ((0 : Int), (0 : Int)))).1; let v1 := (List.getD x5 (Int.toNat x2) ((0 : Int), ((0 : Int), (0 : Int)))).2.1; let v2 := (List.getD x5 (Int.toNat x2) ((0 : Int), ((0 : Int), (0 : Int)))).2.2; if ((v0 == (24 : Int)) = true) then (rc ((wi ((2 : Int) + v2))) true ((wi (x2 + (1 : Int)))) x3 x4 x5 x6 x7 x8 x9 x10) else (Agc N v0 v1 v2 x0 (fun y0 => if ((v0 == (18 : Int)) = true) then (let v3 := (wi (x2 - (1 : Int))); if (((0 : Int) ≤ v3) ∧ (v3 < (len x5))) then (Afb N v0 v1 v2 (fun y1 => if ((decide (((wi (x0 - y1)) < (2 : Int)))) = true) then (K0 false) else (Aaq N y0 2 4000 (fun y2 => if ((!y2) = true) then (K0 false) else (if ((!((List.getD x5 (Int.toNat v3) ((0 : Int), ((0 : Int), (0 : Int)))).1 == (19 : Int))) = true) then (Afc N v0 v1 v2 x0 (fun y3 => if ((!y3) = true) then (K0 false) else (if ((v0 == (28 : Int)) = true) then (if (x1 = true) then (K0 false) else (Abf N v0 v1 v2 (fun y4 => if ((decide ((y4 > (0 : Int)))) = true) then (if (((0 : Int) ≤ y4) ∧ (y4 < (len x9))) then (Aer N x5 ((List.getD x9 (Int.toNat y4) (0 : Int))) (fun y5 => if ((!(y5 == (v0 == (27 : Int)))) = true) then (K0 false) else (if ((v0 != (19 : Int)) = true) then (Aa0 N v0 v1 v2 (fun y6 => rc y0 y6 ((wi (x2 + (1 : Int)))) x3 x4 x5 x6 x7 x8 x9 x10)) else (rc y0 x1 ((wi (x2 + (1 : Int)))) x3 x4 x5 x6 x7 x8 x9 x10)))) else none) else (if ((v0 != (19 : Int)) = true) then (Aa0 N v0 v1 v2 (fun y7 => rc y0 y7 ((wi (x2 + (1 : Int)))) x3 x4 x5 x6 x7 x8 x9 x10)) else (rc y0 x1 ((wi (x2 + (1 : Int)))) x3 x4 x5 x6 x7 x8 x9 x10))))) else (Abf N v0 v1 v2 (fun y8 => if ((decide ((y8 > (0 : Int)))) = true) then (if (((0 : Int) ≤ y8) ∧ (y8 < (len x9))) then (Aer N x5 ((List.getD x9 (Int.toNat y8) (0 : Int))) (fun y9 => if ((!(y9 == (v0 == (27 : Int)))) = true) then (K0 false) else (if ((v0 != (19 : Int)) = true) then (Aa0 N v0 v1 v2 (fun y10 => rc y0 y10 ((wi (x2 + (1 : Int)))) x3 x4 x5 x6 x7 x8 x9 x10)) else (rc y0 x1 ((wi (x2 + (1 : Int)))) x3 x4 x5 x6 x7 x8 x9 x10)))) else none) else (if ((v0 != (19 : Int)) = true) then (Aa0 N v0 v1 v2 (fun y11 => rc y0 y11 ((wi (x2 + (1 : Int)))) x3 x4 x5 x6 x7 x8 x9 x10)) else (rc y0 x1 ((wi (x2 + (1 : Int)))) x3 x4 x5 x6 x7 x8 x9 x10))))))) else (if ((v0 == (28 : Int)) = true) then (if (x1 = true) then (K0 false) else (Abf N v0 v1 v2 (fun y12 => if ((decide ((y12 > (0 : Int)))) = true) then (if (((0 : Int) ≤ y12) ∧ (y12 < (len x9))) then (Aer N x5 ((List.getD x9 (Int.toNat y12) (0 : Int))) (fun y13 => if ((!(y13 == (v0 == (27 : Int)))) = true) then (K0 false) else (if ((v0 != (19 : Int)) = true) then (Aa0 N v0 v1 v2 (fun y14 => rc y0 y14 ((wi (x2 + (1 : Int)))) x3 x4 x5 x6 x7 x8 x9 x10)) else (rc y0 x1 ((wi (x2 + (1 : Int)))) x3 x4 x5 x6 x7 x8 x9 x10)))) else none) else (if ((v0 != (19 : Int)) = true) then (Aa0 N v0 v1 v2 (fun y15 => rc y0 y15 ((wi (x2 + (1 : Int)))) x3 x4 x5 x6 x7 x8 x9 x10)) else (rc y0 x1 ((wi (x2 + (1 : Int)))) x3 x4 x5 x6 x7 x8 x9 x10))))) else (Abf N v0 v1 v2 (fun y16 => if ((decide ((y16 > (0 : Int)))) = true) then (if (((0 : Int) ≤ y16) ∧ (y16 < (len x9))) then (Aer N x5 ((List.getD x9 (Int.toNat y16) (0 : Int))) (fun y17 => if ((!(y17 == (v0 == (27 : Int)))) = true) then (K0 false) else (if ((v0 != (19 : Int)) = true) then (Aa0 N v0 v1 v2 (fun y18 => rc y0 y18 ((wi (x2 + (1 : Int)))) x3 x4 x5 x6 x7 x8 x9 x10)) else (rc y0 x1 ((wi (x2 + (1 : Int)))) x3 x4 x5 x6 x7 x8 x9 x10)))) else none) else (if ((v0 != (19 : Int)) = true) then (Aa0 N v0 v1 v2 (fun y19 => rc y0 y19 ((wi (x2 + (1 : Int)))) x3 x4 x5 x6 x7 x8 x9 x10)) else (rc y0 x1 ((wi (x2 + (1 : Int)))) x3 x4 x5 x6 x7 x8 x9 x10)))))))))) else none) else (Afb N v0 v1 v2 (fun y20 => if ((decide (((wi (x0 - y20)) < (2 : Int)))) = true) then (K0 false) else (Aaq N y0 2 4000 (fun y21 => if ((!y21) = true) then (K0 false) else (Afc N v0 v1 v2 x0 (fun y22 => if ((!y22) = true) then (K0 false) else (if ((v0 == (28 : Int)) = true) then (if (x1 = true) then (K0 false) else (Abf N v0 v1 v2 (fun y23 => if ((decide ((y23 > (0 : Int)))) = true) then (if (((0 : Int) ≤ y23) ∧ (y23 < (len x9))) then (Aer N x5 ((List.getD x9 (Int.toNat y23) (0 : Int))) (fun y24 => if ((!(y24 == (v0 == (27 : Int)))) = true) then (K0 false) else (if ((v0 != (19 : Int)) = true) then (Aa0 N v0 v1 v2 (fun y25 => rc y0 y25 ((wi (x2 + (1 : Int)))) x3 x4 x5 x6 x7 x8 x9 x10)) else (rc y0 x1 ((wi (x2 + (1 : Int)))) x3 x4 x5 x6 x7 x8 x9 x10)))) else none) else (if ((v0 != (19 : Int)) = true) then (Aa0 N v0 v1 v2 (fun y26 => rc y0 y26 ((wi (x2 + (1 : Int)))) x3 x4 x5 x6 x7 x8 x9 x10)) else (rc y0 x1 ((wi (x2 + (1 : Int)))) x3 x4 x5 x6 x7 x8 x9 x10))))) else (Abf N v0 v1 v2 (fun y27 => if ((decide ((y27 > (0 : Int)))) = true) then (if (((0 : Int) ≤ y27) ∧ (y27 < (len x9))) then (Aer N x5 ((List.getD x9 (Int.toNat y27) (0 : Int))) (fun y28 => if ((!(y28 == (v0 == (27 : Int)))) = true) then (K0 false) else (if ((v0 != (19 : Int)) = true) then (Aa0 N v0 v1 v2 (fun y29 => rc y0 y29 ((wi (x2 + (1 : Int)))) x3 x4 x5 x6 x7 x8 x9 x10)) else (rc y0 x1 ((wi (x2 + (1 : Int)))) x3 x4 x5 x6 x7 x8 x9 x10)))) else none) else (if ((v0 != (19 : Int)) = true) then (Aa0 N v0 v1 v2 (fun y30 => rc y0 y30 ((wi (x2 + (1 : Int)))) x3 x4 x5 x6 x7 x8 x9 x10)) else (rc y0 x1 ((wi (x2 + (1 : Int)))) x3 x4 x5 x6 x7 x8 x9 x10)))))))))))))) else none) else K1
noncomputable def Ae4 {R : Type} (N : Nat) : Nat → A7y R
  | 0 => fun _ _ _ _ _ _ _ _ _ _ _ _ _ => none
  | k + 1 => fun x0 x1 x2 x3 x4 x5 x6 x7 x8 x9 x10 K0 K1 => A7z @Agc @Afb @Aaq @Afc @Abf @Aer @Aa0 N (fun x0 x1 x2 x3 x4 x5 x6 x7 x8 x9 x10 => Ae4 N k x0 x1 x2 x3 x4 x5 x6 x7 x8 x9 x10 K0 K1) x0 x1 x2 x3 x4 x5 x6 x7 x8 x9 x10 K0 K1
noncomputable def A70 (Ae4 : A0h) (N k : Nat) : Aap Aku := fun R x K => Ae4 N k x.1.2.2.1 x.1.2.2.2.1 x.1.2.2.2.2.1 x.2.1.1 x.2.1.2.1 x.2.1.2.2.1 x.2.1.2.2.2.1 x.2.1.2.2.2.2.1 x.2.1.2.2.2.2.2.1 x.2.2.1.1 x.2.2.1.2.1 (fun y0 => K .ret (Aab Avp ((y0, ()), (())))) (K (.exit 0) (Aab Avq ((()), (()))))
noncomputable def A71 (N k : Nat) : Aap Aku := A70 @Ae4 N k
noncomputable def Bfr : Aac := ⟨[(0, .agg [(.val .str), (.val z2), (.val z3), (.val z1), (.val (.int .i64)), (.val (.int .i64))]), (1, .agg [(.val (.list (.int .i64))), (.val (.list (.int .i64)))])], []⟩
noncomputable def A0i : Aac := ⟨[(0, .one (.val .bool))], []⟩
@[reducible] def B67 (R : Type) : Type := (List UInt8) → d4 → d3 → d1 → Int → Int → d0 → d0 → (Bool → Option R) → Option R
@[reducible] def At4 : Type 1 := {R : Type} → Nat → B67 R
noncomputable def Bfs (Ae4 : A0h) : At4 := fun {R} N x0 x1 x2 x3 x4 x5 x6 x7 K0 =>
    Ae4 N N 0 false 0 x0 x1 x2 x3 x4 x5 x6 x7 (fun y0 => K0 y0) (K0 true)
noncomputable def Ah7 : At4 := @Bfs @Ae4
noncomputable def Chv (N : Nat) : Abl Bfr [A0i] := fun R x C => Ah7 N x.1.1.1 x.1.1.2.1 x.1.1.2.2.1 x.1.1.2.2.2.1 x.1.1.2.2.2.2.1 x.1.1.2.2.2.2.2.1 x.1.2.1.1 x.1.2.1.2.1 (fun y0 => C.1 ((y0, ()), (())))
noncomputable def Bft (Ah7 : At4) (N : Nat) : Go.AX.Aai := Ack [true, true] [] false 2 0 Bfr [A0i] (fun R x C => Ah7 N x.1.1.1 x.1.1.2.1 x.1.1.2.2.1 x.1.1.2.2.2.1 x.1.1.2.2.2.2.1 x.1.1.2.2.2.2.2.1 x.1.2.1.1 x.1.2.1.2.1 (fun y0 => C.1 ((y0, ()), (()))))
noncomputable def Bpl (N : Nat) : Go.AX.Aai := Bft @Ah7 N
noncomputable def Chw (N : Nat) : List (Nat × Acn) := [(7, Aaa Aku (A71 N N))]
noncomputable def B68 (N : Nat) : List (Nat × Go.AX.Aai) := [(100, Bmx N), (101, Bmy N), (98, A5j N), (102, Bmz N), (33, Bbe N), (103, Bm0 N), (99, A7u N)]
noncomputable def Bbr : Aac := ⟨[(0, .agg [(.val .str), (.val z2), (.val z3), (.val z1), (.val (.int .i64)), (.val (.int .i64))])], []⟩
noncomputable def Axz : Aac := ⟨[(0, .one (.val (.int .i64)))], []⟩
@[reducible] def B38 (R : Type) : Type := (List UInt8) → d4 → d3 → d1 → Int → Int → (Int → Option R) → Option R
@[reducible] def Awg : Type 1 := {R : Type} → Nat → B38 R
noncomputable def Bbs (Afm : Aom) (Ahd : Ara) (Aez : Avj) (Agy : Arb) (Af2 : Apt) (Ah7 : At4) : Awg := fun {R} N x0 x1 x2 x3 x4 x5 K0 =>
    Afm N x0 x1 x2 x3 x4 x5 (fun y0 => if (y0 = true) then (K0 2) else (if ((decide ((x4 < (0 : Int)))) = true) then (K0 60) else (if ((decide ((x5 < (0 : Int)))) = true) then (K0 60) else (Ahd N x0 x1 x2 x3 x4 x5 (fun y1 => if ((!y1) = true) then (K0 60) else (Aez N N 0 x0 x1 x2 x3 x4 x5 (fun y2 => K0 y2) (fun y3 y4 y5 y6 y7 y8 => Agy N y3 y4 y5 y6 y7 y8 (fun y9 => if ((!y9) = true) then (K0 60) else (Af2 N y3 y4 y5 y6 y7 y8 (fun y10 y11 y12 => if ((!y10) = true) then (K0 60) else (Ah7 N y3 y4 y5 y6 y7 y8 y11 y12 (fun y13 => if ((!y13) = true) then (K0 61) else (K0 0)))))))))))))
noncomputable def Ajc : Awg := @Bbs @Afm @Ahd @Aez @Agy @Af2 @Ah7
noncomputable def Cg7 (N : Nat) : Abl Bbr [Axz] := fun R x C => Ajc N x.1.1.1 x.1.1.2.1 x.1.1.2.2.1 x.1.1.2.2.2.1 x.1.1.2.2.2.2.1 x.1.1.2.2.2.2.2.1 (fun y0 => C.1 ((y0, ()), (())))
noncomputable def Bm1 (Ajc : Awg) (N : Nat) : Go.AX.Aai := Ack [true] [] false 1 0 Bbr [Axz] (fun R x C => Ajc N x.1.1.1 x.1.1.2.1 x.1.1.2.2.1 x.1.1.2.2.2.1 x.1.1.2.2.2.2.1 x.1.1.2.2.2.2.2.1 (fun y0 => C.1 ((y0, ()), (()))))
noncomputable def Bm2 (N : Nat) : Go.AX.Aai := Bm1 @Ajc N
noncomputable def Cg8 (N : Nat) : List (Nat × Acn) := [(13, Aaa Air (A3g N N))]
noncomputable def B39 (N : Nat) : List (Nat × Go.AX.Aai) := [(81, Bg4 N), (82, Bmv N), (83, Bg9 N), (84, Bmw N), (85, Bjv N), (86, Bpl N)]
noncomputable def Adh : Code := Go.Proofs.Try.f69.body.getD .skip
noncomputable def Af7 : Aac := ⟨[(1, .one (.ptr 32)), (3, .one (.ptr 33)), (4, .one (.val (.int .i64))), (5, .one (.ptr 34)), (6, .one (.val (.int .i64)))], [(32, .cells 34 [(.val .str), (.val z2), (.val z3), (.val z1), (.val (.int .i64)), (.val (.int .i64))]), (33, .cells 85 [(.slf 35), (.slf 36), (.slf 37)]), (34, .cells 24 [(.val (.int .i64)), (.val (.int .i64)), (.val (.int .i64))]), (35, .row 3 (.int .i64)), (36, .row 3 (.int .i64)), (37, .row 3 (.int .i64))]⟩
noncomputable def Avr : Aac := ⟨[(1, .one (.ptr 32)), (3, .one (.ptr 33)), (4, .one (.val (.int .i64))), (5, .one (.ptr 34)), (6, .one (.val (.int .i64)))], [(32, .cells 34 [(.val .str), (.val z2), (.val z3), (.val z1), (.val (.int .i64)), (.val (.int .i64))]), (33, .cells 85 [(.slf 35), (.slf 36), (.slf 37)]), (34, .cells 24 [(.val (.int .i64)), (.val (.int .i64)), (.val (.int .i64))]), (35, .row 3 (.int .i64)), (36, .row 3 (.int .i64)), (37, .row 3 (.int .i64))]⟩
noncomputable def Bjx : Acj := .cons (.exit 2) Avr (.nil)
@[reducible] def A72 (R : Type) : Type := Int → Int → (List UInt8) → d4 → d3 → d1 → Int → Int → Int → Int → Int → d0 → d0 → d0 → (Int → Int → (List UInt8) → d4 → d3 → d1 → Int → Int → Int → Int → Int → d0 → d0 → d0 → Option R) → Option R
@[reducible] def Bjy (R : Type) : Type := Int → Int → (List UInt8) → d4 → d3 → d1 → Int → Int → Int → Int → Int → d0 → d0 → d0 → Option R
@[reducible] def Akv : Type 1 := {R : Type} → Nat → Nat → A72 R
noncomputable def A73 {R : Type} (N : Nat) (rc : Bjy R) : A72 R := fun x0 x1 x2 x3 x4 x5 x6 x7 x8 x9 x10 x11 x12 x13 K0 =>
    if (((0 : Int) ≤ x1) ∧ (x1 < (len x4))) then (if (((List.getD x4 (Int.toNat x1) ((0 : Int), ((0 : Int), (0 : Int)))).1 == (19 : Int)) = true) then (rc x0 ((wi (x1 + (1 : Int)))) x2 x3 x4 x5 x6 x7 x8 x9 x10 x11 x12 x13) else (K0 x0 x1 x2 x3 x4 x5 x6 x7 x8 x9 x10 x11 x12 x13)) else none
noncomputable def Ab4 {R : Type} (N : Nat) : Nat → A72 R
  | 0 => fun _ _ _ _ _ _ _ _ _ _ _ _ _ _ _ => none
  | k + 1 => fun x0 x1 x2 x3 x4 x5 x6 x7 x8 x9 x10 x11 x12 x13 K0 => A73 N (fun x0 x1 x2 x3 x4 x5 x6 x7 x8 x9 x10 x11 x12 x13 => Ab4 N k x0 x1 x2 x3 x4 x5 x6 x7 x8 x9 x10 x11 x12 x13 K0) x0 x1 x2 x3 x4 x5 x6 x7 x8 x9 x10 x11 x12 x13 K0
noncomputable def Al1 (Ab4 : Akv) (N k : Nat) : Aap Af7 := fun R x K => Ab4 N k x.1.2.2.1 x.1.2.2.2.2.1 x.2.1.1 x.2.1.2.1 x.2.1.2.2.1 x.2.1.2.2.2.1 x.2.1.2.2.2.2.1 x.2.1.2.2.2.2.2.1 x.2.2.2.1.1 x.2.2.2.1.2.1 x.2.2.2.1.2.2.1 x.2.2.2.2.1 x.2.2.2.2.2.1 x.2.2.2.2.2.2.1 (fun y0 y1 y2 y3 y4 y5 y6 y7 y8 y9 y10 y11 y12 y13 => K (.exit 2) (Aab Avr (((), (), y0, (), y1, ()), ((y2, y3, y4, y5, y6, y7, ()), ((), (), (), ()), (y8, y9, y10, ()), y11, y12, y13, ()))))
noncomputable def A74 (N k : Nat) : Aap Af7 := Al1 @Ab4 N k
noncomputable def Bjz : Code := Go.Proofs.Try.f42.body.getD .skip
noncomputable def A75 : Aac := ⟨[(0, .one (.val (.int .i64)))], []⟩
noncomputable def Avs : Aac := ⟨[(0, .one (.val (.int .i64)))], []⟩
@[reducible] def Bzv (R : Type) : Type := Int → (Int → Option R) → Option R
@[reducible] def Aii : Type 1 := {R : Type} → Nat → Bzv R
noncomputable def Abr : Aii := fun {R} N x0 K0 =>
    if ((x0 == (0 : Int)) = true) then (K0 0) else (if ((decide ((x0 ≥ (-128 : Int)))) = true) then (if ((decide ((x0 ≤ (127 : Int)))) = true) then (K0 1) else (if ((decide ((x0 ≥ (-32768 : Int)))) = true) then (if ((decide ((x0 ≤ (32767 : Int)))) = true) then (K0 2) else (K0 3)) else (K0 3))) else (if ((decide ((x0 ≥ (-32768 : Int)))) = true) then (if ((decide ((x0 ≤ (32767 : Int)))) = true) then (K0 2) else (K0 3)) else (K0 3)))
noncomputable def Bzw (N : Nat) : Abl A75 [Avs] := fun R x C => Abr N x.1.1 (fun y0 => C.1 ((y0, ()), (())))
noncomputable def Al2 (Abr : Aii) (N : Nat) : Go.AX.Aai := Ack [true] [] false 1 0 A75 [Avs] (fun R x C => Abr N x.1.1 (fun y0 => C.1 ((y0, ()), (()))))
noncomputable def Bj0 (N : Nat) : Go.AX.Aai := Al2 @Abr N
noncomputable def Bzx (N : Nat) : List (Nat × Acn) := []
noncomputable def Bj1 (N : Nat) : List (Nat × Go.AX.Aai) := []
noncomputable def Bs8 : Code := Go.Proofs.Try.f58.body.getD .skip
noncomputable def Bin : Aac := ⟨[(0, .one (.val (.int .i64)))], []⟩
noncomputable def A11 : Aac := ⟨[(0, .one (.val .bool))], []⟩
@[reducible] def B8n (R : Type) : Type := Int → (Bool → Option R) → Option R
@[reducible] def Ahf : Type 1 := {R : Type} → Nat → B8n R
noncomputable def Abh : Ahf := fun {R} N x0 K0 =>
    if ((x0 == (20 : Int)) = true) then (K0 true) else (if ((x0 == (21 : Int)) = true) then (K0 true) else (if ((x0 == (22 : Int)) = true) then (K0 true) else (if ((x0 == (27 : Int)) = true) then (K0 true) else (K0 ((x0 == (29 : Int)))))))
noncomputable def B8o (N : Nat) : Abl Bin [A11] := fun R x C => Abh N x.1.1 (fun y0 => C.1 ((y0, ()), (())))
noncomputable def Ako (Abh : Ahf) (N : Nat) : Go.AX.Aai := Ack [true] [] false 1 0 Bin [A11] (fun R x C => Abh N x.1.1 (fun y0 => C.1 ((y0, ()), (()))))
noncomputable def Bio (N : Nat) : Go.AX.Aai := Ako @Abh N
noncomputable def B8p (N : Nat) : List (Nat × Acn) := []
noncomputable def Bs9 (N : Nat) : List (Nat × Go.AX.Aai) := []
noncomputable def Ahk : Aac := ⟨[(1, .one (.ptr 32)), (3, .one (.ptr 33)), (4, .one (.val (.int .i64))), (7, .one (.val (.int .i64)))], [(32, .cells 34 [(.val .str), (.val z2), (.val z3), (.val z1), (.val (.int .i64)), (.val (.int .i64))]), (33, .cells 85 [(.slf 34), (.slf 35), (.slf 36)]), (34, .row 3 (.int .i64)), (35, .row 3 (.int .i64)), (36, .row 3 (.int .i64))]⟩
noncomputable def A3p : Aac := ⟨[(1, .one (.ptr 32)), (3, .one (.ptr 33)), (4, .one (.val (.int .i64)))], [(32, .cells 34 [(.val .str), (.val z2), (.val z3), (.val z1), (.val (.int .i64)), (.val (.int .i64))]), (33, .cells 85 [(.slf 34), (.slf 35), (.slf 36)]), (34, .row 3 (.int .i64)), (35, .row 3 (.int .i64)), (36, .row 3 (.int .i64))]⟩
noncomputable def Bj2 : Acj := .cons .normal A3p (.nil)
@[reducible] def Bzy (R : Type) : Type := Int → Int → (List UInt8) → d4 → d3 → d1 → Int → Int → d0 → d0 → d0 → (Int → (List UInt8) → d4 → d3 → d1 → Int → Int → d0 → d0 → d0 → Option R) → Option R
@[reducible] def Ajd : Type 1 := {R : Type} → Nat → Bzy R
noncomputable def Ab5 : Ajd := fun {R} N x0 x1 x2 x3 x4 x5 x6 x7 x8 x9 x10 K0 =>
    if ((((List.length x8) + (List.length (x1 :: ([] : List Int)))) * (8 : Nat)) ≤ (70368744177664 : Nat)) then (K0 x0 x2 x3 x4 x5 x6 x7 ((x8 ++ (x1 :: ([] : List Int)))) x9 x10) else none
noncomputable def Al3 (Ab5 : Ajd) (N : Nat) : Aap Ahk := fun R x K => Ab5 N x.1.2.2.1 x.1.2.2.2.1 x.2.1.1 x.2.1.2.1 x.2.1.2.2.1 x.2.1.2.2.2.1 x.2.1.2.2.2.2.1 x.2.1.2.2.2.2.2.1 x.2.2.2.1 x.2.2.2.2.1 x.2.2.2.2.2.1 (fun y0 y1 y2 y3 y4 y5 y6 y7 y8 y9 => K .normal (Aab A3p (((), (), y0, ()), ((y1, y2, y3, y4, y5, y6, ()), ((), (), (), ()), y7, y8, y9, ()))))
noncomputable def Bj3 (N : Nat) : Aap Ahk := Al3 @Ab5 N
noncomputable def Ahl : Aac := ⟨[(1, .one (.ptr 32)), (3, .one (.ptr 33)), (4, .one (.val (.int .i64))), (5, .one (.ptr 34))], [(32, .cells 34 [(.val .str), (.val z2), (.val z3), (.val z1), (.val (.int .i64)), (.val (.int .i64))]), (33, .cells 85 [(.slf 35), (.slf 36), (.slf 37)]), (34, .cells 24 [(.val (.int .i64)), (.val (.int .i64)), (.val (.int .i64))]), (35, .row 3 (.int .i64)), (36, .row 3 (.int .i64)), (37, .row 3 (.int .i64))]⟩
noncomputable def A3q : Aac := ⟨[(1, .one (.ptr 32)), (3, .one (.ptr 33)), (4, .one (.val (.int .i64)))], [(32, .cells 34 [(.val .str), (.val z2), (.val z3), (.val z1), (.val (.int .i64)), (.val (.int .i64))]), (33, .cells 85 [(.slf 34), (.slf 35), (.slf 36)]), (34, .row 3 (.int .i64)), (35, .row 3 (.int .i64)), (36, .row 3 (.int .i64))]⟩
noncomputable def Bj4 : Acj := .cons .normal A3q (.nil)
@[reducible] def Bzz (R : Type) : Type := Int → (List UInt8) → d4 → d3 → d1 → Int → Int → Int → Int → Int → d0 → d0 → d0 → (Int → (List UInt8) → d4 → d3 → d1 → Int → Int → d0 → d0 → d0 → Option R) → Option R
@[reducible] def Aij : Type 1 := {R : Type} → Nat → Bzz R
noncomputable def A76 (Abr : Aii) (Abh : Ahf) (Ab5 : Ajd) : Aij := fun {R} N x0 x1 x2 x3 x4 x5 x6 x7 x8 x9 x10 x11 x12 K0 =>
    Abr N x8 (fun y0 => Abh N x7 (fun y1 => if (y1 = true) then (Ab5 N x0 0 x1 x2 x3 x4 x5 x6 x10 x11 x12 (fun y2 y3 y4 y5 y6 y7 y8 y9 y10 y11 => K0 y2 y3 y4 y5 y6 y7 y8 y9 y10 y11)) else (if ((x7 == (19 : Int)) = true) then (Ab5 N x0 0 x1 x2 x3 x4 x5 x6 x10 x11 x12 (fun y12 y13 y14 y15 y16 y17 y18 y19 y20 y21 => K0 y12 y13 y14 y15 y16 y17 y18 y19 y20 y21)) else (Ab5 N x0 y0 x1 x2 x3 x4 x5 x6 x10 x11 x12 (fun y22 y23 y24 y25 y26 y27 y28 y29 y30 y31 => K0 y22 y23 y24 y25 y26 y27 y28 y29 y30 y31)))))
noncomputable def Aci : Aij := @A76 @Abr @Abh @Ab5
noncomputable def Al4 (Aci : Aij) (N : Nat) : Aap Ahl := fun R x K => Aci N x.1.2.2.1 x.2.1.1 x.2.1.2.1 x.2.1.2.2.1 x.2.1.2.2.2.1 x.2.1.2.2.2.2.1 x.2.1.2.2.2.2.2.1 x.2.2.2.1.1 x.2.2.2.1.2.1 x.2.2.2.1.2.2.1 x.2.2.2.2.1 x.2.2.2.2.2.1 x.2.2.2.2.2.2.1 (fun y0 y1 y2 y3 y4 y5 y6 y7 y8 y9 => K .normal (Aab A3q (((), (), y0, ()), ((y1, y2, y3, y4, y5, y6, ()), ((), (), (), ()), y7, y8, y9, ()))))
noncomputable def Bj5 (N : Nat) : Aap Ahl := Al4 @Aci N
noncomputable def Ag2 : Aac := ⟨[(1, .one (.ptr 32)), (3, .one (.ptr 33)), (4, .one (.val (.int .i64)))], [(32, .cells 34 [(.val .str), (.val z2), (.val z3), (.val z1), (.val (.int .i64)), (.val (.int .i64))]), (33, .cells 85 [(.slf 34), (.slf 35), (.slf 36)]), (34, .row 3 (.int .i64)), (35, .row 3 (.int .i64)), (36, .row 3 (.int .i64))]⟩
noncomputable def Ax0 : Aac := ⟨[(1, .one (.ptr 32)), (3, .one (.ptr 33))], [(32, .cells 34 [(.val .str), (.val z2), (.val z3), (.val z1), (.val (.int .i64)), (.val (.int .i64))]), (33, .cells 85 [(.slf 34), (.slf 35), (.slf 36)]), (34, .row 3 (.int .i64)), (35, .row 3 (.int .i64)), (36, .row 3 (.int .i64))]⟩
noncomputable def Bm3 : Acj := .cons (.exit 0) Ax0 (.nil)
@[reducible] def Bbt (R : Type) : Type := Int → (List UInt8) → d4 → d3 → d1 → Int → Int → d0 → d0 → d0 → ((List UInt8) → d4 → d3 → d1 → Int → Int → d0 → d0 → d0 → Option R) → Option R
@[reducible] def Bm4 (R : Type) : Type := Int → (List UInt8) → d4 → d3 → d1 → Int → Int → d0 → d0 → d0 → Option R
@[reducible] def Alg : Type 1 := {R : Type} → Nat → Nat → Bbt R
noncomputable def Bbu (Ab4 : Akv) (Aci : Aij) {R : Type} (N : Nat) (rc : Bm4 R) : Bbt R := fun x0 x1 x2 x3 x4 x5 x6 x7 x8 x9 K0 =>
    if ((decide ((x0 < (len x3)))) = true) then (if (((0 : Int) ≤ x0) ∧ (x0 < (len x3))) then (let v0 := (List.getD x3 (Int.toNat x0) ((0 : Int), ((0 : Int), (0 : Int)))).1; let v1 := (List.getD x3 (Int.toNat x0) ((0 : Int), ((0 : Int), (0 : Int)))).2.1; let v2 := (List.getD x3 (Int.toNat x0) ((0 : Int), ((0 : Int), (0 : Int)))).2.2; if ((v0 == (19 : Int)) = true) then (Ab4 N N x0 x0 x1 x2 x3 x4 x5 x6 v0 v1 v2 x7 x8 x9 (fun y0 y1 y2 y3 y4 y5 y6 y7 y8 y9 y10 y11 y12 y13 => if (((0 : Int) ≤ y9) ∧ (y9 < (len y13))) then (Aci N y0 y2 y3 y4 y5 y6 y7 y8 y9 y10 y11 y12 ((List.set y13 (Int.toNat y9) y1)) (fun y14 y15 y16 y17 y18 y19 y20 y21 y22 y23 => rc ((wi (y14 + (1 : Int)))) y15 y16 y17 y18 y19 y20 y21 y22 y23)) else none)) else (Aci N x0 x1 x2 x3 x4 x5 x6 v0 v1 v2 x7 x8 x9 (fun y24 y25 y26 y27 y28 y29 y30 y31 y32 y33 => rc ((wi (y24 + (1 : Int)))) y25 y26 y27 y28 y29 y30 y31 y32 y33))) else none) else (K0 x1 x2 x3 x4 x5 x6 x7 x8 x9)
noncomputable def Acs {R : Type} (N : Nat) : Nat → Bbt R
  | 0 => fun _ _ _ _ _ _ _ _ _ _ _ => none
  | k + 1 => fun x0 x1 x2 x3 x4 x5 x6 x7 x8 x9 K0 => Bbu @Ab4 @Aci N (fun x0 x1 x2 x3 x4 x5 x6 x7 x8 x9 => Acs N k x0 x1 x2 x3 x4 x5 x6 x7 x8 x9 K0) x0 x1 x2 x3 x4 x5 x6 x7 x8 x9 K0
noncomputable def Am1 (Acs : Alg) (N k : Nat) : Aap Ag2 := fun R x K => Acs N k x.1.2.2.1 x.2.1.1 x.2.1.2.1 x.2.1.2.2.1 x.2.1.2.2.2.1 x.2.1.2.2.2.2.1 x.2.1.2.2.2.2.2.1 x.2.2.2.1 x.2.2.2.2.1 x.2.2.2.2.2.1 (fun y0 y1 y2 y3 y4 y5 y6 y7 y8 => K (.exit 0) (Aab Ax0 (((), (), ()), ((y0, y1, y2, y3, y4, y5, ()), ((), (), (), ()), y6, y7, y8, ()))))
noncomputable def Bbv (N k : Nat) : Aap Ag2 := Am1 @Acs N k
noncomputable def Alt : Code := Go.Proofs.Try.f93.body.getD .skip
noncomputable def Bj6 : Code := Go.Proofs.Try.f39.body.getD .skip
noncomputable def A77 : Aac := ⟨[(0, .one (.val (.int .i64)))], []⟩
noncomputable def Avt : Aac := ⟨[(0, .one (.val (.int .i64)))], []⟩
@[reducible] def Bz0 (R : Type) : Type := Int → (Int → Option R) → Option R
@[reducible] def Aje : Type 1 := {R : Type} → Nat → Bz0 R
noncomputable def Ab6 : Aje := fun {R} N x0 K0 =>
    if ((x0 == (3 : Int)) = true) then (K0 4) else (K0 x0)
noncomputable def Bz1 (N : Nat) : Abl A77 [Avt] := fun R x C => Ab6 N x.1.1 (fun y0 => C.1 ((y0, ()), (())))
noncomputable def Ant (Ab6 : Aje) (N : Nat) : Go.AX.Aai := Ack [true] [] false 1 0 A77 [Avt] (fun R x C => Ab6 N x.1.1 (fun y0 => C.1 ((y0, ()), (()))))
noncomputable def A78 (N : Nat) : Go.AX.Aai := Ant @Ab6 N
noncomputable def Bz2 (N : Nat) : List (Nat × Acn) := []
noncomputable def Bj7 (N : Nat) : List (Nat × Go.AX.Aai) := []
noncomputable def Bj8 : Code := Go.Proofs.Try.f40.body.getD .skip
noncomputable def A79 : Aac := ⟨[(0, .one (.val (.int .i64)))], []⟩
noncomputable def Avu : Aac := ⟨[(0, .one (.val (.int .i64)))], []⟩
@[reducible] def Bz3 (R : Type) : Type := Int → (Int → Option R) → Option R
@[reducible] def Ajf : Type 1 := {R : Type} → Nat → Bz3 R
noncomputable def Ab7 : Ajf := fun {R} N x0 K0 =>
    if ((x0 == (24 : Int)) = true) then (K0 1) else (if ((x0 == (29 : Int)) = true) then (K0 2) else (if ((x0 == (30 : Int)) = true) then (K0 4) else (K0 0)))
noncomputable def Bz4 (N : Nat) : Abl A79 [Avu] := fun R x C => Ab7 N x.1.1 (fun y0 => C.1 ((y0, ()), (())))
noncomputable def Anu (Ab7 : Ajf) (N : Nat) : Go.AX.Aai := Ack [true] [] false 1 0 A79 [Avu] (fun R x C => Ab7 N x.1.1 (fun y0 => C.1 ((y0, ()), (()))))
noncomputable def A8a (N : Nat) : Go.AX.Aai := Anu @Ab7 N
noncomputable def Bz5 (N : Nat) : List (Nat × Acn) := []
noncomputable def Bj9 (N : Nat) : List (Nat × Go.AX.Aai) := []
noncomputable def Ahx : Aac := ⟨[(0, .one (.ptr 0)), (1, .one (.val z3)), (4, .one (.val (.int .i64))), (5, .one (.val (.int .i64)))], [(0, .cells 85 [(.slf 1), (.slf 32), (.slf 3)]), (1, .row 3 (.int .i64)), (2, .row 3 (.int .i64)), (3, .row 3 (.int .i64)), (32, .row 3 (.int .i64))]⟩
noncomputable def Apf : Aac := ⟨[(0, .one (.ptr 0)), (4, .one (.val (.int .i64)))], [(0, .cells 85 [(.slf 1), (.slf 32), (.slf 3)]), (1, .row 3 (.int .i64)), (2, .row 3 (.int .i64)), (3, .row 3 (.int .i64)), (32, .row 3 (.int .i64))]⟩
noncomputable def A9p : Acj := .cons (.exit 0) Apf (.nil)
@[reducible] def Azm (R : Type) : Type := d3 → Int → Int → d0 → d0 → d0 → d0 → (Int → d0 → d0 → d0 → d0 → Option R) → Option R
@[reducible] def A9q (R : Type) : Type := d3 → Int → Int → d0 → d0 → d0 → d0 → Option R
@[reducible] def Asf : Type 1 := {R : Type} → Nat → Nat → Azm R
noncomputable def Azn (Ab6 : Aje) (Ab7 : Ajf) {R : Type} (N : Nat) (rc : A9q R) : Azm R := fun x0 x1 x2 x3 x4 x5 x6 K0 =>
    if ((decide ((x2 < (len x0)))) = true) then (if ((((List.length x6) + (List.length (x1 :: ([] : List Int)))) * (8 : Nat)) ≤ (70368744177664 : Nat)) then (if (((0 : Int) ≤ x2) ∧ (x2 < (len x0))) then (let v0 := (List.getD x0 (Int.toNat x2) ((0 : Int), ((0 : Int), (0 : Int)))).1; if ((v0 != (19 : Int)) = true) then (if (((0 : Int) ≤ x2) ∧ (x2 < (len x3))) then (Ab6 N ((List.getD x3 (Int.toNat x2) (0 : Int))) (fun y0 => if (((0 : Int) ≤ x2) ∧ (x2 < (len x0))) then (Ab7 N v0 (fun y1 => rc x0 ((wi (x1 + (wi ((wi ((1 : Int) + y0)) + y1))))) ((wi (x2 + (1 : Int)))) x3 x4 x5 ((x6 ++ (x1 :: ([] : List Int)))))) else none)) else none) else (rc x0 x1 ((wi (x2 + (1 : Int)))) x3 x4 x5 ((x6 ++ (x1 :: ([] : List Int)))))) else none) else none) else (K0 x1 x3 x4 x5 x6)
noncomputable def Ad2 {R : Type} (N : Nat) : Nat → Azm R
  | 0 => fun _ _ _ _ _ _ _ _ => none
  | k + 1 => fun x0 x1 x2 x3 x4 x5 x6 K0 => Azn @Ab6 @Ab7 N (fun x0 x1 x2 x3 x4 x5 x6 => Ad2 N k x0 x1 x2 x3 x4 x5 x6 K0) x0 x1 x2 x3 x4 x5 x6 K0
noncomputable def Azo (Ad2 : Asf) (N k : Nat) : Aap Ahx := fun R x K => Ad2 N k x.1.2.1 x.1.2.2.1 x.1.2.2.2.1 x.2.2.1 x.2.2.2.1 x.2.2.2.2.1 x.2.2.2.2.2.1 (fun y0 y1 y2 y3 y4 => K (.exit 0) (Aab Apf (((), y0, ()), (((), (), (), ()), y1, y2, y3, y4, ()))))
noncomputable def Azp (N k : Nat) : Aap Ahx := Azo @Ad2 N k
noncomputable def A3r : Aac := ⟨[(0, .one (.ptr 0)), (1, .one (.val z3))], [(0, .cells 85 [(.slf 1), (.slf 2), (.slf 3)]), (1, .row 3 (.int .i64)), (2, .row 3 (.int .i64)), (3, .row 3 (.int .i64))]⟩
noncomputable def Asg : Aac := ⟨[], [(0, .cells 85 [(.slf 1), (.slf 32), (.slf 3)]), (1, .row 3 (.int .i64)), (2, .row 3 (.int .i64)), (3, .row 3 (.int .i64)), (32, .row 3 (.int .i64))]⟩
@[reducible] def Bt8 (R : Type) : Type := d3 → d0 → d0 → d0 → (d0 → d0 → d0 → d0 → Option R) → Option R
@[reducible] def Agm : Type 1 := {R : Type} → Nat → Bt8 R
noncomputable def A3s (Ad2 : Asf) : Agm := fun {R} N x0 x1 x2 x3 K0 =>
    Ad2 N N x0 0 0 x1 x2 x3 (([] : List Int)) (fun y0 y1 y2 y3 y4 => if ((((List.length y4) + (List.length (y0 :: ([] : List Int)))) * (8 : Nat)) ≤ (70368744177664 : Nat)) then (K0 y1 y2 y3 ((y4 ++ (y0 :: ([] : List Int))))) else none)
noncomputable def Aa3 : Agm := @A3s @Ad2
noncomputable def Cd6 (N : Nat) : Abl A3r [Asg] := fun R x C => Aa3 N x.1.2.1 x.2.2.1 x.2.2.2.1 x.2.2.2.2.1 (fun y0 y1 y2 y3 => C.1 ((()), (((), (), (), ()), y0, y1, y2, y3, ())))
noncomputable def Akk (Aa3 : Agm) (N : Nat) : Go.AX.Aai := Ack [false, true] (List.replicate 32 true) true 2 4 A3r [Asg] (fun R x C => Aa3 N x.1.2.1 x.2.2.1 x.2.2.2.1 x.2.2.2.2.1 (fun y0 y1 y2 y3 => C.1 ((()), (((), (), (), ()), y0, y1, y2, y3, ()))))
noncomputable def Bfu (N : Nat) : Go.AX.Aai := Akk @Aa3 N
noncomputable def Cd7 (N : Nat) : List (Nat × Acn) := [(7, Aaa Ahx (Azp N N))]
noncomputable def Bt9 (N : Nat) : List (Nat × Go.AX.Aai) := [(39, A78 N), (40, A8a N)]
noncomputable def A3y : Code := Go.Proofs.Try.f70.body.getD .skip
noncomputable def At5 : Aac := ⟨[(0, .one (.ptr 0)), (1, .one (.val (.int .i64))), (2, .one (.val (.int .i64)))], [(0, .cells 85 [(.slf 1), (.slf 2), (.slf 3)]), (1, .row 3 (.int .i64)), (2, .row 3 (.int .i64)), (3, .row 3 (.int .i64))]⟩
noncomputable def Am5 : Aac := ⟨[(0, .one (.val (.int .i64)))], [(0, .cells 85 [(.slf 1), (.slf 2), (.slf 3)]), (1, .row 3 (.int .i64)), (2, .row 3 (.int .i64)), (3, .row 3 (.int .i64))]⟩
@[reducible] def Bka (R : Type) : Type := Int → Int → d0 → d0 → d0 → (Int → d0 → d0 → d0 → Option R) → Option R
@[reducible] def Acu : Type 1 := {R : Type} → Nat → Bka R
noncomputable def Aaj : Acu := fun {R} N x0 x1 x2 x3 x4 K0 =>
    if (((0 : Int) ≤ x1) ∧ (x1 < (len x4))) then (let v0 := (List.getD x4 (Int.toNat x1) (0 : Int)); if (((0 : Int) ≤ v0) ∧ (v0 < (len x3))) then (let v1 := (wi (x0 + (1 : Int))); if (((0 : Int) ≤ v1) ∧ (v1 < (len x3))) then (K0 ((wi ((List.getD x3 (Int.toNat v0) (0 : Int)) - (List.getD x3 (Int.toNat v1) (0 : Int))))) x2 x3 x4) else none) else none) else none
noncomputable def Bkb (N : Nat) : Abl At5 [Am5] := fun R x C => Aaj N x.1.2.1 x.1.2.2.1 x.2.2.1 x.2.2.2.1 x.2.2.2.2.1 (fun y0 y1 y2 y3 => C.1 ((y0, ()), (((), (), (), ()), y1, y2, y3, ())))
noncomputable def Aeg (Aaj : Acu) (N : Nat) : Go.AX.Aai := Ack [false, true, true] (List.replicate 32 true) true 3 4 At5 [Am5] (fun R x C => Aaj N x.1.2.1 x.1.2.2.1 x.2.2.1 x.2.2.2.1 x.2.2.2.2.1 (fun y0 y1 y2 y3 => C.1 ((y0, ()), (((), (), (), ()), y1, y2, y3, ()))))
noncomputable def At6 (N : Nat) : Go.AX.Aai := Aeg @Aaj N
noncomputable def Bkc (N : Nat) : List (Nat × Acn) := []
noncomputable def A3z (N : Nat) : List (Nat × Go.AX.Aai) := []
noncomputable def Af8 : Aac := ⟨[(1, .one (.ptr 32)), (3, .one (.ptr 33)), (8, .one (.slf 34)), (9, .one (.val .bool)), (10, .one (.val (.int .i64)))], [(32, .cells 34 [(.val .str), (.val z2), (.val z3), (.val z1), (.val (.int .i64)), (.val (.int .i64))]), (33, .cells 85 [(.slf 35), (.slf 36), (.slf 37)]), (34, .row 3 (.int .i64)), (35, .row 3 (.int .i64)), (36, .row 3 (.int .i64)), (37, .row 3 (.int .i64))]⟩
noncomputable def Avv : Aac := ⟨[(1, .one (.ptr 32)), (3, .one (.ptr 33)), (8, .one (.slf 34)), (9, .one (.val .bool))], [(32, .cells 34 [(.val .str), (.val z2), (.val z3), (.val z1), (.val (.int .i64)), (.val (.int .i64))]), (33, .cells 85 [(.slf 35), (.slf 36), (.slf 37)]), (34, .row 3 (.int .i64)), (35, .row 3 (.int .i64)), (36, .row 3 (.int .i64)), (37, .row 3 (.int .i64))]⟩
noncomputable def Bkd : Acj := .cons (.exit 6) Avv (.nil)
@[reducible] def A8b (R : Type) : Type := Bool → Int → (List UInt8) → d4 → d3 → d1 → Int → Int → d0 → d0 → d0 → d0 → (Bool → (List UInt8) → d4 → d3 → d1 → Int → Int → d0 → d0 → d0 → d0 → Option R) → Option R
@[reducible] def Bke (R : Type) : Type := Bool → Int → (List UInt8) → d4 → d3 → d1 → Int → Int → d0 → d0 → d0 → d0 → Option R
@[reducible] def Akw : Type 1 := {R : Type} → Nat → Nat → A8b R
noncomputable def A8c (Abh : Ahf) (Aaj : Acu) (Abr : Aii) {R : Type} (N : Nat) (rc : Bke R) : A8b R := fun x0 x1 x2 x3 x4 x5 x6 x7 x8 x9 x10 x11 K0 =>
    if ((decide ((x1 < (len x4)))) = true) then (if (((0 : Int) ≤ x1) ∧ (x1 < (len x4))) then (Abh N ((List.getD x4 (Int.toNat x1) ((0 : Int), ((0 : Int), (0 : Int)))).1) (fun y0 => if ((!y0) = true) then (rc x0 ((wi (x1 + (1 : Int)))) x2 x3 x4 x5 x6 x7 x8 x9 x10 x11) else (if (((0 : Int) ≤ x1) ∧ (x1 < (len x4))) then (Aaj N x1 ((List.getD x4 (Int.toNat x1) ((0 : Int), ((0 : Int), (0 : Int)))).2.1) x9 x10 x11 (fun y1 y2 y3 y4 => Abr N y1 (fun y5 => if (((0 : Int) ≤ x1) ∧ (x1 < (len y2))) then (if ((decide ((y5 > (List.getD y2 (Int.toNat x1) (0 : Int))))) = true) then (if (((0 : Int) ≤ x1) ∧ (x1 < (len x8))) then (rc true ((wi (x1 + (1 : Int)))) x2 x3 x4 x5 x6 x7 ((List.set x8 (Int.toNat x1) y5)) y2 y3 y4) else none) else (rc x0 ((wi (x1 + (1 : Int)))) x2 x3 x4 x5 x6 x7 x8 y2 y3 y4)) else none))) else none))) else none) else (K0 x0 x2 x3 x4 x5 x6 x7 x8 x9 x10 x11)
noncomputable def Ab8 {R : Type} (N : Nat) : Nat → A8b R
  | 0 => fun _ _ _ _ _ _ _ _ _ _ _ _ _ => none
  | k + 1 => fun x0 x1 x2 x3 x4 x5 x6 x7 x8 x9 x10 x11 K0 => A8c @Abh @Aaj @Abr N (fun x0 x1 x2 x3 x4 x5 x6 x7 x8 x9 x10 x11 => Ab8 N k x0 x1 x2 x3 x4 x5 x6 x7 x8 x9 x10 x11 K0) x0 x1 x2 x3 x4 x5 x6 x7 x8 x9 x10 x11 K0
noncomputable def Al5 (Ab8 : Akw) (N k : Nat) : Aap Af8 := fun R x K => Ab8 N k x.1.2.2.2.1 x.1.2.2.2.2.1 x.2.1.1 x.2.1.2.1 x.2.1.2.2.1 x.2.1.2.2.2.1 x.2.1.2.2.2.2.1 x.2.1.2.2.2.2.2.1 x.2.2.2.1 x.2.2.2.2.1 x.2.2.2.2.2.1 x.2.2.2.2.2.2.1 (fun y0 y1 y2 y3 y4 y5 y6 y7 y8 y9 y10 => K (.exit 6) (Aab Avv (((), (), (), y0, ()), ((y1, y2, y3, y4, y5, y6, ()), ((), (), (), ()), y7, y8, y9, y10, ()))))
noncomputable def A8d (N k : Nat) : Aap Af8 := Al5 @Ab8 N k
noncomputable def Af9 : Aac := ⟨[(1, .one (.ptr 32)), (3, .one (.ptr 33))], [(32, .cells 34 [(.val .str), (.val z2), (.val z3), (.val z1), (.val (.int .i64)), (.val (.int .i64))]), (33, .cells 85 [(.slf 34), (.slf 35), (.slf 36)]), (34, .row 3 (.int .i64)), (35, .row 3 (.int .i64)), (36, .row 3 (.int .i64))]⟩
noncomputable def Avw : Aac := ⟨[(2, .one (.ptr 32))], [(32, .cells 85 [(.slf 33), (.slf 34), (.slf 35)]), (33, .row 3 (.int .i64)), (34, .row 3 (.int .i64)), (35, .row 3 (.int .i64))]⟩
noncomputable def Bkf : Acj := .cons .ret Avw (.nil)
@[reducible] def A8e (R : Type) : Type := (List UInt8) → d4 → d3 → d1 → Int → Int → d0 → d0 → d0 → (d0 → d0 → d0 → Option R) → Option R
@[reducible] def Bkg (R : Type) : Type := (List UInt8) → d4 → d3 → d1 → Int → Int → d0 → d0 → d0 → Option R
@[reducible] def Akx : Type 1 := {R : Type} → Nat → Nat → A8e R
noncomputable def A8f (Ab8 : Akw) (Aa3 : Agm) {R : Type} (N : Nat) (rc : Bkg R) : A8e R := fun x0 x1 x2 x3 x4 x5 x6 x7 x8 K0 =>
    if (((List.length x6) * (8 : Nat)) ≤ (70368744177664 : Nat)) then (Ab8 N N false 0 x0 x1 x2 x3 x4 x5 x6 x6 x7 x8 (fun y0 y1 y2 y3 y4 y5 y6 y7 y8 y9 y10 => if ((!y0) = true) then (K0 y8 y9 y10) else (Aa3 N y3 y7 y9 y10 (fun y11 y12 y13 y14 => rc y1 y2 y3 y4 y5 y6 y11 y14 y13)))) else none
noncomputable def Abx {R : Type} (N : Nat) : Nat → A8e R
  | 0 => fun _ _ _ _ _ _ _ _ _ _ => none
  | k + 1 => fun x0 x1 x2 x3 x4 x5 x6 x7 x8 K0 => A8f @Ab8 @Aa3 N (fun x0 x1 x2 x3 x4 x5 x6 x7 x8 => Abx N k x0 x1 x2 x3 x4 x5 x6 x7 x8 K0) x0 x1 x2 x3 x4 x5 x6 x7 x8 K0
noncomputable def Al6 (Abx : Akx) (N k : Nat) : Aap Af9 := fun R x K => Abx N k x.2.1.1 x.2.1.2.1 x.2.1.2.2.1 x.2.1.2.2.2.1 x.2.1.2.2.2.2.1 x.2.1.2.2.2.2.2.1 x.2.2.2.1 x.2.2.2.2.1 x.2.2.2.2.2.1 (fun y0 y1 y2 => K .ret (Aab Avw (((), ()), (((), (), (), ()), y0, y1, y2, ()))))
noncomputable def A8g (N k : Nat) : Aap Af9 := Al6 @Abx N k
noncomputable def Bip : Aac := ⟨[(0, .agg [(.val .str), (.val z2), (.val z3), (.val z1), (.val (.int .i64)), (.val (.int .i64))])], []⟩
noncomputable def A12 : Aac := ⟨[(0, .one (.ptr 32))], [(32, .cells 85 [(.slf 33), (.slf 34), (.slf 35)]), (33, .row 3 (.int .i64)), (34, .row 3 (.int .i64)), (35, .row 3 (.int .i64))]⟩
@[reducible] def B8q (R : Type) : Type := (List UInt8) → d4 → d3 → d1 → Int → Int → (d0 → d0 → d0 → Option R) → Option R
@[reducible] def A1l : Type 1 := {R : Type} → Nat → B8q R
noncomputable def Biq (Acs : Alg) (Aa3 : Agm) (Abx : Akx) : A1l := fun {R} N x0 x1 x2 x3 x4 x5 K0 =>
    let v0 := (wi (x5 + (1 : Int))); if (((0 : Int) ≤ v0) ∧ ((v0 ≤ v0) ∧ ((v0 * (8 : Int)) ≤ (70368744177664 : Int)))) then (Acs N N 0 x0 x1 x2 x3 x4 x5 (([] : List Int)) (([] : List Int)) ((List.replicate (Int.toNat v0) (0 : Int))) (fun y0 y1 y2 y3 y4 y5 y6 y7 y8 => Aa3 N y2 y6 y7 y8 (fun y9 y10 y11 y12 => Abx N N y0 y1 y2 y3 y4 y5 y9 y12 y11 (fun y13 y14 y15 => K0 y13 y14 y15)))) else none
noncomputable def Al7 : A1l := @Biq @Acs @Aa3 @Abx
noncomputable def Cid (N : Nat) : Abl Bip [A12] := fun R x C => Al7 N x.1.1.1 x.1.1.2.1 x.1.1.2.2.1 x.1.1.2.2.2.1 x.1.1.2.2.2.2.1 x.1.1.2.2.2.2.2.1 (fun y0 y1 y2 => C.1 (((), ()), (((), (), (), ()), y0, y1, y2, ())))
noncomputable def Bta (Al7 : A1l) (N : Nat) : Go.AX.Aai := Ack [true] [] false 1 0 Bip [A12] (fun R x C => Al7 N x.1.1.1 x.1.1.2.1 x.1.1.2.2.1 x.1.1.2.2.2.1 x.1.1.2.2.2.2.1 x.1.1.2.2.2.2.2.1 (fun y0 y1 y2 => C.1 (((), ()), (((), (), (), ()), y0, y1, y2, ()))))
noncomputable def Btb (N : Nat) : Go.AX.Aai := Bta @Al7 N
noncomputable def Cie (N : Nat) : List (Nat × Acn) := [(17, Aaa Af7 (A74 N N)), (28, Aaa Ahk (Bj3 N)), (22, Aaa Ahl (Bj5 N)), (7, Aaa Ag2 (Bbv N N)), (39, Aaa Af8 (A8d N N)), (33, Aaa Af9 (A8g N N))]
noncomputable def B8r (N : Nat) : List (Nat × Go.AX.Aai) := [(42, Bj0 N), (58, Bio N), (93, Bfu N), (70, At6 N)]
noncomputable def Bbw : Aac := ⟨[(0, .agg [(.val .str), (.val z2), (.val z3), (.val z1), (.val (.int .i64)), (.val (.int .i64))])], []⟩
noncomputable def Ax1 : Aac := ⟨[(0, .one (.same .nilptr)), (1, .one (.val (.int .i64)))], []⟩
noncomputable def Ax2 : Aac := ⟨[(0, .one (.ptr 32)), (1, .one (.val (.int .i64)))], [(32, .cells 85 [(.slf 33), (.slf 34), (.slf 35)]), (33, .row 3 (.int .i64)), (34, .row 3 (.int .i64)), (35, .row 3 (.int .i64))]⟩
@[reducible] def B4a (R : Type) : Type := (List UInt8) → d4 → d3 → d1 → Int → Int → (Int → Option R) → (Int → d0 → d0 → d0 → Option R) → Option R
@[reducible] def Am2 : Type 1 := {R : Type} → Nat → B4a R
noncomputable def A13 (Ajc : Awg) (Al7 : A1l) : Am2 := fun {R} N x0 x1 x2 x3 x4 x5 K0 K1 =>
    Ajc N x0 x1 x2 x3 x4 x5 (fun y0 => if ((y0 != (0 : Int)) = true) then (K0 y0) else (Al7 N x0 x1 x2 x3 x4 x5 (fun y1 y2 y3 => if (((0 : Int) ≤ (len x2)) ∧ ((len x2) < (len y2))) then (if ((decide (((List.getD y2 (Int.toNat (len x2)) (0 : Int)) > (32767 : Int)))) = true) then (K0 2) else (if ((decide (((len x0) > (255 : Int)))) = true) then (K0 2) else (if ((decide (((len x3) > (255 : Int)))) = true) then (K0 2) else (K1 0 y1 y2 y3)))) else none)))
noncomputable def Ad6 : Am2 := @A13 @Ajc @Al7
noncomputable def Cg9 (N : Nat) : Abl Bbw [Ax1, Ax2] := fun R x C => Ad6 N x.1.1.1 x.1.1.2.1 x.1.1.2.2.1 x.1.1.2.2.2.1 x.1.1.2.2.2.2.1 x.1.1.2.2.2.2.2.1 (fun y0 => C.1 (((), y0, ()), (()))) (fun y0 y1 y2 y3 => C.2.1 (((), y0, ()), (((), (), (), ()), y1, y2, y3, ())))
noncomputable def Awh (Ad6 : Am2) (N : Nat) : Go.AX.Aai := Ack [true] [] false 1 0 Bbw [Ax1, Ax2] (fun R x C => Ad6 N x.1.1.1 x.1.1.2.1 x.1.1.2.2.1 x.1.1.2.2.2.1 x.1.1.2.2.2.2.1 x.1.1.2.2.2.2.2.1 (fun y0 => C.1 (((), y0, ()), (()))) (fun y0 y1 y2 y3 => C.2.1 (((), y0, ()), (((), (), (), ()), y1, y2, y3, ()))))
noncomputable def Bm5 (N : Nat) : Go.AX.Aai := Awh @Ad6 N
noncomputable def Cha (N : Nat) : List (Nat × Acn) := []
noncomputable def B4b (N : Nat) : List (Nat × Go.AX.Aai) := [(66, Bm2 N), (69, Btb N)]
noncomputable def Asq : Code := Go.Proofs.Try.f50.body.getD .skip
noncomputable def Alh : Aac := ⟨[(0, .one (.val (.int .i64))), (5, .one (.slf 32)), (6, .one (.val (.int .i64)))], [(32, .row 5 (.int .u8))]⟩
noncomputable def Ax3 : Aac := ⟨[(5, .one (.slf 32))], [(32, .row 5 (.int .u8))]⟩
noncomputable def Bm6 : Acj := .cons (.exit 0) Ax3 (.nil)
@[reducible] def Bbx (R : Type) : Type := Int → Int → d0 → (d0 → Option R) → Option R
@[reducible] def Bm7 (R : Type) : Type := Int → Int → d0 → Option R
@[reducible] def A14 : Type 1 := {R : Type} → Nat → Nat → Bbx R
noncomputable def A15 {R : Type} (N : Nat) (rc : Bm7 R) : Bbx R := fun x0 x1 x2 K0 =>
    if ((decide ((x1 ≥ (0 : Int)))) = true) then (if (((0 : Int) ≤ x1) ∧ (x1 < (len x2))) then (rc ((Ax7 .i64 x0 (8 : Int))) ((wi (x1 - (1 : Int)))) ((List.set x2 (Int.toNat x1) (IntKind.wrap .u8 x0)))) else none) else (K0 x2)
noncomputable def Agd {R : Type} (N : Nat) : Nat → Bbx R
  | 0 => fun _ _ _ _ => none
  | k + 1 => fun x0 x1 x2 K0 => A15 N (fun x0 x1 x2 => Agd N k x0 x1 x2 K0) x0 x1 x2 K0
noncomputable def Bby (Agd : A14) (N k : Nat) : Aap Alh := fun R x K => Agd N k x.1.1 x.1.2.2.1 x.2.1 (fun y0 => K (.exit 0) (Aab Ax3 (((), ()), (y0, ()))))
noncomputable def Bbz (N k : Nat) : Aap Alh := Bby @Agd N k
noncomputable def Bir : Aac := ⟨[(0, .one (.val (.int .i64))), (1, .one (.val (.int .i64)))], []⟩
noncomputable def A16 : Aac := ⟨[(0, .one (.slf 32))], [(32, .row 5 (.int .u8))]⟩
@[reducible] def B8s (R : Type) : Type := Int → Int → (d0 → Option R) → Option R
@[reducible] def Ahg : Type 1 := {R : Type} → Nat → B8s R
noncomputable def Bis (Agd : A14) : Ahg := fun {R} N x0 x1 K0 =>
    if (((0 : Int) ≤ x1) ∧ ((x1 ≤ x1) ∧ ((x1 * (1 : Int)) ≤ (70368744177664 : Int)))) then (Agd N N x0 ((wi (x1 - (1 : Int)))) ((List.replicate (Int.toNat x1) (0 : Int))) (fun y0 => K0 y0)) else none
noncomputable def Aa1 : Ahg := @Bis @Agd
noncomputable def Cif (N : Nat) : Abl Bir [A16] := fun R x C => Aa1 N x.1.1 x.1.2.1 (fun y0 => C.1 (((), ()), (y0, ())))
noncomputable def An2 (Aa1 : Ahg) (N : Nat) : Go.AX.Aai := Ack [true, true] [] false 2 0 Bir [A16] (fun R x C => Aa1 N x.1.1 x.1.2.1 (fun y0 => C.1 (((), ()), (y0, ()))))
noncomputable def Bit (N : Nat) : Go.AX.Aai := An2 @Aa1 N
noncomputable def Cig (N : Nat) : List (Nat × Acn) := [(7, Aaa Alh (Bbz N N))]
noncomputable def B8t (N : Nat) : List (Nat × Go.AX.Aai) := []
noncomputable def Ahy : Aac := ⟨[(1, .one (.ptr 32)), (4, .one (.ptr 33)), (6, .one (.slf 34)), (7, .one (.val (.int .i64))), (8, .one (.ptr 35)), (9, .one (.val (.int .i64)))], [(32, .cells 34 [(.val .str), (.val z2), (.val z3), (.val z1), (.val (.int .i64)), (.val (.int .i64))]), (33, .cells 85 [(.slf 36), (.slf 37), (.slf 38)]), (34, .row 5 (.int .u8)), (35, .cells 73 [(.val .str), (.val .bool), (.val (.list (.int .i64)))]), (36, .row 3 (.int .i64)), (37, .row 3 (.int .i64)), (38, .row 3 (.int .i64))]⟩
noncomputable def Atk : Aac := ⟨[(1, .one (.ptr 32)), (4, .one (.ptr 33)), (6, .one (.slf 34)), (7, .one (.val (.int .i64)))], [(32, .cells 34 [(.val .str), (.val z2), (.val z3), (.val z1), (.val (.int .i64)), (.val (.int .i64))]), (33, .cells 85 [(.slf 35), (.slf 36), (.slf 37)]), (34, .row 5 (.int .u8)), (35, .row 3 (.int .i64)), (36, .row 3 (.int .i64)), (37, .row 3 (.int .i64))]⟩
noncomputable def Bhg : Acj := .cons (.exit 2) Atk (.nil)
@[reducible] def A5x (R : Type) : Type := Int → Int → (List UInt8) → d4 → d3 → d1 → Int → Int → d0 → (List UInt8) → Bool → d0 → d0 → d0 → d0 → (Int → (List UInt8) → d4 → d3 → d1 → Int → Int → d0 → d0 → d0 → d0 → Option R) → Option R
@[reducible] def Bhh (R : Type) : Type := Int → Int → (List UInt8) → d4 → d3 → d1 → Int → Int → d0 → (List UInt8) → Bool → d0 → d0 → d0 → d0 → Option R
@[reducible] def Aor : Type 1 := {R : Type} → Nat → Nat → A5x R
noncomputable def A5y (Aa1 : Ahg) {R : Type} (N : Nat) (rc : Bhh R) : A5x R := fun x0 x1 x2 x3 x4 x5 x6 x7 x8 x9 x10 x11 x12 x13 x14 K0 =>
    if ((decide ((x1 < (len x11)))) = true) then (if (((0 : Int) ≤ x1) ∧ (x1 < (len x11))) then (Aa1 N ((List.getD x11 (Int.toNat x1) (0 : Int))) 4 (fun y0 => if ((((List.length x8) + (List.length y0)) * (1 : Nat)) ≤ (70368744177664 : Nat)) then (rc x0 ((wi (x1 + (1 : Int)))) x2 x3 x4 x5 x6 x7 ((x8 ++ y0)) x9 x10 x11 x12 x13 x14) else none)) else none) else (K0 x0 x2 x3 x4 x5 x6 x7 x8 x12 x13 x14)
noncomputable def Adn {R : Type} (N : Nat) : Nat → A5x R
  | 0 => fun _ _ _ _ _ _ _ _ _ _ _ _ _ _ _ _ => none
  | k + 1 => fun x0 x1 x2 x3 x4 x5 x6 x7 x8 x9 x10 x11 x12 x13 x14 K0 => A5y @Aa1 N (fun x0 x1 x2 x3 x4 x5 x6 x7 x8 x9 x10 x11 x12 x13 x14 => Adn N k x0 x1 x2 x3 x4 x5 x6 x7 x8 x9 x10 x11 x12 x13 x14 K0) x0 x1 x2 x3 x4 x5 x6 x7 x8 x9 x10 x11 x12 x13 x14 K0
noncomputable def Ash (Adn : Aor) (N k : Nat) : Aap Ahy := fun R x K => Adn N k x.1.2.2.2.1 x.1.2.2.2.2.2.1 x.2.1.1 x.2.1.2.1 x.2.1.2.2.1 x.2.1.2.2.2.1 x.2.1.2.2.2.2.1 x.2.1.2.2.2.2.2.1 x.2.2.2.1 x.2.2.2.2.1.1 x.2.2.2.2.1.2.1 x.2.2.2.2.1.2.2.1 x.2.2.2.2.2.1 x.2.2.2.2.2.2.1 x.2.2.2.2.2.2.2.1 (fun y0 y1 y2 y3 y4 y5 y6 y7 y8 y9 y10 => K (.exit 2) (Aab Atk (((), (), (), y0, ()), ((y1, y2, y3, y4, y5, y6, ()), ((), (), (), ()), y7, y8, y9, y10, ()))))
noncomputable def A5z (N k : Nat) : Aap Ahy := Ash @Adn N k
noncomputable def Ahz : Aac := ⟨[(1, .one (.ptr 32)), (4, .one (.ptr 33)), (6, .one (.slf 34)), (7, .one (.val (.int .i64)))], [(32, .cells 34 [(.val .str), (.val z2), (.val z3), (.val z1), (.val (.int .i64)), (.val (.int .i64))]), (33, .cells 85 [(.slf 35), (.slf 36), (.slf 37)]), (34, .row 5 (.int .u8)), (35, .row 3 (.int .i64)), (36, .row 3 (.int .i64)), (37, .row 3 (.int .i64))]⟩
noncomputable def Atl : Aac := ⟨[(1, .one (.ptr 32)), (4, .one (.ptr 33)), (6, .one (.slf 34))], [(32, .cells 34 [(.val .str), (.val z2), (.val z3), (.val z1), (.val (.int .i64)), (.val (.int .i64))]), (33, .cells 85 [(.slf 35), (.slf 36), (.slf 37)]), (34, .row 5 (.int .u8)), (35, .row 3 (.int .i64)), (36, .row 3 (.int .i64)), (37, .row 3 (.int .i64))]⟩
noncomputable def Bhi : Acj := .cons (.exit 0) Atl (.nil)
@[reducible] def A50 (R : Type) : Type := Int → (List UInt8) → d4 → d3 → d1 → Int → Int → d0 → d0 → d0 → d0 → ((List UInt8) → d4 → d3 → d1 → Int → Int → d0 → d0 → d0 → d0 → Option R) → Option R
@[reducible] def Bhj (R : Type) : Type := Int → (List UInt8) → d4 → d3 → d1 → Int → Int → d0 → d0 → d0 → d0 → Option R
@[reducible] def Aos : Type 1 := {R : Type} → Nat → Nat → A50 R
noncomputable def A51 (Aa1 : Ahg) (Adn : Aor) {R : Type} (N : Nat) (rc : Bhj R) : A50 R := fun x0 x1 x2 x3 x4 x5 x6 x7 x8 x9 x10 K0 =>
    if ((decide ((x0 < (len x2)))) = true) then (if (((0 : Int) ≤ x0) ∧ (x0 < (len x2))) then (let v0 := (List.getD x2 (Int.toNat x0) (([] : List UInt8), (false, ([] : List Int)))).1; let v1 := (List.getD x2 (Int.toNat x0) (([] : List UInt8), (false, ([] : List Int)))).2.2; if ((List.getD x2 (Int.toNat x0) (([] : List UInt8), (false, ([] : List Int)))).2.1 = true) then (if ((((List.length x7) + (List.length ((0 : Int) :: ((IntKind.wrap .u8 (len v0)) :: ([] : List Int))))) * (1 : Nat)) ≤ (70368744177664 : Nat)) then (let v2 := (x7 ++ ((0 : Int) :: ((IntKind.wrap .u8 (len v0)) :: ([] : List Int)))); if ((((List.length v2) + (List.length (List.map (fun b : UInt8 => (((UInt8.toNat b) : Nat) : Int)) v0))) * (1 : Nat)) ≤ (70368744177664 : Nat)) then (rc ((wi (x0 + (1 : Int)))) x1 x2 x3 x4 x5 x6 ((v2 ++ (List.map (fun b : UInt8 => (((UInt8.toNat b) : Nat) : Int)) v0))) x8 x9 x10) else none) else none) else (if ((((List.length x7) + (1 : Nat)) * (1 : Nat)) ≤ (70368744177664 : Nat)) then (Aa1 N ((len v1)) 2 (fun y0 => if ((((List.length (x7 ++ [(1 : Int)])) + (List.length y0)) * (1 : Nat)) ≤ (70368744177664 : Nat)) then (Adn N N x0 0 x1 x2 x3 x4 x5 x6 (((x7 ++ [(1 : Int)]) ++ y0)) v0 ((List.getD x2 (Int.toNat x0) (([] : List UInt8), (false, ([] : List Int)))).2.1) v1 x8 x9 x10 (fun y1 y2 y3 y4 y5 y6 y7 y8 y9 y10 y11 => rc ((wi (y1 + (1 : Int)))) y2 y3 y4 y5 y6 y7 y8 y9 y10 y11)) else none)) else none)) else none) else (K0 x1 x2 x3 x4 x5 x6 x7 x8 x9 x10)
noncomputable def Ac8 {R : Type} (N : Nat) : Nat → A50 R
  | 0 => fun _ _ _ _ _ _ _ _ _ _ _ _ => none
  | k + 1 => fun x0 x1 x2 x3 x4 x5 x6 x7 x8 x9 x10 K0 => A51 @Aa1 @Adn N (fun x0 x1 x2 x3 x4 x5 x6 x7 x8 x9 x10 => Ac8 N k x0 x1 x2 x3 x4 x5 x6 x7 x8 x9 x10 K0) x0 x1 x2 x3 x4 x5 x6 x7 x8 x9 x10 K0
noncomputable def Asi (Ac8 : Aos) (N k : Nat) : Aap Ahz := fun R x K => Ac8 N k x.1.2.2.2.1 x.2.1.1 x.2.1.2.1 x.2.1.2.2.1 x.2.1.2.2.2.1 x.2.1.2.2.2.2.1 x.2.1.2.2.2.2.2.1 x.2.2.2.1 x.2.2.2.2.1 x.2.2.2.2.2.1 x.2.2.2.2.2.2.1 (fun y0 y1 y2 y3 y4 y5 y6 y7 y8 y9 => K (.exit 0) (Aab Atl (((), (), (), ()), ((y0, y1, y2, y3, y4, y5, ()), ((), (), (), ()), y6, y7, y8, y9, ()))))
noncomputable def A52 (N k : Nat) : Aap Ahz := Asi @Ac8 N k
noncomputable def Ah0 : Aac := ⟨[(1, .one (.ptr 32)), (4, .one (.ptr 33)), (6, .one (.slf 34)), (10, .one (.val (.int .i64)))], [(32, .cells 34 [(.val .str), (.val z2), (.val z3), (.val z1), (.val (.int .i64)), (.val (.int .i64))]), (33, .cells 85 [(.slf 35), (.slf 36), (.slf 37)]), (34, .row 5 (.int .u8)), (35, .row 3 (.int .i64)), (36, .row 3 (.int .i64)), (37, .row 3 (.int .i64))]⟩
noncomputable def Atm : Aac := ⟨[(1, .one (.ptr 32)), (4, .one (.ptr 33)), (6, .one (.slf 34))], [(32, .cells 34 [(.val .str), (.val z2), (.val z3), (.val z1), (.val (.int .i64)), (.val (.int .i64))]), (33, .cells 85 [(.slf 35), (.slf 36), (.slf 37)]), (34, .row 5 (.int .u8)), (35, .row 3 (.int .i64)), (36, .row 3 (.int .i64)), (37, .row 3 (.int .i64))]⟩
noncomputable def Bhk : Acj := .cons (.exit 4) Atm (.nil)
@[reducible] def A53 (R : Type) : Type := Int → (List UInt8) → d4 → d3 → d1 → Int → Int → d0 → d0 → d0 → d0 → ((List UInt8) → d4 → d3 → d1 → Int → Int → d0 → d0 → d0 → d0 → Option R) → Option R
@[reducible] def Bhl (R : Type) : Type := Int → (List UInt8) → d4 → d3 → d1 → Int → Int → d0 → d0 → d0 → d0 → Option R
@[reducible] def Aot : Type 1 := {R : Type} → Nat → Nat → A53 R
noncomputable def A54 (Aa1 : Ahg) {R : Type} (N : Nat) (rc : Bhl R) : A53 R := fun x0 x1 x2 x3 x4 x5 x6 x7 x8 x9 x10 K0 =>
    if ((decide ((x0 < (len x4)))) = true) then (if (((0 : Int) ≤ x0) ∧ (x0 < (len x4))) then (let v0 := (List.getD x4 (Int.toNat x0) ((0 : Int), (0 : Int))).1; if ((((List.length x7) + (List.length ((IntKind.wrap .u8 v0) :: ([] : List Int)))) * (1 : Nat)) ≤ (70368744177664 : Nat)) then (if (((0 : Int) ≤ x0) ∧ (x0 < (len x4))) then (Aa1 N ((List.getD x4 (Int.toNat x0) ((0 : Int), (0 : Int))).2) 2 (fun y0 => if ((((List.length (x7 ++ ((IntKind.wrap .u8 v0) :: ([] : List Int)))) + (List.length y0)) * (1 : Nat)) ≤ (70368744177664 : Nat)) then (rc ((wi (x0 + (1 : Int)))) x1 x2 x3 x4 x5 x6 (((x7 ++ ((IntKind.wrap .u8 v0) :: ([] : List Int))) ++ y0)) x8 x9 x10) else none)) else none) else none) else none) else (K0 x1 x2 x3 x4 x5 x6 x7 x8 x9 x10)
noncomputable def Ac9 {R : Type} (N : Nat) : Nat → A53 R
  | 0 => fun _ _ _ _ _ _ _ _ _ _ _ _ => none
  | k + 1 => fun x0 x1 x2 x3 x4 x5 x6 x7 x8 x9 x10 K0 => A54 @Aa1 N (fun x0 x1 x2 x3 x4 x5 x6 x7 x8 x9 x10 => Ac9 N k x0 x1 x2 x3 x4 x5 x6 x7 x8 x9 x10 K0) x0 x1 x2 x3 x4 x5 x6 x7 x8 x9 x10 K0
noncomputable def Asj (Ac9 : Aot) (N k : Nat) : Aap Ah0 := fun R x K => Ac9 N k x.1.2.2.2.1 x.2.1.1 x.2.1.2.1 x.2.1.2.2.1 x.2.1.2.2.2.1 x.2.1.2.2.2.2.1 x.2.1.2.2.2.2.2.1 x.2.2.2.1 x.2.2.2.2.1 x.2.2.2.2.2.1 x.2.2.2.2.2.2.1 (fun y0 y1 y2 y3 y4 y5 y6 y7 y8 y9 => K (.exit 4) (Aab Atm (((), (), (), ()), ((y0, y1, y2, y3, y4, y5, ()), ((), (), (), ()), y6, y7, y8, y9, ()))))
noncomputable def A55 (N k : Nat) : Aap Ah0 := Asj @Ac9 N k
noncomputable def Aec : Code := Go.Proofs.Try.f51.body.getD .skip
noncomputable def Aff : Aac := ⟨[(1, .one (.ptr 0)), (2, .one (.ptr 32)), (5, .one (.slf 33)), (6, .one (.val (.int .i64))), (7, .one (.ptr 34)), (8, .one (.val (.int .i64))), (9, .one (.val (.int .i64)))], [(0, .cells 85 [(.slf 1), (.slf 2), (.slf 3)]), (1, .row 3 (.int .i64)), (2, .row 3 (.int .i64)), (3, .row 3 (.int .i64)), (32, .cells 34 [(.val .str), (.val z2), (.val z3), (.val z1), (.val (.int .i64)), (.val (.int .i64))]), (33, .row 5 (.int .u8)), (34, .cells 24 [(.val (.int .i64)), (.val (.int .i64)), (.val (.int .i64))])]⟩
noncomputable def Apg : Aac := ⟨[(1, .one (.ptr 0)), (2, .one (.ptr 32)), (5, .one (.slf 33)), (6, .one (.val (.int .i64)))], [(0, .cells 85 [(.slf 1), (.slf 2), (.slf 3)]), (1, .row 3 (.int .i64)), (2, .row 3 (.int .i64)), (3, .row 3 (.int .i64)), (32, .cells 34 [(.val .str), (.val z2), (.val z3), (.val z1), (.val (.int .i64)), (.val (.int .i64))]), (33, .row 5 (.int .u8))]⟩
noncomputable def A0n : Acj := .cons .normal Apg (.nil)
@[reducible] def Bf5 (R : Type) : Type := Int → Int → Int → d0 → d0 → d0 → (List UInt8) → d4 → d3 → d1 → Int → Int → d0 → Int → Int → Int → (Int → d0 → d0 → d0 → (List UInt8) → d4 → d3 → d1 → Int → Int → d0 → Option R) → Option R
@[reducible] def Agn : Type 1 := {R : Type} → Nat → Bf5 R
noncomputable def Aq1 (Ab6 : Aje) (Aa1 : Ahg) (Ab7 : Ajf) : Agn := fun {R} N x0 x1 x2 x3 x4 x5 x6 x7 x8 x9 x10 x11 x12 x13 x14 x15 K0 =>
    if (((0 : Int) ≤ x0) ∧ (x0 < (len x3))) then (let v0 := (List.getD x3 (Int.toNat x0) (0 : Int)); let v1 := (wi (x13 + (wi ((32 : Int) * v0)))); if ((((List.length x12) + (List.length ((IntKind.wrap .u8 v1) :: ([] : List Int)))) * (1 : Nat)) ≤ (70368744177664 : Nat)) then (if (((0 : Int) ≤ x0) ∧ (x0 < (len x3))) then (Ab6 N v0 (fun y0 => Aa1 N x1 y0 (fun y1 => if ((((List.length (x12 ++ ((IntKind.wrap .u8 v1) :: ([] : List Int)))) + (List.length y1)) * (1 : Nat)) ≤ (70368744177664 : Nat)) then (Ab7 N x13 (fun y2 => Aa1 N x2 y2 (fun y3 => if ((((List.length ((x12 ++ ((IntKind.wrap .u8 v1) :: ([] : List Int))) ++ y1)) + (List.length y3)) * (1 : Nat)) ≤ (70368744177664 : Nat)) then (K0 x0 x3 x4 x5 x6 x7 x8 x9 x10 x11 ((((x12 ++ ((IntKind.wrap .u8 v1) :: ([] : List Int))) ++ y1) ++ y3))) else none))) else none))) else none) else none) else none
noncomputable def Abb : Agn := @Aq1 @Ab6 @Aa1 @Ab7
noncomputable def Ak1 (Abb : Agn) (N : Nat) : Aap Aff := fun R x K => Abb N x.1.2.2.2.1 x.1.2.2.2.2.2.1 x.1.2.2.2.2.2.2.1 x.2.2.1 x.2.2.2.1 x.2.2.2.2.1 x.2.2.2.2.2.1.1 x.2.2.2.2.2.1.2.1 x.2.2.2.2.2.1.2.2.1 x.2.2.2.2.2.1.2.2.2.1 x.2.2.2.2.2.1.2.2.2.2.1 x.2.2.2.2.2.1.2.2.2.2.2.1 x.2.2.2.2.2.2.1 x.2.2.2.2.2.2.2.1.1 x.2.2.2.2.2.2.2.1.2.1 x.2.2.2.2.2.2.2.1.2.2.1 (fun y0 y1 y2 y3 y4 y5 y6 y7 y8 y9 y10 => K .normal (Aab Apg (((), (), (), y0, ()), (((), (), (), ()), y1, y2, y3, (y4, y5, y6, y7, y8, y9, ()), y10, ()))))
noncomputable def A0o (N : Nat) : Aap Aff := Ak1 @Abb N
noncomputable def Afg : Aac := ⟨[(1, .one (.ptr 0)), (2, .one (.ptr 32)), (5, .one (.slf 33)), (6, .one (.val (.int .i64))), (7, .one (.ptr 34)), (8, .one (.val (.int .i64))), (9, .one (.val (.int .i64)))], [(0, .cells 85 [(.slf 1), (.slf 2), (.slf 3)]), (1, .row 3 (.int .i64)), (2, .row 3 (.int .i64)), (3, .row 3 (.int .i64)), (32, .cells 34 [(.val .str), (.val z2), (.val z3), (.val z1), (.val (.int .i64)), (.val (.int .i64))]), (33, .row 5 (.int .u8)), (34, .cells 24 [(.val (.int .i64)), (.val (.int .i64)), (.val (.int .i64))])]⟩
noncomputable def Aph : Aac := ⟨[(1, .one (.ptr 0)), (2, .one (.ptr 32)), (5, .one (.slf 33)), (6, .one (.val (.int .i64)))], [(0, .cells 85 [(.slf 1), (.slf 2), (.slf 3)]), (1, .row 3 (.int .i64)), (2, .row 3 (.int .i64)), (3, .row 3 (.int .i64)), (32, .cells 34 [(.val .str), (.val z2), (.val z3), (.val z1), (.val (.int .i64)), (.val (.int .i64))]), (33, .row 5 (.int .u8))]⟩
noncomputable def A0p : Acj := .cons .normal Aph (.nil)
@[reducible] def Bf6 (R : Type) : Type := Int → Int → Int → d0 → d0 → d0 → (List UInt8) → d4 → d3 → d1 → Int → Int → d0 → Int → Int → Int → (Int → d0 → d0 → d0 → (List UInt8) → d4 → d3 → d1 → Int → Int → d0 → Option R) → Option R
@[reducible] def Ago : Type 1 := {R : Type} → Nat → Bf6 R
noncomputable def Aq2 (Aaj : Acu) (Abb : Agn) : Ago := fun {R} N x0 x1 x2 x3 x4 x5 x6 x7 x8 x9 x10 x11 x12 x13 x14 x15 K0 =>
    if ((x13 == (30 : Int)) = true) then (Aaj N x0 x15 x3 x4 x5 (fun y0 y1 y2 y3 => Abb N x0 x1 y0 y1 y2 y3 x6 x7 x8 x9 x10 x11 x12 x13 x14 x15 (fun y4 y5 y6 y7 y8 y9 y10 y11 y12 y13 y14 => K0 y4 y5 y6 y7 y8 y9 y10 y11 y12 y13 y14))) else (Abb N x0 x1 x2 x3 x4 x5 x6 x7 x8 x9 x10 x11 x12 x13 x14 x15 (fun y15 y16 y17 y18 y19 y20 y21 y22 y23 y24 y25 => K0 y15 y16 y17 y18 y19 y20 y21 y22 y23 y24 y25))
noncomputable def Abc : Ago := @Aq2 @Aaj @Abb
noncomputable def Ak2 (Abc : Ago) (N : Nat) : Aap Afg := fun R x K => Abc N x.1.2.2.2.1 x.1.2.2.2.2.2.1 x.1.2.2.2.2.2.2.1 x.2.2.1 x.2.2.2.1 x.2.2.2.2.1 x.2.2.2.2.2.1.1 x.2.2.2.2.2.1.2.1 x.2.2.2.2.2.1.2.2.1 x.2.2.2.2.2.1.2.2.2.1 x.2.2.2.2.2.1.2.2.2.2.1 x.2.2.2.2.2.1.2.2.2.2.2.1 x.2.2.2.2.2.2.1 x.2.2.2.2.2.2.2.1.1 x.2.2.2.2.2.2.2.1.2.1 x.2.2.2.2.2.2.2.1.2.2.1 (fun y0 y1 y2 y3 y4 y5 y6 y7 y8 y9 y10 => K .normal (Aab Aph (((), (), (), y0, ()), (((), (), (), ()), y1, y2, y3, (y4, y5, y6, y7, y8, y9, ()), y10, ()))))
noncomputable def A0q (N : Nat) : Aap Afg := Ak2 @Abc N
noncomputable def Aes : Aac := ⟨[(1, .one (.ptr 0)), (2, .one (.ptr 32)), (5, .one (.slf 33)), (6, .one (.val (.int .i64)))], [(0, .cells 85 [(.slf 1), (.slf 2), (.slf 3)]), (1, .row 3 (.int .i64)), (2, .row 3 (.int .i64)), (3, .row 3 (.int .i64)), (32, .cells 34 [(.val .str), (.val z2), (.val z3), (.val z1), (.val (.int .i64)), (.val (.int .i64))]), (33, .row 5 (.int .u8))]⟩
noncomputable def Aml : Aac := ⟨[(5, .one (.slf 32))], [(0, .cells 85 [(.slf 1), (.slf 2), (.slf 3)]), (1, .row 3 (.int .i64)), (2, .row 3 (.int .i64)), (3, .row 3 (.int .i64)), (32, .row 5 (.int .u8))]⟩
noncomputable def A1m : Acj := .cons (.exit 0) Aml (.nil)
@[reducible] def Asr (R : Type) : Type := Int → d0 → d0 → d0 → (List UInt8) → d4 → d3 → d1 → Int → Int → d0 → (d0 → d0 → d0 → d0 → Option R) → Option R
@[reducible] def A1n (R : Type) : Type := Int → d0 → d0 → d0 → (List UInt8) → d4 → d3 → d1 → Int → Int → d0 → Option R
@[reducible] def Ajg : Type 1 := {R : Type} → Nat → Nat → Asr R
noncomputable def Ass (Abh : Ahf) (Aaj : Acu) (Abc : Ago) {R : Type} (N : Nat) (rc : A1n R) : Asr R := fun x0 x1 x2 x3 x4 x5 x6 x7 x8 x9 x10 K0 =>
    if ((decide ((x0 < (len x6)))) = true) then (if (((0 : Int) ≤ x0) ∧ (x0 < (len x6))) then (let v0 := (List.getD x6 (Int.toNat x0) ((0 : Int), ((0 : Int), (0 : Int)))).1; let v1 := (List.getD x6 (Int.toNat x0) ((0 : Int), ((0 : Int), (0 : Int)))).2.1; let v2 := (List.getD x6 (Int.toNat x0) ((0 : Int), ((0 : Int), (0 : Int)))).2.2; if ((v0 == (19 : Int)) = true) then (rc ((wi (x0 + (1 : Int)))) x1 x2 x3 x4 x5 x6 x7 x8 x9 x10) else (Abh N v0 (fun y0 => if (y0 = true) then (Aaj N x0 v1 x1 x2 x3 (fun y1 y2 y3 y4 => Abc N x0 y1 v2 y2 y3 y4 x4 x5 x6 x7 x8 x9 x10 v0 v1 v2 (fun y5 y6 y7 y8 y9 y10 y11 y12 y13 y14 y15 => rc ((wi (y5 + (1 : Int)))) y6 y7 y8 y9 y10 y11 y12 y13 y14 y15))) else (Abc N x0 v1 v2 x1 x2 x3 x4 x5 x6 x7 x8 x9 x10 v0 v1 v2 (fun y16 y17 y18 y19 y20 y21 y22 y23 y24 y25 y26 => rc ((wi (y16 + (1 : Int)))) y17 y18 y19 y20 y21 y22 y23 y24 y25 y26))))) else none) else (K0 x1 x2 x3 x10)
noncomputable def Aa7 {R : Type} (N : Nat) : Nat → Asr R
  | 0 => fun _ _ _ _ _ _ _ _ _ _ _ _ => none
  | k + 1 => fun x0 x1 x2 x3 x4 x5 x6 x7 x8 x9 x10 K0 => Ass @Abh @Aaj @Abc N (fun x0 x1 x2 x3 x4 x5 x6 x7 x8 x9 x10 => Aa7 N k x0 x1 x2 x3 x4 x5 x6 x7 x8 x9 x10 K0) x0 x1 x2 x3 x4 x5 x6 x7 x8 x9 x10 K0
noncomputable def Ald (Aa7 : Ajg) (N k : Nat) : Aap Aes := fun R x K => Aa7 N k x.1.2.2.2.1 x.2.2.1 x.2.2.2.1 x.2.2.2.2.1 x.2.2.2.2.2.1.1 x.2.2.2.2.2.1.2.1 x.2.2.2.2.2.1.2.2.1 x.2.2.2.2.2.1.2.2.2.1 x.2.2.2.2.2.1.2.2.2.2.1 x.2.2.2.2.2.1.2.2.2.2.2.1 x.2.2.2.2.2.2.1 (fun y0 y1 y2 y3 => K (.exit 0) (Aab Aml (((), ()), (((), (), (), ()), y0, y1, y2, y3, ()))))
noncomputable def Ast (N k : Nat) : Aap Aes := Ald @Aa7 N k
noncomputable def Avx : Aac := ⟨[(0, .agg [(.val .str), (.val z2), (.val z3), (.val z1), (.val (.int .i64)), (.val (.int .i64))]), (1, .one (.ptr 0))], [(0, .cells 85 [(.slf 1), (.slf 2), (.slf 3)]), (1, .row 3 (.int .i64)), (2, .row 3 (.int .i64)), (3, .row 3 (.int .i64))]⟩
noncomputable def An3 : Aac := ⟨[(0, .one (.slf 32))], [(0, .cells 85 [(.slf 1), (.slf 2), (.slf 3)]), (1, .row 3 (.int .i64)), (2, .row 3 (.int .i64)), (3, .row 3 (.int .i64)), (32, .row 5 (.int .u8))]⟩
@[reducible] def Bll (R : Type) : Type := (List UInt8) → d4 → d3 → d1 → Int → Int → d0 → d0 → d0 → (d0 → d0 → d0 → d0 → Option R) → Option R
@[reducible] def Ah1 : Type 1 := {R : Type} → Nat → Bll R
noncomputable def Avy (Aa7 : Ajg) : Ah1 := fun {R} N x0 x1 x2 x3 x4 x5 x6 x7 x8 K0 =>
    Aa7 N N 0 x6 x7 x8 x0 x1 x2 x3 x4 x5 (([] : List Int)) (fun y0 y1 y2 y3 => K0 y0 y1 y2 y3)
noncomputable def Abm : Ah1 := @Avy @Aa7
noncomputable def Car (N : Nat) : Abl Avx [An3] := fun R x C => Abm N x.1.1.1 x.1.1.2.1 x.1.1.2.2.1 x.1.1.2.2.2.1 x.1.1.2.2.2.2.1 x.1.1.2.2.2.2.2.1 x.2.2.1 x.2.2.2.1 x.2.2.2.2.1 (fun y0 y1 y2 y3 => C.1 (((), ()), (((), (), (), ()), y0, y1, y2, y3, ())))
noncomputable def Amm (Abm : Ah1) (N : Nat) : Go.AX.Aai := Ack [true, false] (List.replicate 32 true) true 2 4 Avx [An3] (fun R x C => Abm N x.1.1.1 x.1.1.2.1 x.1.1.2.2.1 x.1.1.2.2.2.1 x.1.1.2.2.2.2.1 x.1.1.2.2.2.2.2.1 x.2.2.1 x.2.2.2.1 x.2.2.2.2.1 (fun y0 y1 y2 y3 => C.1 (((), ()), (((), (), (), ()), y0, y1, y2, y3, ()))))
noncomputable def A56 (N : Nat) : Go.AX.Aai := Amm @Abm N
noncomputable def Cas (N : Nat) : List (Nat × Acn) := [(24, Aaa Aff (A0o N)), (20, Aaa Afg (A0q N)), (7, Aaa Aes (Ast N N))]
noncomputable def Blm (N : Nat) : List (Nat × Go.AX.Aai) := [(58, Bio N), (70, At6 N), (39, A78 N), (50, Bit N), (40, A8a N)]
noncomputable def Asu : Code := Go.Proofs.Try.f32.body.getD .skip
noncomputable def Ali : Aac := ⟨[(0, .one (.val (.list (.int .u8)))), (3, .one (.val (.int .i64))), (4, .one (.val (.int .i64)))], []⟩
noncomputable def Ax4 : Aac := ⟨[(3, .one (.val (.int .i64)))], []⟩
noncomputable def Bm8 : Acj := .cons (.exit 0) Ax4 (.nil)
@[reducible] def Bb0 (R : Type) : Type := d0 → Int → Int → (Int → Option R) → Option R
@[reducible] def Bm9 (R : Type) : Type := d0 → Int → Int → Option R
@[reducible] def A17 : Type 1 := {R : Type} → Nat → Nat → Bb0 R
noncomputable def Bb1 {R : Type} (N : Nat) (rc : Bm9 R) : Bb0 R := fun x0 x1 x2 K0 =>
    if ((decide ((x2 < (len x0)))) = true) then (let v0 := (wi (x2 + (1 : Int))); if (((0 : Int) ≤ x2) ∧ (x2 < (len x0))) then (rc x0 ((Bn7 .i64 (wi (x1 + (wi (v0 * (wi (List.getD x0 (Int.toNat x2) (0 : Int))))))) (4294967295 : Int))) v0) else none) else (K0 x1)
noncomputable def Agz {R : Type} (N : Nat) : Nat → Bb0 R
  | 0 => fun _ _ _ _ => none
  | k + 1 => fun x0 x1 x2 K0 => Bb1 N (fun x0 x1 x2 => Agz N k x0 x1 x2 K0) x0 x1 x2 K0
noncomputable def Bb2 (Agz : A17) (N k : Nat) : Aap Ali := fun R x K => Agz N k x.1.1 x.1.2.1 x.1.2.2.1 (fun y0 => K (.exit 0) (Aab Ax4 ((y0, ()), (()))))
noncomputable def Bb3 (N k : Nat) : Aap Ali := Bb2 @Agz N k
noncomputable def Biu : Aac := ⟨[(0, .one (.val (.list (.int .u8))))], []⟩
noncomputable def A18 : Aac := ⟨[(0, .one (.val (.int .i64)))], []⟩
@[reducible] def B8u (R : Type) : Type := d0 → (Int → Option R) → Option R
@[reducible] def Apn : Type 1 := {R : Type} → Nat → B8u R
noncomputable def Biv (Agz : A17) : Apn := fun {R} N x0 K0 =>
    Agz N N x0 0 0 (fun y0 => K0 y0)
noncomputable def Afj : Apn := @Biv @Agz
noncomputable def Cih (N : Nat) : Abl Biu [A18] := fun R x C => Afj N x.1.1 (fun y0 => C.1 ((y0, ()), (())))
noncomputable def A1o (Afj : Apn) (N : Nat) : Go.AX.Aai := Ack [true] [] false 1 0 Biu [A18] (fun R x C => Afj N x.1.1 (fun y0 => C.1 ((y0, ()), (()))))
noncomputable def Btc (N : Nat) : Go.AX.Aai := A1o @Afj N
noncomputable def Cii (N : Nat) : List (Nat × Acn) := [(7, Aaa Ali (Bb3 N N))]
noncomputable def B8v (N : Nat) : List (Nat × Go.AX.Aai) := []
noncomputable def Bfv : Aac := ⟨[(0, .agg [(.val .str), (.val z2), (.val z3), (.val z1), (.val (.int .i64)), (.val (.int .i64))])], []⟩
noncomputable def A0j : Aac := ⟨[(0, .one (.slf 32)), (1, .one (.val (.int .i64)))], [(32, .row 5 (.int .u8))]⟩
@[reducible] def B69 (R : Type) : Type := (List UInt8) → d4 → d3 → d1 → Int → Int → (Int → d0 → Option R) → Option R
@[reducible] def Azq : Type 1 := {R : Type} → Nat → B69 R
noncomputable def Bfw (Ad6 : Am2) (Aa1 : Ahg) (Ac8 : Aos) (Ac9 : Aot) (Abm : Ah1) (Afj : Apn) : Azq := fun {R} N x0 x1 x2 x3 x4 x5 K0 =>
    Ad6 N x0 x1 x2 x3 x4 x5 (fun y0 => if ((y0 != (0 : Int)) = true) then (K0 y0 (([] : List Int))) else (if ((((List.length ((98 : Int) :: ((98 : Int) :: ((1 : Int) :: ((IntKind.wrap .u8 (len x0)) :: ([] : List Int)))))) + (List.length (List.map (fun b : UInt8 => (((UInt8.toNat b) : Nat) : Int)) x0))) * (1 : Nat)) ≤ (70368744177664 : Nat)) then (Aa1 N ((len x1)) 2 (fun y1 => if ((((List.length ((98 : Int) :: ((98 : Int) :: ((1 : Int) :: ((IntKind.wrap .u8 (len x0)) :: (List.append ([] : List Int) (List.map (fun b : UInt8 => (((UInt8.toNat b) : Nat) : Int)) x0))))))) + (List.length y1)) * (1 : Nat)) ≤ (70368744177664 : Nat)) then none else none)) else none)) (fun y2 y3 y4 y5 => if ((y2 != (0 : Int)) = true) then (K0 y2 (([] : List Int))) else (if ((((List.length ((98 : Int) :: ((98 : Int) :: ((1 : Int) :: ((IntKind.wrap .u8 (len x0)) :: ([] : List Int)))))) + (List.length (List.map (fun b : UInt8 => (((UInt8.toNat b) : Nat) : Int)) x0))) * (1 : Nat)) ≤ (70368744177664 : Nat)) then (let v0 := (List.append ([] : List Int) (List.map (fun b : UInt8 => (((UInt8.toNat b) : Nat) : Int)) x0)); Aa1 N ((len x1)) 2 (fun y6 => if ((((List.length ((98 : Int) :: ((98 : Int) :: ((1 : Int) :: ((IntKind.wrap .u8 (len x0)) :: v0))))) + (List.length y6)) * (1 : Nat)) ≤ (70368744177664 : Nat)) then (Ac8 N N 0 x0 x1 x2 x3 x4 x5 (((98 : Int) :: ((98 : Int) :: ((1 : Int) :: ((IntKind.wrap .u8 (len x0)) :: (List.append v0 y6)))))) y3 y4 y5 (fun y7 y8 y9 y10 y11 y12 y13 y14 y15 y16 => if ((((List.length y13) + (List.length ((IntKind.wrap .u8 (len y10)) :: ([] : List Int)))) * (1 : Nat)) ≤ (70368744177664 : Nat)) then (Ac9 N N 0 y7 y8 y9 y10 y11 y12 ((y13 ++ ((IntKind.wrap .u8 (len y10)) :: ([] : List Int)))) y14 y15 y16 (fun y17 y18 y19 y20 y21 y22 y23 y24 y25 y26 => Abm N y17 y18 y19 y20 y21 y22 y24 y25 y26 (fun y27 y28 y29 y30 => Aa1 N ((len y30)) 4 (fun y31 => if ((((List.length y23) + (List.length y31)) * (1 : Nat)) ≤ (70368744177664 : Nat)) then (if ((((List.length (y23 ++ y31)) + (List.length y30)) * (1 : Nat)) ≤ (70368744177664 : Nat)) then (Afj N (((y23 ++ y31) ++ y30)) (fun y32 => Aa1 N y32 4 (fun y33 => if ((((List.length ((y23 ++ y31) ++ y30)) + (List.length y33)) * (1 : Nat)) ≤ (70368744177664 : Nat)) then (K0 0 ((((y23 ++ y31) ++ y30) ++ y33))) else none))) else none) else none)))) else none)) else none)) else none))
noncomputable def Aky : Azq := @Bfw @Ad6 @Aa1 @Ac8 @Ac9 @Abm @Afj
noncomputable def Chx (N : Nat) : Abl Bfv [A0j] := fun R x C => Aky N x.1.1.1 x.1.1.2.1 x.1.1.2.2.1 x.1.1.2.2.2.1 x.1.1.2.2.2.2.1 x.1.1.2.2.2.2.2.1 (fun y0 y1 => C.1 (((), y0, ()), (y1, ())))
noncomputable def Bpm (Aky : Azq) (N : Nat) : Go.AX.Aai := Ack [true] [] false 1 0 Bfv [A0j] (fun R x C => Aky N x.1.1.1 x.1.1.2.1 x.1.1.2.2.1 x.1.1.2.2.2.1 x.1.1.2.2.2.2.1 x.1.1.2.2.2.2.2.1 (fun y0 y1 => C.1 (((), y0, ()), (y1, ()))))
noncomputable def Bpn (N : Nat) : Go.AX.Aai := Bpm @Aky N
noncomputable def Chy (N : Nat) : List (Nat × Acn) := [(33, Aaa Ahy (A5z N N)), (17, Aaa Ahz (A52 N N)), (43, Aaa Ah0 (A55 N N))]
noncomputable def B7a (N : Nat) : List (Nat × Go.AX.Aai) := [(49, Bm5 N), (50, Bit N), (51, A56 N), (32, Btc N)]
noncomputable def Amn : Code := Go.Proofs.Try.f18.body.getD .skip
noncomputable def Ah8 : Aac := ⟨[(0, .one (.val (.list (.int .u8)))), (1, .one (.val (.list (.int .u8)))), (5, .one (.val (.int .i64)))], []⟩
noncomputable def Aqx : Aac := ⟨[(4, .one (.val .bool))], []⟩
noncomputable def Aqy : Aac := ⟨[], []⟩
noncomputable def Bcn : Acj := .cons .ret Aqx (.cons (.exit 0) Aqy (.nil))
@[reducible] def A1c (R : Type) : Type := d0 → d0 → Int → (Bool → Option R) → (Option R) → Option R
@[reducible] def Bco (R : Type) : Type := d0 → d0 → Int → Option R
@[reducible] def Atn : Type 1 := {R : Type} → Nat → Nat → A1c R
noncomputable def A1d {R : Type} (N : Nat) (rc : Bco R) : A1c R := fun x0 x1 x2 K0 K1 =>
    if ((decide ((x2 < (len x0)))) = true) then (if (((0 : Int) ≤ x2) ∧ (x2 < (len x0))) then (if (((0 : Int) ≤ x2) ∧ (x2 < (len x1))) then (if (((List.getD x0 (Int.toNat x2) (0 : Int)) != (List.getD x1 (Int.toNat x2) (0 : Int))) = true) then (K0 false) else (rc x0 x1 ((wi (x2 + (1 : Int)))))) else none) else none) else K1
noncomputable def Aek {R : Type} (N : Nat) : Nat → A1c R
  | 0 => fun _ _ _ _ _ => none
  | k + 1 => fun x0 x1 x2 K0 K1 => A1d N (fun x0 x1 x2 => Aek N k x0 x1 x2 K0 K1) x0 x1 x2 K0 K1
noncomputable def A1e (Aek : Atn) (N k : Nat) : Aap Ah8 := fun R x K => Aek N k x.1.1 x.1.2.1 x.1.2.2.1 (fun y0 => K .ret (Aab Aqx ((y0, ()), (())))) (K (.exit 0) (Aab Aqy ((()), (()))))
noncomputable def A1f (N k : Nat) : Aap Ah8 := A1e @Aek N k
noncomputable def A57 : Aac := ⟨[(0, .one (.val (.list (.int .u8)))), (1, .one (.val (.list (.int .u8))))], []⟩
noncomputable def Ato : Aac := ⟨[(0, .one (.val .bool))], []⟩
@[reducible] def Bxd (R : Type) : Type := d0 → d0 → (Bool → Option R) → Option R
@[reducible] def Ask : Type 1 := {R : Type} → Nat → Bxd R
noncomputable def A58 (Aek : Atn) : Ask := fun {R} N x0 x1 K0 =>
    if (((len x0) != (len x1)) = true) then (K0 false) else (Aek N N x0 x1 0 (fun y0 => K0 y0) (K0 true))
noncomputable def Ahm : Ask := @A58 @Aek
noncomputable def Ce4 (N : Nat) : Abl A57 [Ato] := fun R x C => Ahm N x.1.1 x.1.2.1 (fun y0 => C.1 ((y0, ()), (())))
noncomputable def Bhm (Ahm : Ask) (N : Nat) : Go.AX.Aai := Ack [true, true] [] false 2 0 A57 [Ato] (fun R x C => Ahm N x.1.1 x.1.2.1 (fun y0 => C.1 ((y0, ()), (()))))
noncomputable def Bhn (N : Nat) : Go.AX.Aai := Bhm @Ahm N
noncomputable def Ce5 (N : Nat) : List (Nat × Acn) := [(9, Aaa Ah8 (A1f N N))]
noncomputable def Bxe (N : Nat) : List (Nat × Go.AX.Aai) := []
noncomputable def Azr : Aac := ⟨[(0, .agg [.val .str, .val z2, .val z3, .val z1, .val (.int .i64), .val (.int .i64)])], []⟩
noncomputable def Api : Aac := ⟨[(0, .one (.val .bool))], []⟩
@[reducible] def Bpo (R : Type) : Type := (List UInt8) → d4 → d3 → d1 → Int → Int → (Bool → Option R) → Option R
@[reducible] def Azs : Type 1 := {R : Type} → Nat → Bpo R
noncomputable def Azt (Ai5 : Av1) (Ai6 : Av2) (Al0 : A1k) (Aky : Azq) (Ahm : Ask) : Azs := fun {R} N x0 x1 x2 x3 x4 x5 K0 =>
    Ai5 N x0 x1 x2 x3 x4 x5 (fun y0 => if (y0 = true) then (Ai6 N (fun y1 => K0 y1)) else (Al0 N x0 x1 x2 x3 x4 x5 (fun y2 y3 => Aky N x0 x1 x2 x3 x4 x5 (fun y4 y5 => Ahm N y3 y5 (fun y6 => if (y6 = true) then (if ((y2 == y4) = true) then (Ai6 N (fun y7 => K0 y7)) else (K0 false)) else (K0 false))))))
noncomputable def Anv : Azs := @Azt @Ai5 @Ai6 @Al0 @Aky @Ahm
noncomputable def Cb9 (N : Nat) : Abl Azr [Api] := fun R x C => Anv N x.1.1.1 x.1.1.2.1 x.1.1.2.2.1 x.1.1.2.2.2.1 x.1.1.2.2.2.2.1 x.1.1.2.2.2.2.2.1 (fun y0 => C.1 ((y0, ()), (())))
noncomputable def Bpp (Anv : Azs) (N : Nat) : Go.AX.Aai := Ack [true] [] false 1 0 Azr [Api] (fun R x C => Anv N x.1.1.1 x.1.1.2.1 x.1.1.2.2.1 x.1.1.2.2.2.1 x.1.1.2.2.2.2.1 x.1.1.2.2.2.2.2.1 (fun y0 => C.1 ((y0, ()), (()))))
noncomputable def A9r (N : Nat) : Go.AX.Aai := Bpp @Anv N
noncomputable def Cca (N : Nat) : List (Nat × Acn) := []
noncomputable def Bpq (N : Nat) : List (Nat × Go.AX.Aai) := [(15, Bl6 N), (14, Bma N), (16, Bs7 N), (17, Bpn N), (18, Bhn N)]
end
end Q

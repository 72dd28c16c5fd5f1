/- Part D2 of the proof. -/
import Derived.Test.YtjdklngopfpjgaaGreatDoorD1
open Go Go.AX Go.Proofs
namespace Q
noncomputable section
set_option maxRecDepth 100000
set_option linter.unusedVariables false
def A9e (Ab6 : Al2) (Abo : Alf) (Abi : Alg) : Ap6 := fun {R} N e f a g h d c => let b := (wi (d + 1)); if ((0 ≤ b) ∧ ((b ≤ b) ∧ ((b * 8) ≤ 70368744177664))) then (if ((0 ≤ (len a)) ∧ (((len a) ≤ (len a)) ∧ (((len a) * 8) ≤ 70368744177664))) then (Ab6 N N 0 e f a g h d ([] : List Int) ([] : List Int) (List.replicate (Int.toNat b) 0) (List.replicate (Int.toNat (len a)) 0) fun i j l m n o p q r s => Abo N N 0 0 i j l m n o p q r s (fun t u v => c t u v) fun w x y z A B C D E F => Abi N N 0 w x y z A B C D E F (fun G H I => c G H I) fun M O J L => c true J L) else none) else none
def Af3 : Ap6 := @A9e @Ab6 @Abo @Abi
def Cp5 (N : Nat) : Abs A9d [Avz] := fun R x C => Af3 N x.1.1.1 x.1.1.2.1 x.1.1.2.2.1 x.1.1.2.2.2.1 x.1.1.2.2.2.2.1 x.1.1.2.2.2.2.2.1 (fun y0 y1 y2 => C.1 ((((), (), ()), y0, ()), (y1, y2, ())))
def A9f (Af3 : Ap6) (N : Nat) : Go.AX.Aaj := Ac6 [true] [] false 1 0 A9d [Avz] (fun R x C => Af3 N x.1.1.1 x.1.1.2.1 x.1.1.2.2.1 x.1.1.2.2.2.1 x.1.1.2.2.2.2.1 x.1.1.2.2.2.2.2.1 (fun y0 y1 y2 => C.1 ((((), (), ()), y0, ()), (y1, y2, ()))))
def Bmu (N : Nat) : Go.AX.Aaj := A9f @Af3 N
def Cp6 (N : Nat) : List (Nat × Ac0) := [(7, Aaa Agf (A4x N N)), (24, Aaa Ahh (Bdy N)), (17, Aaa Afq (A1v N N)), (37, Aaa Afr (A1y N N))]
def B5a (N : Nat) : List (Nat × Go.AX.Aaj) := [(174, Bcy N)]
def Aqm : Code := Tryz.f111.body.getD .skip
def Ajf : Code := Tryz.f175.body.getD .skip
def Ai2 : Aac := ⟨[Alp, A1j, Axb, (43, .one (.val .bool))], A2l⟩
def Az2 : Aac := ⟨Ci6, []⟩
def Az3 : Aac := ⟨Ci7, []⟩
def Bg4 : Acn := .cons .ret Az2 (.cons .normal Az3 (.nil))
abbrev Bxd (R : Type) := Int->Int->Bool->Int->Int->Int->(Int->Option R)->(Int->Option R)->Option R
abbrev Al4 := {R : Type} → Nat → Bxd R
def Adh : Al4 := fun {R} N b c d h e f a g => if (d = true) then (a (wi (e + 1))) else if ((c == 24) = true) then (a (wi (2 + f))) else g b
def Aqn (Adh : Al4) (N : Nat) : Aan Ai2 := fun R x K => Adh N x.1.1 x.1.2.2.1 x.1.2.2.2.1 x.2.1.1 x.2.1.2.1 x.2.1.2.2.1 (fun y0 => K .ret (Aab Az2 ((y0, ()), (())))) (fun y0 => K .normal (Aab Az3 ((y0, ()), (()))))
def Bg5 (N : Nat) : Aan Ai2 := Aqn @Adh N
def Ai3 : Aac := ⟨[Alp, A1j, Axb, (18, .one (.val .bool))], A2l⟩
def Az4 : Aac := ⟨Ci6, []⟩
def Az5 : Aac := ⟨Ci7, []⟩
def Bg6 : Acn := .cons .ret Az4 (.cons .normal Az5 (.nil))
abbrev Bxe (R : Type) := Int->Int->Bool->Int->Int->Int->(Int->Option R)->(Int->Option R)->Option R
abbrev Akq := {R : Type} → Nat → Bxe R
def A4z (Adh : Al4) : Akq := fun {R} N c a h e d f b g => if (h = true) then (b (wi (c - 1))) else if ((a == 13) = true) then (b (wi (c - 2))) else if ((a == 15) = true) then (b (wi (c - 3))) else if ((a == 18) = true) then (b d) else if ((a == 23) = true) then (Adh N c a (a == 23) e d f (fun i => b i) fun j => g j) else Adh N c a (a == 28) e d f (fun l => b l) fun m => g m
def Abp : Akq := @A4z @Adh
def Aqo (Abp : Akq) (N : Nat) : Aan Ai3 := fun R x K => Abp N x.1.1 x.1.2.2.1 x.1.2.2.2.1 x.2.1.1 x.2.1.2.1 x.2.1.2.2.1 (fun y0 => K .ret (Aab Az4 ((y0, ()), (())))) (fun y0 => K .normal (Aab Az5 ((y0, ()), (()))))
def Bg7 (N : Nat) : Aan Ai3 := Aqo @Abp N
def Ai4 : Aac := ⟨[Alp, A1j, Axb, Bn7], A2l⟩
def Az6 : Aac := ⟨Ci6, []⟩
def Az7 : Aac := ⟨Ci7, []⟩
def Bg8 : Acn := .cons .ret Az6 (.cons .normal Az7 (.nil))
abbrev Bxf (R : Type) := Int->Int->Bool->Int->Int->Int->(Int->Option R)->(Int->Option R)->Option R
abbrev Akr := {R : Type} → Nat → Bxf R
def A40 (Abp : Akq) : Akr := fun {R} N b a h d e f c g => if (h = true) then (c (wi (b + 1))) else if ((a == 3) = true) then (Abp N b a (a == 3) d e f (fun i => c i) fun j => g j) else if ((a == 6) = true) then (Abp N b a (a == 6) d e f (fun l => c l) fun m => g m) else if ((a == 9) = true) then (Abp N b a (a == 9) d e f (fun n => c n) fun o => g o) else if ((a == 16) = true) then (Abp N b a (a == 16) d e f (fun p => c p) fun q => g q) else if ((a == 14) = true) then (Abp N b a (a == 14) d e f (fun r => c r) fun s => g s) else if ((a == 21) = true) then (Abp N b a (a == 21) d e f (fun t => c t) fun u => g u) else if ((a == 22) = true) then (Abp N b a (a == 22) d e f (fun v => c v) fun w => g w) else if ((a == 29) = true) then (Abp N b a (a == 29) d e f (fun x => c x) fun y => g y) else if ((a == 25) = true) then (Abp N b a (a == 25) d e f (fun z => c z) fun A => g A) else Abp N b a (a == 27) d e f (fun B => c B) fun C => g C
def Ab7 : Akr := @A40 @Abp
def Aqp (Ab7 : Akr) (N : Nat) : Aan Ai4 := fun R x K => Ab7 N x.1.1 x.1.2.2.1 x.1.2.2.2.1 x.2.1.1 x.2.1.2.1 x.2.1.2.2.1 (fun y0 => K .ret (Aab Az6 ((y0, ()), (())))) (fun y0 => K .normal (Aab Az7 ((y0, ()), (()))))
def Bg9 (N : Nat) : Aan Ai4 := Aqp @Ab7 N
def Bcz : Aac := ⟨[B4n, Alp], []⟩
def Ayj : Aac := ⟨Ay6, []⟩
abbrev B9p (R : Type) := Int->Int->Int->Int->(Int->Option R)->Option R
abbrev Arc := {R : Type} → Nat → B9p R
def Bc0 (Ab7 : Akr) : Arc := fun {R} N a c d e b => if ((a == 1) = true) then (Ab7 N e a (a == 1) a c d (fun f => b f) fun g => b g) else if ((a == 2) = true) then (Ab7 N e a (a == 2) a c d (fun h => b h) fun i => b i) else if ((a == 4) = true) then (Ab7 N e a (a == 4) a c d (fun j => b j) fun l => b l) else if ((a == 5) = true) then (Ab7 N e a (a == 5) a c d (fun m => b m) fun n => b n) else if ((a == 7) = true) then (Ab7 N e a (a == 7) a c d (fun o => b o) fun p => b p) else if ((a == 8) = true) then (Ab7 N e a (a == 8) a c d (fun q => b q) fun r => b r) else if ((a == 10) = true) then (Ab7 N e a (a == 10) a c d (fun s => b s) fun t => b t) else Ab7 N e a (a == 11) a c d (fun u => b u) fun v => b v
def Af7 : Arc := @Bc0 @Ab7
def Cq9 (N : Nat) : Abs Bcz [Ayj] := fun R x C => Af7 N x.1.1.1 x.1.1.2.1 x.1.1.2.2.1 x.1.2.1 (fun y0 => C.1 ((y0, ()), (())))
def Bc1 (Af7 : Arc) (N : Nat) : Go.AX.Aaj := Ac6 [true, true] [] false 2 0 Bcz [Ayj] (fun R x C => Af7 N x.1.1.1 x.1.1.2.1 x.1.1.2.2.1 x.1.2.1 (fun y0 => C.1 ((y0, ()), (()))))
def Bpg (N : Nat) : Go.AX.Aaj := Bc1 @Af7 N
def Cra (N : Nat) : List (Nat × Ac0) := [(60, Aaa Ai2 (Bg5 N)), (42, Aaa Ai3 (Bg7 N)), (20, Aaa Ai4 (Bg9 N))]
def B9q (N : Nat) : List (Nat × Go.AX.Aaj) := []
def Am7 : Code := Tryz.f176.body.getD .skip
def Aks : Aac := ⟨[A1m, (16, .one (.val .bool))], []⟩
def Az8 : Aac := ⟨Bbo, []⟩
def Az9 : Aac := ⟨[], []⟩
def Bha : Acn := .cons .ret Az8 (.cons .normal Az9 (.nil))
abbrev Bxg (R : Type) := Int->Bool->(Int->Option R)->(Option R)->Option R
abbrev An2 := {R : Type} → Nat → Bxg R
def Adw : An2 := fun {R} N b c a d => if (c = true) then (a 2) else if ((b == 15) = true) then (a 3) else d
def Av0 (Adw : An2) (N : Nat) : Aan Aks := fun R x K => Adw N x.1.1 x.1.2.1 (fun y0 => K .ret (Aab Az8 ((y0, ()), (())))) (K .normal (Aab Az9 ((()), (()))))
def Bhb (N : Nat) : Aan Aks := Av0 @Adw N
def Akt : Aac := ⟨[A1m, Cdw], []⟩
def A0a : Aac := ⟨Bbo, []⟩
def A0b : Aac := ⟨[], []⟩
def Bhc : Acn := .cons .ret A0a (.cons .normal A0b (.nil))
abbrev Bxh (R : Type) := Int->Bool->(Int->Option R)->(Option R)->Option R
abbrev Al5 := {R : Type} → Nat → Bxh R
def A41 (Adw : An2) : Al5 := fun {R} N a d b c => if (d = true) then (b 1) else if ((a == 16) = true) then (Adw N a (a == 16) (fun e => b e) c) else if ((a == 14) = true) then (Adw N a (a == 14) (fun f => b f) c) else Adw N a (a == 13) (fun g => b g) c
def Acd : Al5 := @A41 @Adw
def Av1 (Acd : Al5) (N : Nat) : Aan Akt := fun R x K => Acd N x.1.1 x.1.2.1 (fun y0 => K .ret (Aab A0a ((y0, ()), (())))) (K .normal (Aab A0b ((()), (()))))
def Bhd (N : Nat) : Aan Akt := Av1 @Acd N
def Bc2 : Aac := ⟨Cbt, []⟩
def Ayk : Aac := ⟨Ay6, []⟩
abbrev B9r (R : Type) := Int->Int->Int->(Int->Option R)->Option R
abbrev Ard := {R : Type} → Nat → B9r R
def Bc3 (Acd : Al5) : Ard := fun {R} N a n o b => if ((a == 3) = true) then (Acd N a (a == 3) (fun c => b c) (b 0)) else if ((a == 6) = true) then (Acd N a (a == 6) (fun d => b d) (b 0)) else if ((a == 9) = true) then (Acd N a (a == 9) (fun e => b e) (b 0)) else if ((a == 12) = true) then (Acd N a (a == 12) (fun f => b f) (b 0)) else if ((a == 17) = true) then (Acd N a (a == 17) (fun g => b g) (b 0)) else if ((a == 21) = true) then (Acd N a (a == 21) (fun h => b h) (b 0)) else if ((a == 22) = true) then (Acd N a (a == 22) (fun i => b i) (b 0)) else if ((a == 29) = true) then (Acd N a (a == 29) (fun j => b j) (b 0)) else if ((a == 25) = true) then (Acd N a (a == 25) (fun l => b l) (b 0)) else Acd N a (a == 27) (fun m => b m) (b 0)
def Afe : Ard := @Bc3 @Acd
def Crb (N : Nat) : Abs Bc2 [Ayk] := fun R x C => Afe N x.1.1.1 x.1.1.2.1 x.1.1.2.2.1 (fun y0 => C.1 ((y0, ()), (())))
def Bc4 (Afe : Ard) (N : Nat) : Go.AX.Aaj := Ac6 [true] [] false 1 0 Bc2 [Ayk] (fun R x C => Afe N x.1.1.1 x.1.1.2.1 x.1.1.2.2.1 (fun y0 => C.1 ((y0, ()), (()))))
def Bph (N : Nat) : Go.AX.Aaj := Bc4 @Afe N
def Crc (N : Nat) : List (Nat × Ac0) := [(32, Aaa Aks (Bhb N)), (24, Aaa Akt (Bhd N))]
def B9s (N : Nat) : List (Nat × Go.AX.Aaj) := []
def Awr : Code := Tryz.f177.body.getD .skip
def Amx : Aac := ⟨[Alp, A1j, Axb, Bn7], A2l⟩
def A1z : Aac := ⟨Ay5, []⟩
def A10 : Aac := ⟨[], []⟩
def Bjn : Acn := .cons .ret A1z (.cons .normal A10 (.nil))
abbrev B1x (R : Type) := Int->Int->Bool->Int->Int->Int->(Bool->Option R)->(Option R)->Option R
abbrev Aox := {R : Type} → Nat → B1x R
def A7j (Aap : Aed) : Aox := fun {R} N c d e i a j b f => if (e = true) then (Aap N a 2 (wi (c - 1)) fun g => b g) else if ((d == 4) = true) then (b (decide (a ≥ 2))) else if ((d == 23) = true) then (Aap N a 2 (wi (c - 3)) fun h => b h) else if ((d == 18) = true) then (b (decide (a ≤ (wi ((wi (c + 2000)) + 2))))) else f
def Agg : Aox := @A7j @Aap
def A7k (Agg : Aox) (N : Nat) : Aan Amx := fun R x K => Agg N x.1.1 x.1.2.2.1 x.1.2.2.2.1 x.2.1.1 x.2.1.2.1 x.2.1.2.2.1 (fun y0 => K .ret (Aab A1z ((y0, ()), (())))) (K .normal (Aab A10 ((()), (()))))
def Bjo (N : Nat) : Aan Amx := A7k @Agg N
def Bc5 : Aac := ⟨[B4n, Alp], []⟩
def Ayl : Aac := ⟨Aip, []⟩
abbrev B9t (R : Type) := Int->Int->Int->Int->(Bool->Option R)->Option R
abbrev Are := {R : Type} → Nat → B9t R
def Bc6 (Agg : Aox) : Are := fun {R} N a c d e b => if ((a == 2) = true) then (Agg N e a (a == 2) a c d (fun f => b f) (b true)) else Agg N e a (a == 3) a c d (fun g => b g) (b true)
def Aff : Are := @Bc6 @Agg
def Crd (N : Nat) : Abs Bc5 [Ayl] := fun R x C => Aff N x.1.1.1 x.1.1.2.1 x.1.1.2.2.1 x.1.2.1 (fun y0 => C.1 ((y0, ()), (())))
def Bc7 (Aff : Are) (N : Nat) : Go.AX.Aaj := Ac6 [true, true] [] false 2 0 Bc5 [Ayl] (fun R x C => Aff N x.1.1.1 x.1.1.2.1 x.1.1.2.2.1 x.1.2.1 (fun y0 => C.1 ((y0, ()), (()))))
def Bpi (N : Nat) : Go.AX.Aaj := Bc7 @Aff N
def Cre (N : Nat) : List (Nat × Ac0) := [(8, Aaa Amx (Bjo N))]
def B9u (N : Nat) : List (Nat × Go.AX.Aaj) := [(172, A7b N)]
def Apg : Code := Tryz.f178.body.getD .skip
def Aj5 : Aac := ⟨B4k, []⟩
def At2 : Aac := ⟨B4k, []⟩
def Bjp : Acn := .cons (.exit 0) At2 (.nil)
abbrev A7l (R : Type) := d2->Int->(d2->Int->Option R)->Option R
abbrev Bjq (R : Type) := d2->Int->Option R
abbrev Aym := {R : Type} → Nat → Nat → A7l R
def A7m {R : Type} (N : Nat) (rc : Bjq R) : A7l R := fun b a c => if ((decide (a < (len b))) = true) then (if (0 ≤ a ∧ a < len b) then (if (((b.getD a.toNat (0, (0, 0))).1 == 19) = true) then (rc b (wi (a + 1))) else c b a) else none) else c b a
def Ae8 {R : Type} (N : Nat) : Nat → A7l R
 | 0 => fun _ _ _ => none
 | k + 1 => fun a b c => A7m N (fun a b => Ae8 N k a b c) a b c
def A7n (Ae8 : Aym) (N k : Nat) : Aan Aj5 := fun R x K => Ae8 N k x.1.1 x.1.2.1 (fun y0 y1 => K (.exit 0) (Aab At2 ((y0, y1, ()), (()))))
def A7o (N k : Nat) : Aan Aj5 := A7n @Ae8 N k
def Bc8 : Aac := ⟨B4k, []⟩
def Ayn : Aac := ⟨Aip, []⟩
abbrev B9v (R : Type) := d2->Int->(Bool->Option R)->Option R
abbrev Arf := {R : Type} → Nat → B9v R
def Bc9 (Ae8 : Aym) : Arf := fun {R} N d e c => Ae8 N N d e fun b a => if ((decide (a < (len b))) = true) then (if (0 ≤ a ∧ a < len b) then (c ((b.getD a.toNat (0, (0, 0))).1 == 28)) else none) else c false
def Aen : Arf := @Bc9 @Ae8
def Crf (N : Nat) : Abs Bc8 [Ayn] := fun R x C => Aen N x.1.1 x.1.2.1 (fun y0 => C.1 ((y0, ()), (())))
def Bda (Aen : Arf) (N : Nat) : Go.AX.Aaj := Ac6 [true, true] [] false 2 0 Bc8 [Ayn] (fun R x C => Aen N x.1.1 x.1.2.1 (fun y0 => C.1 ((y0, ()), (()))))
def Bpj (N : Nat) : Go.AX.Aaj := Bda @Aen N
def Crg (N : Nat) : List (Nat × Ac0) := [(3, Aaa Aj5 (A7o N N))]
def B9w (N : Nat) : List (Nat × Go.AX.Aaj) := []
def Ala : Aac := ⟨[A1j, Bko, Bbn, Cnq, Brr], [A51, (33, .cells 130 [Bw2, Bw2])]⟩
def Av2 : Aac := ⟨Ay5, []⟩
def Av3 : Aac := ⟨[], []⟩
def Bmv : Acn := .cons .ret Av2 (.cons (.exit 0) Av3 (.nil))
abbrev A9g (R : Type) := Int->Bool->Int->(List UInt8)->d3->d2->d1->Int->Int->d0->d0->(Bool->Option R)->(Option R)->Option R
abbrev An3 (R : Type) := Int->Bool->Int->(List UInt8)->d3->d2->d1->Int->Int->d0->d0->Option R
abbrev A1d := {R : Type} → Nat → Nat → A9g R
def A9h (Af7 : Arc) (Afe : Ard) (Aap : Aed) (Aff : Are) (Aa8 : Aid) (Aen : Arf) (Aay : Ajt) {R : Type} (N : Nat) (rc : An3 R) : A9g R := fun q o d f g b h i j c l p y => if ((decide (d < (len b))) = true) then (if (0 ≤ d ∧ d < len b) then (let a := (b.getD d.toNat (0, (0, 0))).1; let n := (b.getD d.toNat (0, (0, 0))).2.1; let m := (b.getD d.toNat (0, (0, 0))).2.2; if ((a == 24) = true) then (rc (wi (2 + m)) true (wi (d + 1)) f g b h i j c l) else Af7 N a n m q fun e => if ((a == 18) = true) then (let x := (wi (d - 1)); if (0 ≤ x ∧ x < len b) then (Afe N a n m fun z => if ((decide ((wi (q - z)) < 2)) = true) then (p false) else Aap N e 2 4000 fun A => if ((!A) = true) then (p false) else if ((!((b.getD x.toNat (0, (0, 0))).1 == 19)) = true) then (Aff N a n m q fun B => if ((!B) = true) then (p false) else if ((a == 28) = true) then (if (o = true) then (p false) else Aa8 N a n m fun r => if ((decide (r > 0)) = true) then (if (0 ≤ r ∧ r < len c) then (Aen N b (c.getD r.toNat 0) fun C => if ((!(C == (a == 27))) = true) then (p false) else if ((a != 19) = true) then (Aay N a n m fun D => rc e D (wi (d + 1)) f g b h i j c l) else rc e o (wi (d + 1)) f g b h i j c l) else none) else if ((a != 19) = true) then (Aay N a n m fun E => rc e E (wi (d + 1)) f g b h i j c l) else rc e o (wi (d + 1)) f g b h i j c l) else Aa8 N a n m fun s => if ((decide (s > 0)) = true) then (if (0 ≤ s ∧ s < len c) then (Aen N b (c.getD s.toNat 0) fun F => if ((!(F == (a == 27))) = true) then (p false) else if ((a != 19) = true) then (Aay N a n m fun G => rc e G (wi (d + 1)) f g b h i j c l) else rc e o (wi (d + 1)) f g b h i j c l) else none) else if ((a != 19) = true) then (Aay N a n m fun H => rc e H (wi (d + 1)) f g b h i j c l) else rc e o (wi (d + 1)) f g b h i j c l) else if ((a == 28) = true) then (if (o = true) then (p false) else Aa8 N a n m fun t => if ((decide (t > 0)) = true) then (if (0 ≤ t ∧ t < len c) then (Aen N b (c.getD t.toNat 0) fun I => if ((!(I == (a == 27))) = true) then (p false) else if ((a != 19) = true) then (Aay N a n m fun J => rc e J (wi (d + 1)) f g b h i j c l) else rc e o (wi (d + 1)) f g b h i j c l) else none) else if ((a != 19) = true) then (Aay N a n m fun L => rc e L (wi (d + 1)) f g b h i j c l) else rc e o (wi (d + 1)) f g b h i j c l) else Aa8 N a n m fun u => if ((decide (u > 0)) = true) then (if (0 ≤ u ∧ u < len c) then (Aen N b (c.getD u.toNat 0) fun M => if ((!(M == (a == 27))) = true) then (p false) else if ((a != 19) = true) then (Aay N a n m fun O => rc e O (wi (d + 1)) f g b h i j c l) else rc e o (wi (d + 1)) f g b h i j c l) else none) else if ((a != 19) = true) then (Aay N a n m fun P => rc e P (wi (d + 1)) f g b h i j c l) else rc e o (wi (d + 1)) f g b h i j c l) else none) else Afe N a n m fun Q => if ((decide ((wi (q - Q)) < 2)) = true) then (p false) else Aap N e 2 4000 fun S => if ((!S) = true) then (p false) else Aff N a n m q fun T => if ((!T) = true) then (p false) else if ((a == 28) = true) then (if (o = true) then (p false) else Aa8 N a n m fun v => if ((decide (v > 0)) = true) then (if (0 ≤ v ∧ v < len c) then (Aen N b (c.getD v.toNat 0) fun U => if ((!(U == (a == 27))) = true) then (p false) else if ((a != 19) = true) then (Aay N a n m fun V => rc e V (wi (d + 1)) f g b h i j c l) else rc e o (wi (d + 1)) f g b h i j c l) else none) else if ((a != 19) = true) then (Aay N a n m fun W => rc e W (wi (d + 1)) f g b h i j c l) else rc e o (wi (d + 1)) f g b h i j c l) else Aa8 N a n m fun w => if ((decide (w > 0)) = true) then (if (0 ≤ w ∧ w < len c) then (Aen N b (c.getD w.toNat 0) fun X => if ((!(X == (a == 27))) = true) then (p false) else if ((a != 19) = true) then (Aay N a n m fun Y => rc e Y (wi (d + 1)) f g b h i j c l) else rc e o (wi (d + 1)) f g b h i j c l) else none) else if ((a != 19) = true) then (Aay N a n m fun Z => rc e Z (wi (d + 1)) f g b h i j c l) else rc e o (wi (d + 1)) f g b h i j c l) else none) else y
def Ae5 {R : Type} (N : Nat) : Nat → A9g R
 | 0 => fun _ _ _ _ _ _ _ _ _ _ _ _ _ => none
 | k + 1 => fun a b c d e f g h i j l m n => A9h @Af7 @Afe @Aap @Aff @Aa8 @Aen @Aay N (fun a b c d e f g h i j l => Ae5 N k a b c d e f g h i j l m n) a b c d e f g h i j l m n
def A9i (Ae5 : A1d) (N k : Nat) : Aan Ala := fun R x K => Ae5 N k x.1.2.2.1 x.1.2.2.2.1 x.1.2.2.2.2.1 x.2.1.1 x.2.1.2.1 x.2.1.2.2.1 x.2.1.2.2.2.1 x.2.1.2.2.2.2.1 x.2.1.2.2.2.2.2.1 x.2.2.1.1 x.2.2.1.2.1 (fun y0 => K .ret (Aab Av2 ((y0, ()), (())))) (K (.exit 0) (Aab Av3 ((()), (()))))
def A9j (N k : Nat) : Aan Ala := A9i @Ae5 N k
def Bhe : Aac := ⟨[Cjh, (1, .agg [Bw2, Bw2])], []⟩
def A1e : Aac := ⟨Aip, []⟩
abbrev Ced (R : Type) := (List UInt8)->d3->d2->d1->Int->Int->d0->d0->(Bool->Option R)->Option R
abbrev Aum := {R : Type} → Nat → Ced R
def Bhf (Ae5 : A1d) : Aum := fun {R} N b c d e f g h i a => Ae5 N N 0 false 0 b c d e f g h i (fun j => a j) (a true)
def Aib : Aum := @Bhf @Ae5
def Csr (N : Nat) : Abs Bhe [A1e] := fun R x C => Aib N x.1.1.1 x.1.1.2.1 x.1.1.2.2.1 x.1.1.2.2.2.1 x.1.1.2.2.2.2.1 x.1.1.2.2.2.2.2.1 x.1.2.1.1 x.1.2.1.2.1 (fun y0 => C.1 ((y0, ()), (())))
def Bhg (Aib : Aum) (N : Nat) : Go.AX.Aaj := Ac6 [true, true] [] false 2 0 Bhe [A1e] (fun R x C => Aib N x.1.1.1 x.1.1.2.1 x.1.1.2.2.1 x.1.1.2.2.2.1 x.1.1.2.2.2.2.1 x.1.1.2.2.2.2.2.1 x.1.2.1.1 x.1.2.1.2.1 (fun y0 => C.1 ((y0, ()), (()))))
def Br3 (N : Nat) : Go.AX.Aaj := Bhg @Aib N
def Css (N : Nat) : List (Nat × Ac0) := [(7, Aaa Ala (A9j N N))]
def Cee (N : Nat) : List (Nat × Go.AX.Aaj) := [(175, Bpg N), (176, Bph N), (172, A7b N), (177, Bpi N), (174, Bcy N), (178, Bpj N), (173, A9c N)]
def Bdb : Aac := ⟨A50, []⟩
def Ayo : Aac := ⟨Ay6, []⟩
abbrev B9x (R : Type) := (List UInt8)->d3->d2->d1->Int->Int->(Int->Option R)->Option R
abbrev Arg := {R : Type} → Nat → B9x R
def Bdc (Afp : Aot) (Ahg : Ara) (Aew : Avw) (Ags : Arb) (Af3 : Ap6) (Aib : Aum) : Arg := fun {R} N d e f g b c a => Afp N d e f g b c fun o => if (o = true) then (a 2) else if ((decide (b < 0)) = true) then (a 60) else if ((decide (c < 0)) = true) then (a 60) else Ahg N d e f g b c fun p => if ((!p) = true) then (a 60) else Aew N N 0 d e f g b c (fun q => a q) fun h i j l m n => Ags N h i j l m n fun r => if ((!r) = true) then (a 60) else Af3 N h i j l m n fun s t u => if ((!s) = true) then (a 60) else Aib N h i j l m n t u fun v => if ((!v) = true) then (a 61) else a 0
def Agt : Arg := @Bdc @Afp @Ahg @Aew @Ags @Af3 @Aib
def Crh (N : Nat) : Abs Bdb [Ayo] := fun R x C => Agt N x.1.1.1 x.1.1.2.1 x.1.1.2.2.1 x.1.1.2.2.2.1 x.1.1.2.2.2.2.1 x.1.1.2.2.2.2.2.1 (fun y0 => C.1 ((y0, ()), (())))
def Bdd (Agt : Arg) (N : Nat) : Go.AX.Aaj := Ac6 [true] [] false 1 0 Bdb [Ayo] (fun R x C => Agt N x.1.1.1 x.1.1.2.1 x.1.1.2.2.1 x.1.1.2.2.2.1 x.1.1.2.2.2.2.1 x.1.1.2.2.2.2.2.1 (fun y0 => C.1 ((y0, ()), (()))))
def Bpk (N : Nat) : Go.AX.Aaj := Bdd @Agt N
def Cri (N : Nat) : List (Nat × Ac0) := [(13, Aaa Aiz (A4t N N))]
def B9y (N : Nat) : List (Nat × Go.AX.Aaj) := [(106, Bjf N), (107, Bpe N), (108, Bjk N), (109, Bpf N), (110, Bmu N), (111, Br3 N)]
def Bde : Aac := ⟨B4m, []⟩
def Ayp : Aac := ⟨Ay6, []⟩
abbrev B9z (R : Type) := (List UInt8)->d3->d1->d2->d4->(Int->Option R)->Option R
abbrev Am8 := {R : Type} → Nat → B9z R
def Bdf (Aei : Avi) (Agt : Arg) : Am8 := fun {R} N c d e a f b => if ((decide ((len f) > 32000)) = true) then (b 2) else if ((decide ((len a) > 200)) = true) then (b 2) else Aei N N 0 c d e a f c d e (len a) 0 ([] : List (Int × Int × Int)) fun g h i j l m => Agt N g h m i j l fun n => b n
def Aes : Am8 := @Bdf @Aei @Agt
def Crj (N : Nat) : Abs Bde [Ayp] := fun R x C => Aes N x.1.1.1 x.1.1.2.1 x.1.1.2.2.1 x.1.1.2.2.2.1 x.1.1.2.2.2.2.1 (fun y0 => C.1 ((y0, ()), (())))
def Aws (Aes : Am8) (N : Nat) : Go.AX.Aaj := Ac6 [true] [] false 1 0 Bde [Ayp] (fun R x C => Aes N x.1.1.1 x.1.1.2.1 x.1.1.2.2.1 x.1.1.2.2.2.1 x.1.1.2.2.2.2.1 (fun y0 => C.1 ((y0, ()), (()))))
def Bpl (N : Nat) : Go.AX.Aaj := Aws @Aes N
def Crk (N : Nat) : List (Nat × Ac0) := [(11, Aaa Aiy (A4j N N))]
def B90 (N : Nat) : List (Nat × Go.AX.Aaj) := [(67, Bpk N)]
def Ag0 : Code := Tryz.f79.body.getD .skip
def Bhh : Code := Tryz.f133.body.getD .skip
def B1y : Code := Tryz.f81.body.getD .skip
def Bob : Aac := ⟨Cbv, []⟩
def A7p : Aac := ⟨Aip, []⟩
abbrev Cjv (R : Type) := Int->Int->Int->(Bool->Option R)->Option R
abbrev Ag9 := {R : Type} → Nat → Cjv R
def Aa3 : Ag9 := fun {R} N a c d b => if ((decide (a ≥ c)) = true) then (b (decide (a ≤ d))) else b false
def Cjw (N : Nat) : Abs Bob [A7p] := fun R x C => Aa3 N x.1.1 x.1.2.1 x.1.2.2.1 (fun y0 => C.1 ((y0, ()), (())))
def Alu (Aa3 : Ag9) (N : Nat) : Go.AX.Aaj := Ac6 [true, true, true] [] false 3 0 Bob [A7p] (fun R x C => Aa3 N x.1.1 x.1.2.1 x.1.2.2.1 (fun y0 => C.1 ((y0, ()), (()))))
def A7q (N : Nat) : Go.AX.Aaj := Alu @Aa3 N
def Cjx (N : Nat) : List (Nat × Ac0) := []
def B1z (N : Nat) : List (Nat × Go.AX.Aaj) := []
def Bwb : Code := Tryz.f134.body.getD .skip
def Afn : Code := Tryz.f102.body.getD .skip
def B10 : Code := Tryz.f61.body.getD .skip
def Boc : Aac := ⟨Cbv, []⟩
def A7r : Aac := ⟨Aip, []⟩
abbrev Cjy (R : Type) := Int->Int->Int->(Bool->Option R)->Option R
abbrev Alv := {R : Type} → Nat → Cjy R
def Acl : Alv := fun {R} N a c d b => if ((decide (a ≥ c)) = true) then (b (decide (a ≤ d))) else b false
def Cjz (N : Nat) : Abs Boc [A7r] := fun R x C => Acl N x.1.1 x.1.2.1 x.1.2.2.1 (fun y0 => C.1 ((y0, ()), (())))
def A1f (Acl : Alv) (N : Nat) : Go.AX.Aaj := Ac6 [true, true, true] [] false 3 0 Boc [A7r] (fun R x C => Acl N x.1.1 x.1.2.1 x.1.2.2.1 (fun y0 => C.1 ((y0, ()), (()))))
def B11 (N : Nat) : Go.AX.Aaj := A1f @Acl N
def Cj0 (N : Nat) : List (Nat × Ac0) := []
def B12 (N : Nat) : List (Nat × Go.AX.Aaj) := []
def Agu : Aac := ⟨[A3a, wq5, Ci4, (28, .one (.val .bool))], Axn⟩
def Av4 : Aac := ⟨Brq, []⟩
def Av5 : Aac := ⟨Bbo, []⟩
def Ba0 : Acn := .cons .ret Av4 (.cons .normal Av5 (.nil))
abbrev Br4 (R : Type) := Int->Int->Bool->(List UInt8)->d3->d1->d2->d4->(Bool->Option R)->(Int->Option R)->Option R
abbrev Ahs := {R : Type} → Nat → Br4 R
def A0c (Acl : Alv) : Ahs := fun {R} N a c d l e m f n b g => if (d = true) then (Acl N a 0 (wi ((len e) - 1)) fun h => b h) else if ((c == 7) = true) then (Acl N a 1 (len f) fun i => b i) else if ((c == 8) = true) then (Acl N a 0 4000 fun j => b j) else g a
def Abw : Ahs := @A0c @Acl
def Amf (Abw : Ahs) (N : Nat) : Aan Agu := fun R x K => Abw N x.1.1 x.1.2.2.1 x.1.2.2.2.1 x.2.1.1 x.2.1.2.1 x.2.1.2.2.1 x.2.1.2.2.2.1 x.2.1.2.2.2.2.1 (fun y0 => K .ret (Aab Av4 ((y0, ()), (())))) (fun y0 => K .normal (Aab Av5 ((y0, ()), (()))))
def Ba1 (N : Nat) : Aan Agu := Amf @Abw N
def Agv : Aac := ⟨[A3a, wq5, Ci4, (23, .one (.val .bool))], Axn⟩
def Av6 : Aac := ⟨Brq, []⟩
def Av7 : Aac := ⟨Bbo, []⟩
def Ba2 : Acn := .cons .ret Av6 (.cons .normal Av7 (.nil))
abbrev Br5 (R : Type) := Int->Int->Bool->(List UInt8)->d3->d1->d2->d4->(Bool->Option R)->(Int->Option R)->Option R
abbrev Aht := {R : Type} → Nat → Br5 R
def A0d (Acl : Alv) (Abw : Ahs) : Aht := fun {R} N b a j d e f g h c i => if (j = true) then (Acl N b 0 199 fun l => c l) else if ((a == 3) = true) then (Abw N b a (a == 3) d e f g h (fun m => c m) fun n => i n) else Abw N b a (a == 6) d e f g h (fun o => c o) fun p => i p
def Abx : Aht := @A0d @Acl @Abw
def Amg (Abx : Aht) (N : Nat) : Aan Agv := fun R x K => Abx N x.1.1 x.1.2.2.1 x.1.2.2.2.1 x.2.1.1 x.2.1.2.1 x.2.1.2.2.1 x.2.1.2.2.2.1 x.2.1.2.2.2.2.1 (fun y0 => K .ret (Aab Av6 ((y0, ()), (())))) (fun y0 => K .normal (Aab Av7 ((y0, ()), (()))))
def Ba3 (N : Nat) : Aan Agv := Amg @Abx N
def Agw : Aac := ⟨[A3a, wq5, Ci4, (18, .one (.val .bool))], Axn⟩
def Av8 : Aac := ⟨Brq, []⟩
def Av9 : Aac := ⟨Bbo, []⟩
def Ba4 : Acn := .cons .ret Av8 (.cons .normal Av9 (.nil))
abbrev Br6 (R : Type) := Int->Int->Bool->(List UInt8)->d3->d1->d2->d4->(Bool->Option R)->(Int->Option R)->Option R
abbrev Ahu := {R : Type} → Nat → Br6 R
def A0e (Acl : Alv) (Abx : Aht) : Ahu := fun {R} N b a j d e f g h c i => if (j = true) then (Acl N b 0 4000 fun l => c l) else if ((a == 2) = true) then (Abx N b a (a == 2) d e f g h (fun m => c m) fun n => i n) else Abx N b a (a == 5) d e f g h (fun o => c o) fun p => i p
def Aby : Ahu := @A0e @Acl @Abx
def Amh (Aby : Ahu) (N : Nat) : Aan Agw := fun R x K => Aby N x.1.1 x.1.2.2.1 x.1.2.2.2.1 x.2.1.1 x.2.1.2.1 x.2.1.2.2.1 x.2.1.2.2.2.1 x.2.1.2.2.2.2.1 (fun y0 => K .ret (Aab Av8 ((y0, ()), (())))) (fun y0 => K .normal (Aab Av9 ((y0, ()), (()))))
def Ba5 (N : Nat) : Aan Agw := Amh @Aby N
def Agx : Aac := ⟨Bbo, []⟩
def Awa : Aac := ⟨Brq, []⟩
def Ba6 : Acn := .cons .ret Awa (.nil)
abbrev Br7 (R : Type) := Int->(Bool->Option R)->Option R
abbrev Ahv := {R : Type} → Nat → Br7 R
def A0f (Acl : Alv) : Ahv := fun {R} N a b => Acl N a 0 199 fun c => b c
def Abz : Ahv := @A0f @Acl
def Ami (Abz : Ahv) (N : Nat) : Aan Agx := fun R x K => Abz N x.1.1 (fun y0 => K .ret (Aab Awa ((y0, ()), (()))))
def Ba7 (N : Nat) : Aan Agx := Ami @Abz N
def A7s : Aac := ⟨[Bw4, Alp, A3a, A1l], []⟩
def At3 : Aac := ⟨Aip, []⟩
abbrev B13 (R : Type) := (List UInt8)->d3->d1->d2->d4->Int->Int->Int->(Bool->Option R)->Option R
abbrev Asr := {R : Type} → Nat → B13 R
def A7t (Acl : Alv) (Aby : Ahu) (Abz : Ahv) : Asr := fun {R} N d e f g h a c i b => Acl N a 0 i fun j => if ((!j) = true) then (b false) else if ((a == 0) = true) then (Acl N c (-2147483648) 2147483647 fun l => b l) else if ((a == 1) = true) then (Aby N c a (a == 1) d e f g h (fun m => b m) fun n => Abz N n fun o => b o) else Aby N c a (a == 4) d e f g h (fun p => b p) fun q => Abz N q fun r => b r
def Aie : Asr := @A7t @Acl @Aby @Abz
def Co4 (N : Nat) : Abs A7s [At3] := fun R x C => Aie N x.1.1.1 x.1.1.2.1 x.1.1.2.2.1 x.1.1.2.2.2.1 x.1.1.2.2.2.2.1 x.1.2.1 x.1.2.2.1 x.1.2.2.2.1 (fun y0 => C.1 ((y0, ()), (())))
def Bjr (Aie : Asr) (N : Nat) : Go.AX.Aaj := Ac6 [true, true, true, true] [] false 4 0 A7s [At3] (fun R x C => Aie N x.1.1.1 x.1.1.2.1 x.1.1.2.2.1 x.1.1.2.2.2.1 x.1.1.2.2.2.2.1 x.1.2.1 x.1.2.2.1 x.1.2.2.2.1 (fun y0 => C.1 ((y0, ()), (()))))
def Bjs (N : Nat) : Go.AX.Aaj := Bjr @Aie N
def Co5 (N : Nat) : List (Nat × Ac0) := [(28, Aaa Agu (Ba1 N)), (22, Aaa Agv (Ba3 N)), (16, Aaa Agw (Ba5 N)), (38, Aaa Agx (Ba7 N))]
def B14 (N : Nat) : List (Nat × Go.AX.Aaj) := [(61, B11 N)]
def Bk6 : Aac := ⟨Cbx, []⟩
def A2x : Aac := ⟨Aip, []⟩
abbrev Cf2 (R : Type) := (List UInt8)->d3->d1->d2->d4->Int->Int->(Bool->Option R)->Option R
abbrev Aio := {R : Type} → Nat → Cf2 R
def Bk7 (Aie : Asr) : Aio := fun {R} N a b c d e f g h => Aie N a b c d e f g 9 fun i => h i
def Abd : Aio := @Bk7 @Aie
def Cti (N : Nat) : Abs Bk6 [A2x] := fun R x C => Abd N x.1.1.1 x.1.1.2.1 x.1.1.2.2.1 x.1.1.2.2.2.1 x.1.1.2.2.2.2.1 x.1.2.1 x.1.2.2.1 (fun y0 => C.1 ((y0, ()), (())))
def As7 (Abd : Aio) (N : Nat) : Go.AX.Aaj := Ac6 [true, true, true] [] false 3 0 Bk6 [A2x] (fun R x C => Abd N x.1.1.1 x.1.1.2.1 x.1.1.2.2.1 x.1.1.2.2.2.1 x.1.1.2.2.2.2.1 x.1.2.1 x.1.2.2.1 (fun y0 => C.1 ((y0, ()), (()))))
def Bk8 (N : Nat) : Go.AX.Aaj := As7 @Abd N
def Ctj (N : Nat) : List (Nat × Ac0) := []
def Cf3 (N : Nat) : List (Nat × Go.AX.Aaj) := [(102, Bjs N)]
def A42 : Aac := ⟨Cbx, []⟩
def Ass : Aac := ⟨Aip, []⟩
abbrev Bxi (R : Type) := (List UInt8)->d3->d1->d2->d4->Int->Int->(Bool->Option R)->Option R
abbrev Ahz := {R : Type} → Nat → Bxi R
def A43 (Aa3 : Ag9) (Abd : Aio) : Ahz := fun {R} N c d e f g a h b => Aa3 N a 1 3 fun i => if (i = true) then (Abd N c d e f g a h fun j => b j) else Aa3 N a 8 9 fun l => if (l = true) then (Abd N c d e f g a h fun m => b m) else b false
def Abe : Ahz := @A43 @Aa3 @Abd
def Cn6 (N : Nat) : Abs A42 [Ass] := fun R x C => Abe N x.1.1.1 x.1.1.2.1 x.1.1.2.2.1 x.1.1.2.2.2.1 x.1.1.2.2.2.2.1 x.1.2.1 x.1.2.2.1 (fun y0 => C.1 ((y0, ()), (())))
def An4 (Abe : Ahz) (N : Nat) : Go.AX.Aaj := Ac6 [true, true, true] [] false 3 0 A42 [Ass] (fun R x C => Abe N x.1.1.1 x.1.1.2.1 x.1.1.2.2.1 x.1.1.2.2.2.1 x.1.1.2.2.2.2.1 x.1.2.1 x.1.2.2.1 (fun y0 => C.1 ((y0, ()), (()))))
def Bhi (N : Nat) : Go.AX.Aaj := An4 @Abe N
def Cn7 (N : Nat) : List (Nat × Ac0) := []
def Bxj (N : Nat) : List (Nat × Go.AX.Aaj) := [(81, A7q N), (134, Bk8 N)]
def Bpm : Code := Tryz.f135.body.getD .skip
def Bdg : Aac := ⟨[Bw4, Alp], []⟩
def Ayq : Aac := ⟨Aip, []⟩
abbrev B91 (R : Type) := (List UInt8)->d3->d1->d2->d4->Int->(Bool->Option R)->Option R
abbrev Akx := {R : Type} → Nat → B91 R
def Bdh (Aa3 : Ag9) : Akx := fun {R} N f g h i b a c => Aa3 N a 0 (wi ((len b) - 1)) fun e => if (e = true) then (if (0 ≤ a ∧ a < len b) then (let d := (b.getD a.toNat (0, (0, (0, (0, 0))))).1; if ((d != 13) = true) then (if (0 ≤ a ∧ a < len b) then (c (d != 6)) else none) else c false) else none) else c false
def Acs : Akx := @Bdh @Aa3
def Crl (N : Nat) : Abs Bdg [Ayq] := fun R x C => Acs N x.1.1.1 x.1.1.2.1 x.1.1.2.2.1 x.1.1.2.2.2.1 x.1.1.2.2.2.2.1 x.1.2.1 (fun y0 => C.1 ((y0, ()), (())))
def Arh (Acs : Akx) (N : Nat) : Go.AX.Aaj := Ac6 [true, true] [] false 2 0 Bdg [Ayq] (fun R x C => Acs N x.1.1.1 x.1.1.2.1 x.1.1.2.2.1 x.1.1.2.2.2.1 x.1.1.2.2.2.2.1 x.1.2.1 (fun y0 => C.1 ((y0, ()), (()))))
def Bpn (N : Nat) : Go.AX.Aaj := Arh @Acs N
def Crm (N : Nat) : List (Nat × Ac0) := []
def B92 (N : Nat) : List (Nat × Go.AX.Aaj) := [(81, A7q N)]
def Ah0 : Aac := ⟨[A1j, Bko, Axb, (81, .one (.val .bool))], Beh⟩
def A0g : Aac := ⟨Ay5, []⟩
def A0h : Aac := ⟨Ci8, Beh⟩
def Bhj : Acn := .cons .ret A0g (.cons .normal A0h (.nil))
abbrev Bxk (R : Type) := Int->Bool->(List UInt8)->d3->d1->d2->d4->Int->Int->Int->Int->Int->(Bool->Option R)->((List UInt8)->d3->d1->d2->d4->Int->Int->Int->Int->Int->Option R)->Option R
abbrev Ai5 := {R : Type} → Nat → Bxk R
def A44 (Acs : Akx) (Abd : Aio) (Aa3 : Ag9) : Ai5 := fun {R} N l m b c d e f n g h i j a o => if (m = true) then (if ((g == 0) = true) then (Acs N b c d e f h fun p => if (p = true) then (Abd N b c d e f i j fun q => a q) else a false) else a false) else if ((l == 10) = true) then (if ((g == 0) = true) then (Aa3 N h 0 4000 fun r => if (r = true) then (Abd N b c d e f i j fun s => a s) else a false) else a false) else if ((l == 11) = true) then (if ((g == 0) = true) then (if ((h == 0) = true) then (Abd N b c d e f i j fun t => a t) else a false) else a false) else if ((l == 12) = true) then (Aa3 N g 0 1000 fun u => if (u = true) then (Acs N b c d e f h fun v => if (v = true) then (Abd N b c d e f i j fun w => a w) else a false) else a false) else if ((l == 13) = true) then (Aa3 N g (-2147483648) 2147483647 fun x => if (x = true) then (Acs N b c d e f h fun y => if (y = true) then (if ((i == 0) = true) then (a (j == 0)) else a false) else a false) else a false) else o b c d e f n g h i j
def Acw : Ai5 := @A44 @Acs @Abd @Aa3
def An5 (Acw : Ai5) (N : Nat) : Aan Ah0 := fun R x K => Acw N x.1.2.2.1 x.1.2.2.2.1 x.2.1.1 x.2.1.2.1 x.2.1.2.2.1 x.2.1.2.2.2.1 x.2.1.2.2.2.2.1 x.2.2.1.1 x.2.2.1.2.1 x.2.2.1.2.2.1 x.2.2.1.2.2.2.1 x.2.2.1.2.2.2.2.1 (fun y0 => K .ret (Aab A0g ((y0, ()), (())))) (fun y0 y1 y2 y3 y4 y5 y6 y7 y8 y9 => K .normal (Aab A0h (((), (), ()), ((y0, y1, y2, y3, y4, ()), (y5, y6, y7, y8, y9, ()), ()))))
def Bhk (N : Nat) : Aan Ah0 := An5 @Acw N
def Ah1 : Aac := ⟨[A1j, Bko, Axb, (25, .one (.val .bool))], Beh⟩
def A0i : Aac := ⟨Ay5, []⟩
def A0j : Aac := ⟨Ci8, Beh⟩
def Bhl : Acn := .cons .ret A0i (.cons .normal A0j (.nil))
abbrev Bxl (R : Type) := Int->Bool->(List UInt8)->d3->d1->d2->d4->Int->Int->Int->Int->Int->(Bool->Option R)->((List UInt8)->d3->d1->d2->d4->Int->Int->Int->Int->Int->Option R)->Option R
abbrev Ai6 := {R : Type} → Nat → Bxl R
def A45 (Abd : Aio) (Acs : Akx) (Acw : Ai5) : Ai6 := fun {R} N b o c d e f g m h i j l a n => if (o = true) then (Abd N c d e f g h i fun p => if (p = true) then (Abd N c d e f g j l fun q => a q) else a false) else if ((b == 6) = true) then (Abd N c d e f g h i fun r => if (r = true) then (if ((j == 0) = true) then (a (l == 0)) else a false) else a false) else if ((b == 7) = true) then (if ((h == 0) = true) then (Acs N c d e f g i fun s => if (s = true) then (if ((j == 0) = true) then (a (l == 0)) else a false) else a false) else a false) else if ((b == 8) = true) then (Acw N b (b == 8) c d e f g m h i j l (fun t => a t) fun u v w x y z A B C D => n u v w x y z A B C D) else Acw N b (b == 9) c d e f g m h i j l (fun E => a E) fun F G H I J L M O P Q => n F G H I J L M O P Q
def Acx : Ai6 := @A45 @Abd @Acs @Acw
def An6 (Acx : Ai6) (N : Nat) : Aan Ah1 := fun R x K => Acx N x.1.2.2.1 x.1.2.2.2.1 x.2.1.1 x.2.1.2.1 x.2.1.2.2.1 x.2.1.2.2.2.1 x.2.1.2.2.2.2.1 x.2.2.1.1 x.2.2.1.2.1 x.2.2.1.2.2.1 x.2.2.1.2.2.2.1 x.2.2.1.2.2.2.2.1 (fun y0 => K .ret (Aab A0i ((y0, ()), (())))) (fun y0 y1 y2 y3 y4 y5 y6 y7 y8 y9 => K .normal (Aab A0j (((), (), ()), ((y0, y1, y2, y3, y4, ()), (y5, y6, y7, y8, y9, ()), ()))))
def Bhm (N : Nat) : Aan Ah1 := An6 @Acx N
def Ah2 : Aac := ⟨[A1j, Bko, Axb, Bn7], Beh⟩
def A0k : Aac := ⟨Ay5, []⟩
def A0l : Aac := ⟨Ci8, Beh⟩
def Bhn : Acn := .cons .ret A0k (.cons .normal A0l (.nil))
abbrev Bxm (R : Type) := Int->Bool->(List UInt8)->d3->d1->d2->d4->Int->Int->Int->Int->Int->(Bool->Option R)->((List UInt8)->d3->d1->d2->d4->Int->Int->Int->Int->Int->Option R)->Option R
abbrev Ai7 := {R : Type} → Nat → Bxm R
def A46 (Abe : Ahz) (Abd : Aio) (Acx : Ai6) : Ai7 := fun {R} N a o b c d e f m h i j l g n => if (o = true) then (Abe N b c d e f h i fun p => if (p = true) then (Abd N b c d e f j l fun q => g q) else g false) else if ((a == 3) = true) then (Acx N a (a == 3) b c d e f m h i j l (fun r => g r) fun s t u v w x y z A B => n s t u v w x y z A B) else Acx N a (a == 5) b c d e f m h i j l (fun C => g C) fun D E F G H I J L M O => n D E F G H I J L M O
def Ach : Ai7 := @A46 @Abe @Abd @Acx
def An7 (Ach : Ai7) (N : Nat) : Aan Ah2 := fun R x K => Ach N x.1.2.2.1 x.1.2.2.2.1 x.2.1.1 x.2.1.2.1 x.2.1.2.2.1 x.2.1.2.2.2.1 x.2.1.2.2.2.2.1 x.2.2.1.1 x.2.2.1.2.1 x.2.2.1.2.2.1 x.2.2.1.2.2.2.1 x.2.2.1.2.2.2.2.1 (fun y0 => K .ret (Aab A0k ((y0, ()), (())))) (fun y0 y1 y2 y3 y4 y5 y6 y7 y8 y9 => K .normal (Aab A0l (((), (), ()), ((y0, y1, y2, y3, y4, ()), (y5, y6, y7, y8, y9, ()), ()))))
def Bho (N : Nat) : Aan Ah2 := An7 @Ach N
def Ah3 : Aac := ⟨Ci8, Beh⟩
def A0m : Aac := ⟨Ay5, []⟩
def Bhp : Acn := .cons .ret A0m (.nil)
abbrev Bxn (R : Type) := (List UInt8)->d3->d1->d2->d4->Int->Int->Int->Int->Int->(Bool->Option R)->Option R
abbrev Ai8 := {R : Type} → Nat → Bxn R
def A47 (Abe : Ahz) (Aa3 : Ag9) (Abd : Aio) : Ai8 := fun {R} N b c d e f g h i j l a => if ((g == 58) = true) then (Abe N b c d e f h i fun m => if (m = true) then (if ((j == 0) = true) then (a (l == 0)) else a false) else a false) else if ((g == 59) = true) then (Abe N b c d e f h i fun n => if (n = true) then (if ((j == 0) = true) then (a (l == 0)) else a false) else a false) else Aa3 N g 41 57 fun o => if (o = true) then (Abe N b c d e f h i fun p => if (p = true) then (Abd N b c d e f j l fun q => a q) else a false) else a false
def Aci : Ai8 := @A47 @Abe @Aa3 @Abd
def An8 (Aci : Ai8) (N : Nat) : Aan Ah3 := fun R x K => Aci N x.2.1.1 x.2.1.2.1 x.2.1.2.2.1 x.2.1.2.2.2.1 x.2.1.2.2.2.2.1 x.2.2.1.1 x.2.2.1.2.1 x.2.2.1.2.2.1 x.2.2.1.2.2.2.1 x.2.2.1.2.2.2.2.1 (fun y0 => K .ret (Aab A0m ((y0, ()), (()))))
def Bhq (N : Nat) : Aan Ah3 := An8 @Aci N
def Bdi : Aac := ⟨[Bw4, (1, .agg Cbw)], []⟩
def Ayr : Aac := ⟨Aip, []⟩
abbrev B93 (R : Type) := (List UInt8)->d3->d1->d2->d4->Int->Int->Int->Int->Int->(Bool->Option R)->Option R
abbrev Am9 := {R : Type} → Nat → B93 R
def Bdj (Ach : Ai7) (Aci : Ai8) : Am9 := fun {R} N c d e f g a h i j l b => if ((a == 1) = true) then (Ach N a (a == 1) c d e f g a h i j l (fun m => b m) fun n o p q r s t u v w => Aci N n o p q r s t u v w fun x => b x) else if ((a == 2) = true) then (Ach N a (a == 2) c d e f g a h i j l (fun y => b y) fun z A B C D E F G H I => Aci N z A B C D E F G H I fun J => b J) else Ach N a (a == 4) c d e f g a h i j l (fun L => b L) fun M O P Q S T U V W X => Aci N M O P Q S T U V W X fun Y => b Y
def Aet : Am9 := @Bdj @Ach @Aci
def Crn (N : Nat) : Abs Bdi [Ayr] := fun R x C => Aet N x.1.1.1 x.1.1.2.1 x.1.1.2.2.1 x.1.1.2.2.2.1 x.1.1.2.2.2.2.1 x.1.2.1.1 x.1.2.1.2.1 x.1.2.1.2.2.1 x.1.2.1.2.2.2.1 x.1.2.1.2.2.2.2.1 (fun y0 => C.1 ((y0, ()), (())))
def Awt (Aet : Am9) (N : Nat) : Go.AX.Aaj := Ac6 [true, true] [] false 2 0 Bdi [Ayr] (fun R x C => Aet N x.1.1.1 x.1.1.2.1 x.1.1.2.2.1 x.1.1.2.2.2.1 x.1.1.2.2.2.2.1 x.1.2.1.1 x.1.2.1.2.1 x.1.2.1.2.2.1 x.1.2.1.2.2.2.1 x.1.2.1.2.2.2.2.1 (fun y0 => C.1 ((y0, ()), (()))))
def Bpo (N : Nat) : Go.AX.Aaj := Awt @Aet N
def Cro (N : Nat) : List (Nat × Ac0) := [(30, Aaa Ah0 (Bhk N)), (16, Aaa Ah1 (Bhm N)), (10, Aaa Ah2 (Bho N)), (48, Aaa Ah3 (Bhq N))]
def B94 (N : Nat) : List (Nat × Go.AX.Aaj) := [(133, Bhi N), (134, Bk8 N), (135, Bpn N), (81, A7q N)]
def Bmw : Code := Tryz.f80.body.getD .skip
def A9k : Aac := ⟨Ay6, []⟩
def Awb : Aac := ⟨Aip, []⟩
abbrev B5b (R : Type) := Int->(Bool->Option R)->Option R
abbrev Amj := {R : Type} → Nat → B5b R
def Adc : Amj := fun {R} N a b => if ((a != 7) = true) then (if ((a != 11) = true) then (if ((a != 12) = true) then (b (a != 13)) else b false) else b false) else b false
def B5c (N : Nat) : Abs A9k [Awb] := fun R x C => Adc N x.1.1 (fun y0 => C.1 ((y0, ()), (())))
def Aun (Adc : Amj) (N : Nat) : Go.AX.Aaj := Ac6 [true] [] false 1 0 A9k [Awb] (fun R x C => Adc N x.1.1 (fun y0 => C.1 ((y0, ()), (()))))
def Bmx (N : Nat) : Go.AX.Aaj := Aun @Adc N
def B5d (N : Nat) : List (Nat × Ac0) := []
def Bmy (N : Nat) : List (Nat × Go.AX.Aaj) := []
def Ai9 : Aac := ⟨[wq3, A1m, Bbn, wq7], Beh⟩
def A0n : Aac := ⟨[wq3, A1m, Bbn], Axn⟩
def Bhr : Acn := .cons .normal A0n (.nil)
abbrev Bxo (R : Type) := Int->Int->(List UInt8)->d3->d1->d2->d4->Int->Int->Int->Int->Int->(Int->Int->(List UInt8)->d3->d1->d2->d4->Option R)->Option R
abbrev Al6 := {R : Type} → Nat → Bxo R
def Abk : Al6 := fun {R} N h a b c d e f i j l m n g => if ((i == 12) = true) then (g j a b c d e f) else g h a b c d e f
def Aqq (Abk : Al6) (N : Nat) : Aan Ai9 := fun R x K => Abk N x.1.2.1 x.1.2.2.1 x.2.1.1 x.2.1.2.1 x.2.1.2.2.1 x.2.1.2.2.2.1 x.2.1.2.2.2.2.1 x.2.2.1.1 x.2.2.1.2.1 x.2.2.1.2.2.1 x.2.2.1.2.2.2.1 x.2.2.1.2.2.2.2.1 (fun y0 y1 y2 y3 y4 y5 y6 => K .normal (Aab A0n (((), y0, y1, ()), ((y2, y3, y4, y5, y6, ()), ()))))
def Bhs (N : Nat) : Aan Ai9 := Aqq @Abk N
def Ag6 : Aac := ⟨[wq3, A1m, Bbn], Axn⟩
def Ast : Aac := ⟨Bbo, []⟩
def Asu : Aac := ⟨[wq3, A1m], Axn⟩
def Bht : Acn := .cons .ret Ast (.cons (.exit 0) Asu (.nil))
abbrev A48 (R : Type) := Int->Int->(List UInt8)->d3->d1->d2->d4->(Int->Option R)->(Int->(List UInt8)->d3->d1->d2->d4->Option R)->Option R
abbrev Bhu (R : Type) := Int->Int->(List UInt8)->d3->d1->d2->d4->Option R
abbrev An9 := {R : Type} → Nat → Nat → A48 R
def Awc (Aet : Am9) (Adc : Amj) (Abk : Al6) {R : Type} (N : Nat) (rc : Bhu R) : A48 R := fun c b e f g h a o p => if ((decide (b < (len a))) = true) then (if (0 ≤ b ∧ b < len a) then (let d := (a.getD b.toNat (0, (0, (0, (0, 0))))).1; let i := (a.getD b.toNat (0, (0, (0, (0, 0))))).2.1; let j := (a.getD b.toNat (0, (0, (0, (0, 0))))).2.2.1; let l := (a.getD b.toNat (0, (0, (0, (0, 0))))).2.2.2.1; let m := (a.getD b.toNat (0, (0, (0, (0, 0))))).2.2.2.2; let n := (wi (b + 1)); Aet N e f g h a d i j l m fun q => if ((!q) = true) then (o 60) else if ((!((decide (c > 0)) == (d == 13))) = true) then (o 60) else if ((n == (len a)) = true) then (Adc N d fun r => if (r = true) then (o 60) else if ((d == 5) = true) then (if (0 ≤ n ∧ n < len a) then (if (((a.getD n.toNat (0, (0, (0, (0, 0))))).1 != 6) = true) then (o 60) else if ((decide (c > 0)) = true) then (Abk N (wi (c - 1)) b e f g h a d i j l m fun s t u v w x y => rc s (wi (t + 1)) u v w x y) else Abk N c b e f g h a d i j l m fun z A B C D E F => rc z (wi (A + 1)) B C D E F) else none) else if ((decide (c > 0)) = true) then (Abk N (wi (c - 1)) b e f g h a d i j l m fun G H I J L M O => rc G (wi (H + 1)) I J L M O) else Abk N c b e f g h a d i j l m fun P Q S T U V W => rc P (wi (Q + 1)) S T U V W) else if ((d == 5) = true) then (if (0 ≤ n ∧ n < len a) then (if (((a.getD n.toNat (0, (0, (0, (0, 0))))).1 != 6) = true) then (o 60) else if ((decide (c > 0)) = true) then (Abk N (wi (c - 1)) b e f g h a d i j l m fun X Y Z aa ab ac ad => rc X (wi (Y + 1)) Z aa ab ac ad) else Abk N c b e f g h a d i j l m fun ae af ag ah ai aj ak => rc ae (wi (af + 1)) ag ah ai aj ak) else none) else if ((decide (c > 0)) = true) then (Abk N (wi (c - 1)) b e f g h a d i j l m fun al am an ao ap aq ar => rc al (wi (am + 1)) an ao ap aq ar) else Abk N c b e f g h a d i j l m fun au av aw ax ay az ba => rc au (wi (av + 1)) aw ax ay az ba) else none) else p c e f g h a
def Acy {R : Type} (N : Nat) : Nat → A48 R
 | 0 => fun _ _ _ _ _ _ _ _ _ => none
 | k + 1 => fun a b c d e f g h i => Awc @Aet @Adc @Abk N (fun a b c d e f g => Acy N k a b c d e f g h i) a b c d e f g h i
def Aqr (Acy : An9) (N k : Nat) : Aan Ag6 := fun R x K => Acy N k x.1.2.1 x.1.2.2.1 x.2.1.1 x.2.1.2.1 x.2.1.2.2.1 x.2.1.2.2.2.1 x.2.1.2.2.2.2.1 (fun y0 => K .ret (Aab Ast ((y0, ()), (())))) (fun y0 y1 y2 y3 y4 y5 => K (.exit 0) (Aab Asu (((), y0, ()), ((y1, y2, y3, y4, y5, ()), ()))))
def A49 (N k : Nat) : Aan Ag6 := Aqr @Acy N k
def Ag7 : Aac := ⟨Cn5, Axn⟩
def Asv : Aac := ⟨Bbo, []⟩
def Asw : Aac := ⟨[], []⟩
def Bhv : Acn := .cons .ret Asv (.cons (.exit 2) Asw (.nil))
abbrev A5a (R : Type) := Int->(List UInt8)->d3->d1->d2->d4->(Int->Option R)->(Option R)->Option R
abbrev Bhw (R : Type) := Int->(List UInt8)->d3->d1->d2->d4->Option R
abbrev Aoa := {R : Type} → Nat → Nat → A5a R
def A5b (Aa3 : Ag9) (Adc : Amj) {R : Type} (N : Nat) (rc : Bhw R) : A5a R := fun a g h i b c e j => if ((decide (a < (len b))) = true) then (if (0 ≤ a ∧ a < len b) then (let d := (b.getD a.toNat (0, (0, 0))).1; Aa3 N d 0 (wi ((len c) - 1)) fun l => if ((!l) = true) then (e 60) else if (0 ≤ d ∧ d < len c) then (if (((c.getD d.toNat (0, (0, (0, (0, 0))))).1 == 13) = true) then (e 60) else Aa3 N ((b.getD a.toNat (0, (0, 0))).2.1) 0 8 fun m => if ((!m) = true) then (e 60) else Aa3 N ((b.getD a.toNat (0, (0, 0))).2.2) 2 4001 fun n => if ((!n) = true) then (e 60) else if ((decide (d > 0)) = true) then (let f := (wi (d - 1)); if (0 ≤ f ∧ f < len c) then (Adc N ((c.getD f.toNat (0, (0, (0, (0, 0))))).1) fun o => if (o = true) then (e 60) else rc (wi (a + 1)) g h i b c) else none) else rc (wi (a + 1)) g h i b c) else none) else none) else j
def Acz {R : Type} (N : Nat) : Nat → A5a R
 | 0 => fun _ _ _ _ _ _ _ _ => none
 | k + 1 => fun a b c d e f g h => A5b @Aa3 @Adc N (fun a b c d e f => Acz N k a b c d e f g h) a b c d e f g h
def Aqs (Acz : Aoa) (N k : Nat) : Aan Ag7 := fun R x K => Acz N k x.1.2.1 x.2.1.1 x.2.1.2.1 x.2.1.2.2.1 x.2.1.2.2.2.1 x.2.1.2.2.2.2.1 (fun y0 => K .ret (Aab Asv ((y0, ()), (())))) (K (.exit 2) (Aab Asw ((()), (()))))
def A5c (N k : Nat) : Aan Ag7 := Aqs @Acz N k
def Bdk : Aac := ⟨B4m, []⟩
def Ays : Aac := ⟨Ay6, []⟩
abbrev B95 (R : Type) := (List UInt8)->d3->d1->d2->d4->(Int->Option R)->Option R
abbrev Ana := {R : Type} → Nat → B95 R
def Bdl (Aes : Am8) (Acy : An9) (Acz : Aoa) : Ana := fun {R} N b c d e f a => Aes N b c d e f fun g => if ((g != 0) = true) then (a g) else Acy N N 0 0 b c d e f (fun h => a h) fun i j l m n o => if ((decide (i > 0)) = true) then (a 60) else Acz N N 0 j l m n o (fun p => a p) (a 0)
def Aeu : Ana := @Bdl @Aes @Acy @Acz
def Crp (N : Nat) : Abs Bdk [Ays] := fun R x C => Aeu N x.1.1.1 x.1.1.2.1 x.1.1.2.2.1 x.1.1.2.2.2.1 x.1.1.2.2.2.2.1 (fun y0 => C.1 ((y0, ()), (())))
def Awu (Aeu : Ana) (N : Nat) : Go.AX.Aaj := Ac6 [true] [] false 1 0 Bdk [Ays] (fun R x C => Aeu N x.1.1.1 x.1.1.2.1 x.1.1.2.2.1 x.1.1.2.2.2.1 x.1.1.2.2.2.2.1 (fun y0 => C.1 ((y0, ()), (()))))
def Bpp (N : Nat) : Go.AX.Aaj := Awu @Aeu N
def Crq (N : Nat) : List (Nat × Ac0) := [(28, Aaa Ai9 (Bhs N)), (13, Aaa Ag6 (A49 N N)), (39, Aaa Ag7 (A5c N N))]
def B96 (N : Nat) : List (Nat × Go.AX.Aaj) := [(34, Bpl N), (79, Bpo N), (80, Bmx N), (81, A7q N)]
def Aoy (N : Nat) : Go.AX.Aaj := A8r
def Aj6 : Aac := ⟨Cjk, Cjl⟩
def A11 : Aac := ⟨Cjk, Cjl⟩
def Bjt : Acn := .cons .normal A11 (.nil)
abbrev B15 (R : Type) := Int->Int->(List UInt8)->d3->d1->d2->d4->d0->d0->(Int->Int->(List UInt8)->d3->d1->d2->d4->d0->d0->Option R)->Option R
abbrev Amy := {R : Type} → Nat → B15 R
def Adm : Amy := fun {R} N f a g h i j l e c m => if (0 ≤ a ∧ a < len c) then (let d := (c.getD a.toNat 0); if ((Ajg d) = true) then (if ((((List.length e) + (List.length (List.map (fun b : UInt8 => (((UInt8.toNat b) : Nat) : Int)) (Axj d)))) * (1 : Nat)) ≤ (70368744177664 : Nat)) then (m f a g h i j l (e ++ (List.map (fun b : UInt8 => (((UInt8.toNat b) : Nat) : Int)) (Axj d))) c) else none) else none) else none
def Asx (Adm : Amy) (N : Nat) : Aan Aj6 := fun R x K => Adm N x.1.2.2.1 x.1.2.2.2.2.1 x.2.1.1 x.2.1.2.1 x.2.1.2.2.1 x.2.1.2.2.2.1 x.2.1.2.2.2.2.1 x.2.2.1 x.2.2.2.1 (fun y0 y1 y2 y3 y4 y5 y6 y7 y8 => K .normal (Aab A11 (((), (), y0, (), y1, ()), ((y2, y3, y4, y5, y6, ()), y7, y8, ()))))
def Bju (N : Nat) : Aan Aj6 := Asx @Adm N
def Ahw : Aac := ⟨Cjk, Cjl⟩
def At4 : Aac := ⟨[wq3, Cnm, Axb], [Beg, Ci2]⟩
def Bjv : Acn := .cons (.exit 2) At4 (.nil)
abbrev A7u (R : Type) := Int->Int->(List UInt8)->d3->d1->d2->d4->d0->d0->(Int->(List UInt8)->d3->d1->d2->d4->d0->Option R)->Option R
abbrev Bjw (R : Type) := Int->Int->(List UInt8)->d3->d1->d2->d4->d0->d0->Option R
abbrev Aoz := {R : Type} → Nat → Nat → A7u R
def Asy (Adm : Amy) {R : Type} (N : Nat) (rc : Bjw R) : A7u R := fun c a d e f g h b i j => if ((decide (a < (len i))) = true) then (if ((decide (a > 0)) = true) then (if ((((List.length b) + (1 : Nat)) * (1 : Nat)) ≤ (70368744177664 : Nat)) then (Adm N c a d e f g h (b ++ [32]) i fun l m n o p q r s t => rc l (wi (m + 1)) n o p q r s t) else none) else Adm N c a d e f g h b i fun u v w x y z A B C => rc u (wi (v + 1)) w x y z A B C) else j c d e f g h b
def Ace {R : Type} (N : Nat) : Nat → A7u R
 | 0 => fun _ _ _ _ _ _ _ _ _ _ => none
 | k + 1 => fun a b c d e f g h i j => Asy @Adm N (fun a b c d e f g h i => Ace N k a b c d e f g h i j) a b c d e f g h i j
def Asz (Ace : Aoz) (N k : Nat) : Aan Ahw := fun R x K => Ace N k x.1.2.2.1 x.1.2.2.2.2.1 x.2.1.1 x.2.1.2.1 x.2.1.2.2.1 x.2.1.2.2.2.1 x.2.1.2.2.2.2.1 x.2.2.1 x.2.2.2.1 (fun y0 y1 y2 y3 y4 y5 y6 => K (.exit 2) (Aab At4 (((), (), y0, ()), ((y1, y2, y3, y4, y5, ()), y6, ()))))
def A7v (N k : Nat) : Aan Ahw := Asz @Ace N k
def Ahx : Aac := ⟨[wq3, Cnm, Axb], [Beg, Ci2]⟩
def At5 : Aac := ⟨[(5, .one (.slf 32))], [(32, .row 5 (.int .u8))]⟩
def Bjx : Acn := .cons (.exit 0) At5 (.nil)
abbrev A7w (R : Type) := Int->(List UInt8)->d3->d1->d2->d4->d0->(d0->Option R)->Option R
abbrev Bjy (R : Type) := Int->(List UInt8)->d3->d1->d2->d4->d0->Option R
abbrev Ao0 := {R : Type} → Nat → Nat → A7w R
def Ayt (Ace : Aoz) {R : Type} (N : Nat) (rc : Bjy R) : A7w R := fun a e f g h b c i => if ((decide (a < (len b))) = true) then (if (0 ≤ a ∧ a < len b) then (Ace N N a 0 e f g h b c (a :: ((b.getD a.toNat (0, (0, (0, (0, 0))))).1 :: ((b.getD a.toNat (0, (0, (0, (0, 0))))).2.1 :: ((b.getD a.toNat (0, (0, (0, (0, 0))))).2.2.1 :: ((b.getD a.toNat (0, (0, (0, (0, 0))))).2.2.2.1 :: ((b.getD a.toNat (0, (0, (0, (0, 0))))).2.2.2.2 :: ([] : List Int))))))) fun j l m n o p d => if ((((List.length d) + (1 : Nat)) * (1 : Nat)) ≤ (70368744177664 : Nat)) then (rc (wi (j + 1)) l m n o p (d ++ [10])) else none) else none) else i c
def Adb {R : Type} (N : Nat) : Nat → A7w R
 | 0 => fun _ _ _ _ _ _ _ _ => none
 | k + 1 => fun a b c d e f g h => Ayt @Ace N (fun a b c d e f g => Adb N k a b c d e f g h) a b c d e f g h
def As0 (Adb : Ao0) (N k : Nat) : Aan Ahx := fun R x K => Adb N k x.1.2.2.1 x.2.1.1 x.2.1.2.1 x.2.1.2.2.1 x.2.1.2.2.2.1 x.2.1.2.2.2.2.1 x.2.2.1 (fun y0 => K (.exit 0) (Aab At5 (((), ()), (y0, ()))))
def A7x (N k : Nat) : Aan Ahx := As0 @Adb N k
def Bhx : Aac := ⟨B4m, []⟩
def A1g : Aac := ⟨Ci9, []⟩
abbrev Cef (R : Type) := (List UInt8)->d3->d1->d2->d4->((List UInt8)->Int->Option R)->Option R
abbrev A0o := {R : Type} → Nat → Cef R
def Bhy (Aeu : Ana) (Adb : Ao0) : A0o := fun {R} N a b c d e f => Aeu N a b c d e fun g => if ((g != 0) = true) then (f ([] : List UInt8) g) else Adb N N 0 a b c d e ([] : List Int) fun h => f (List.map (fun n : Int => UInt8.ofNat (Int.toNat n)) h) 0
def Alw : A0o := @Bhy @Aeu @Adb
def Cst (N : Nat) : Abs Bhx [A1g] := fun R x C => Alw N x.1.1.1 x.1.1.2.1 x.1.1.2.2.1 x.1.1.2.2.2.1 x.1.1.2.2.2.2.1 (fun y0 y1 => C.1 ((y0, y1, ()), (())))
def Br8 (Alw : A0o) (N : Nat) : Go.AX.Aaj := Ac6 [true] [] false 1 0 Bhx [A1g] (fun R x C => Alw N x.1.1.1 x.1.1.2.1 x.1.1.2.2.1 x.1.1.2.2.2.1 x.1.1.2.2.2.2.1 (fun y0 y1 => C.1 ((y0, y1, ()), (()))))
def Br9 (N : Nat) : Go.AX.Aaj := Br8 @Alw N
def Csu (N : Nat) : List (Nat × Ac0) := [(30, Aaa Aj6 (Bju N)), (23, Aaa Ahw (A7v N N)), (13, Aaa Ahx (A7x N N))]
def Ceg (N : Nat) : List (Nat × Go.AX.Aaj) := [(44, Bpp N), (25, Aoy N)]
def A12 : Aac := ⟨[(0, .agg [.val .str, .val z3, .val z1, .val z4, .val z6])], []⟩
def Aq1 : Aac := ⟨Aip, []⟩
abbrev Btz (R : Type) := (List UInt8)->d3->d1->d2->d4->(Bool->Option R)->Option R
abbrev A13 := {R : Type} → Nat → Btz R
def A14 (Ajm : Awg) (Am5 : A2c) (Alw : A0o) : A13 := fun {R} N b c d e f a => Ajm N b c d e f fun g => if (g = true) then (a true) else Am5 N b c d e f fun h i => Alw N b c d e f fun j l => if ((h == j) = true) then (if ((i == l) = true) then (a true) else a false) else a false
def Ao1 : A13 := @A14 @Ajm @Am5 @Alw
def Cmg (N : Nat) : Abs A12 [Aq1] := fun R x C => Ao1 N x.1.1.1 x.1.1.2.1 x.1.1.2.2.1 x.1.1.2.2.2.1 x.1.1.2.2.2.2.1 (fun y0 => C.1 ((y0, ()), (())))
def Bt0 (Ao1 : A13) (N : Nat) : Go.AX.Aaj := Ac6 [true] [] false 1 0 A12 [Aq1] (fun R x C => Ao1 N x.1.1.1 x.1.1.2.1 x.1.1.2.2.1 x.1.1.2.2.2.1 x.1.1.2.2.2.2.1 (fun y0 => C.1 ((y0, ()), (()))))
def Bd3 (N : Nat) : Go.AX.Aaj := Bt0 @Ao1 N
def Cmh (N : Nat) : List (Nat × Ac0) := []
def Bt1 (N : Nat) : List (Nat × Go.AX.Aaj) := [(16, Bop N), (17, Bbr N), (18, Bwa N), (19, Br9 N)]
end
end Q

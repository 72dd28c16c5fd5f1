/- Part D2 of the proof. -/
import Derived.Test.YthdjdgfmfgligaaGreatD1
open Go Go.AX Go.Proofs
namespace Q
noncomputable section
set_option maxRecDepth 100000
set_option linter.unusedVariables false
def A6o (Afp : Apy) (Aew : Apz) (Aam : Ad0) (Aex : Ap0) (Aa6 : Ahq) (Aea : Ap1) (Aav : Ai0) {R : Type} (N : Nat) (rc : Amw R) : A6n R := fun q o d f g b h i j c l p y => if ((decide (d < (len b))) = true) then (if (0 ≤ d ∧ d < len b) then (let a := (b.getD d.toNat (0, (0, 0))).1; let n := (b.getD d.toNat (0, (0, 0))).2.1; let m := (b.getD d.toNat (0, (0, 0))).2.2; if ((a == 24) = true) then (rc (wi (2 + m)) true (wi (d + 1)) f g b h i j c l) else Afp N a n m q fun e => if ((a == 18) = true) then (let x := (wi (d - 1)); if (0 ≤ x ∧ x < len b) then (Aew N a n m fun z => if ((decide ((wi (q - z)) < 2)) = true) then (p false) else Aam N e 2 4000 fun A => if ((!A) = true) then (p false) else if ((!((b.getD x.toNat (0, (0, 0))).1 == 19)) = true) then (Aex N a n m q fun B => if ((!B) = true) then (p false) else if ((a == 28) = true) then (if (o = true) then (p false) else Aa6 N a n m fun r => if ((decide (r > 0)) = true) then (if (0 ≤ r ∧ r < len c) then (Aea N b (c.getD r.toNat 0) fun C => if ((!(C == (a == 27))) = true) then (p false) else if ((a != 19) = true) then (Aav N a n m fun D => rc e D (wi (d + 1)) f g b h i j c l) else rc e o (wi (d + 1)) f g b h i j c l) else none) else if ((a != 19) = true) then (Aav N a n m fun E => rc e E (wi (d + 1)) f g b h i j c l) else rc e o (wi (d + 1)) f g b h i j c l) else Aa6 N a n m fun s => if ((decide (s > 0)) = true) then (if (0 ≤ s ∧ s < len c) then (Aea N b (c.getD s.toNat 0) fun F => if ((!(F == (a == 27))) = true) then (p false) else if ((a != 19) = true) then (Aav N a n m fun G => rc e G (wi (d + 1)) f g b h i j c l) else rc e o (wi (d + 1)) f g b h i j c l) else none) else if ((a != 19) = true) then (Aav N a n m fun H => rc e H (wi (d + 1)) f g b h i j c l) else rc e o (wi (d + 1)) f g b h i j c l) else if ((a == 28) = true) then (if (o = true) then (p false) else Aa6 N a n m fun t => if ((decide (t > 0)) = true) then (if (0 ≤ t ∧ t < len c) then (Aea N b (c.getD t.toNat 0) fun I => if ((!(I == (a == 27))) = true) then (p false) else if ((a != 19) = true) then (Aav N a n m fun J => rc e J (wi (d + 1)) f g b h i j c l) else rc e o (wi (d + 1)) f g b h i j c l) else none) else if ((a != 19) = true) then (Aav N a n m fun L => rc e L (wi (d + 1)) f g b h i j c l) else rc e o (wi (d + 1)) f g b h i j c l) else Aa6 N a n m fun u => if ((decide (u > 0)) = true) then (if (0 ≤ u ∧ u < len c) then (Aea N b (c.getD u.toNat 0) fun M => if ((!(M == (a == 27))) = true) then (p false) else if ((a != 19) = true) then (Aav N a n m fun O => rc e O (wi (d + 1)) f g b h i j c l) else rc e o (wi (d + 1)) f g b h i j c l) else none) else if ((a != 19) = true) then (Aav N a n m fun P => rc e P (wi (d + 1)) f g b h i j c l) else rc e o (wi (d + 1)) f g b h i j c l) else none) else Aew N a n m fun Q => if ((decide ((wi (q - Q)) < 2)) = true) then (p false) else Aam N e 2 4000 fun S => if ((!S) = true) then (p false) else Aex N a n m q fun T => if ((!T) = true) then (p false) else if ((a == 28) = true) then (if (o = true) then (p false) else Aa6 N a n m fun v => if ((decide (v > 0)) = true) then (if (0 ≤ v ∧ v < len c) then (Aea N b (c.getD v.toNat 0) fun U => if ((!(U == (a == 27))) = true) then (p false) else if ((a != 19) = true) then (Aav N a n m fun V => rc e V (wi (d + 1)) f g b h i j c l) else rc e o (wi (d + 1)) f g b h i j c l) else none) else if ((a != 19) = true) then (Aav N a n m fun W => rc e W (wi (d + 1)) f g b h i j c l) else rc e o (wi (d + 1)) f g b h i j c l) else Aa6 N a n m fun w => if ((decide (w > 0)) = true) then (if (0 ≤ w ∧ w < len c) then (Aea N b (c.getD w.toNat 0) fun X => if ((!(X == (a == 27))) = true) then (p false) else if ((a != 19) = true) then (Aav N a n m fun Y => rc e Y (wi (d + 1)) f g b h i j c l) else rc e o (wi (d + 1)) f g b h i j c l) else none) else if ((a != 19) = true) then (Aav N a n m fun Z => rc e Z (wi (d + 1)) f g b h i j c l) else rc e o (wi (d + 1)) f g b h i j c l) else none) else y
def Aeq {R : Type} (N : Nat) : Nat → A6n R
 | 0 => fun _ _ _ _ _ _ _ _ _ _ _ _ _ => none
 | k + 1 => fun a b c d e f g h i j l m n => A6o @Afp @Aew @Aam @Aex @Aa6 @Aea @Aav N (fun a b c d e f g h i j l => Aeq N k a b c d e f g h i j l m n) a b c d e f g h i j l m n
def A6p (Aeq : Azh) (N k : Nat) : Aap Akh := fun R x K => Aeq N k x.1.2.2.1 x.1.2.2.2.1 x.1.2.2.2.2.1 x.2.1.1 x.2.1.2.1 x.2.1.2.2.1 x.2.1.2.2.2.1 x.2.1.2.2.2.2.1 x.2.1.2.2.2.2.2.1 x.2.2.1.1 x.2.2.1.2.1 (fun y0 => K .ret (Aab Auc ((y0, ()), (())))) (K (.exit 0) (Aab Aud ((()), (()))))
def A6q (N k : Nat) : Aap Akh := A6p @Aeq N k
def Bed : Aac := ⟨[Cd5, (1, .agg [B0b, B0b])], []⟩
def Azi : Aac := ⟨Ah0, []⟩
abbrev B9r (R : Type) := (List UInt8)->d3->d2->d1->Int->Int->d0->d0->(Bool->Option R)->Option R
abbrev Asx := {R : Type} → Nat → B9r R
def Bee (Aeq : Azh) : Asx := fun {R} N b c d e f g h i a => Aeq N N 0 false 0 b c d e f g h i (fun j => a j) (a true)
def Aho : Asx := @Bee @Aeq
def Cmv (N : Nat) : Ab4 Bed [Azi] := fun R x C => Aho N x.1.1.1 x.1.1.2.1 x.1.1.2.2.1 x.1.1.2.2.2.1 x.1.1.2.2.2.2.1 x.1.1.2.2.2.2.2.1 x.1.2.1.1 x.1.2.1.2.1 (fun y0 => C.1 ((y0, ()), (())))
def Bef (Aho : Asx) (N : Nat) : Go.AX.Aaj := Ac8 [true, true] [] false 2 0 Bed [Azi] (fun R x C => Aho N x.1.1.1 x.1.1.2.1 x.1.1.2.2.1 x.1.1.2.2.2.1 x.1.1.2.2.2.2.1 x.1.1.2.2.2.2.2.1 x.1.2.1.1 x.1.2.1.2.1 (fun y0 => C.1 ((y0, ()), (()))))
def Bom (N : Nat) : Go.AX.Aaj := Bef @Aho N
def Cmw (N : Nat) : List (Nat × Ac1) := [(7, Aaa Akh (A6q N N))]
def B9s (N : Nat) : List (Nat × Go.AX.Aaj) := [(83, Blv N), (84, Blw N), (80, A4w N), (85, Blx N), (82, A90 N), (86, Bly N), (81, A6j N)]
def Bad : Aac := ⟨A3l, []⟩
def Awr : Aac := ⟨Aw9, []⟩
abbrev B5j (R : Type) := (List UInt8)->d3->d2->d1->Int->Int->(Int->Option R)->Option R
abbrev Ap2 := {R : Type} → Nat → B5j R
def Bae (Ae6 : Anp) (Agx : Apw) (Aej : At6) (Af9 : Apx) (Afi : Aou) (Aho : Asx) : Ap2 := fun {R} N d e f g b c a => Ae6 N d e f g b c fun o => if (o = true) then (a 2) else if ((decide (b < 0)) = true) then (a 60) else if ((decide (c < 0)) = true) then (a 60) else Agx N d e f g b c fun p => if ((!p) = true) then (a 60) else Aej N N 0 d e f g b c (fun q => a q) fun h i j l m n => Af9 N h i j l m n fun r => if ((!r) = true) then (a 60) else Afi N h i j l m n fun s t u => if ((!s) = true) then (a 60) else Aho N h i j l m n t u fun v => if ((!v) = true) then (a 61) else a 0
def Aga : Ap2 := @Bae @Ae6 @Agx @Aej @Af9 @Afi @Aho
def Clm (N : Nat) : Ab4 Bad [Awr] := fun R x C => Aga N x.1.1.1 x.1.1.2.1 x.1.1.2.2.1 x.1.1.2.2.2.1 x.1.1.2.2.2.2.1 x.1.1.2.2.2.2.2.1 (fun y0 => C.1 ((y0, ()), (())))
def Baf (Aga : Ap2) (N : Nat) : Go.AX.Aaj := Ac8 [true] [] false 1 0 Bad [Awr] (fun R x C => Aga N x.1.1.1 x.1.1.2.1 x.1.1.2.2.1 x.1.1.2.2.2.1 x.1.1.2.2.2.2.1 x.1.1.2.2.2.2.2.1 (fun y0 => C.1 ((y0, ()), (()))))
def Blz (N : Nat) : Go.AX.Aaj := Baf @Aga N
def Cln (N : Nat) : List (Nat × Ac1) := [(13, Aaa Aia (A2e N N))]
def B5k (N : Nat) : List (Nat × Go.AX.Aaj) := [(50, Bga N), (51, Blt N), (52, Bgf N), (53, Blu N), (54, Bje N), (55, Bom N)]
def Bag : Aac := ⟨Cdz, []⟩
def Aws : Aac := ⟨Aw9, []⟩
abbrev B5l (R : Type) := (List UInt8)->d3->d1->d2->d4->(Int->Option R)->Option R
abbrev Al6 := {R : Type} → Nat → B5l R
def Bah (Ad5 : Ats) (Aga : Ap2) : Al6 := fun {R} N c d e a f b => if ((decide ((len f) > 32000)) = true) then (b 2) else if ((decide ((len a) > 200)) = true) then (b 2) else Ad5 N N 0 c d e a f c d e (len a) 0 ([] : List (Int × Int × Int)) fun g h i j l m => Aga N g h m i j l fun n => b n
def Aef : Al6 := @Bah @Ad5 @Aga
def Clo (N : Nat) : Ab4 Bag [Aws] := fun R x C => Aef N x.1.1.1 x.1.1.2.1 x.1.1.2.2.1 x.1.1.2.2.2.1 x.1.1.2.2.2.2.1 (fun y0 => C.1 ((y0, ()), (())))
def Au2 (Aef : Al6) (N : Nat) : Go.AX.Aaj := Ac8 [true] [] false 1 0 Bag [Aws] (fun R x C => Aef N x.1.1.1 x.1.1.2.1 x.1.1.2.2.1 x.1.1.2.2.2.1 x.1.1.2.2.2.2.1 (fun y0 => C.1 ((y0, ()), (()))))
def Bl0 (N : Nat) : Go.AX.Aaj := Au2 @Aef N
def Clp (N : Nat) : List (Nat × Ac1) := [(11, Aaa Ah9 (A14 N N))]
def B5m (N : Nat) : List (Nat × Go.AX.Aaj) := [(29, Blz N)]
def Agj : Code := Tryz.f18.body.getD .skip
def Beg : Code := Tryz.f30.body.getD .skip
def Bxx : Code := Tryz.f20.body.getD .skip
def Bkt : Aac := ⟨B7c, []⟩
def A5a : Aac := ⟨Ah0, []⟩
abbrev Ceg (R : Type) := Int->Int->Int->(Bool->Option R)->Option R
abbrev Agr := {R : Type} → Nat → Ceg R
def Aay : Agr := fun {R} N a c d b => if ((decide (a ≥ c)) = true) then (b (decide (a ≤ d))) else b false
def Ceh (N : Nat) : Ab4 Bkt [A5a] := fun R x C => Aay N x.1.1 x.1.2.1 x.1.2.2.1 (fun y0 => C.1 ((y0, ()), (())))
def Akw (Aay : Agr) (N : Nat) : Go.AX.Aaj := Ac8 [true, true, true] [] false 3 0 Bkt [A5a] (fun R x C => Aay N x.1.1 x.1.2.1 x.1.2.2.1 (fun y0 => C.1 ((y0, ()), (()))))
def A5b (N : Nat) : Go.AX.Aaj := Akw @Aay N
def Cei (N : Nat) : List (Nat × Ac1) := []
def Bxy (N : Nat) : List (Nat × Go.AX.Aaj) := []
def Bsh : Code := Tryz.f31.body.getD .skip
def Ae3 : Code := Tryz.f56.body.getD .skip
def Bxz : Code := Tryz.f87.body.getD .skip
def Bku : Aac := ⟨B7c, []⟩
def A5c : Aac := ⟨Ah0, []⟩
abbrev Cej (R : Type) := Int->Int->Int->(Bool->Option R)->Option R
abbrev Akx := {R : Type} → Nat → Cej R
def Acc : Akx := fun {R} N a c d b => if ((decide (a ≥ c)) = true) then (b (decide (a ≤ d))) else b false
def Cek (N : Nat) : Ab4 Bku [A5c] := fun R x C => Acc N x.1.1 x.1.2.1 x.1.2.2.1 (fun y0 => C.1 ((y0, ()), (())))
def Azj (Acc : Akx) (N : Nat) : Go.AX.Aaj := Ac8 [true, true, true] [] false 3 0 Bku [A5c] (fun R x C => Acc N x.1.1 x.1.2.1 x.1.2.2.1 (fun y0 => C.1 ((y0, ()), (()))))
def Bx0 (N : Nat) : Go.AX.Aaj := Azj @Acc N
def Cel (N : Nat) : List (Nat × Ac1) := []
def Bx1 (N : Nat) : List (Nat × Go.AX.Aaj) := []
def Agb : Aac := ⟨[A0y, wq4, Cdt, (28, .one (.val .bool))], A3k⟩
def Aue : Aac := ⟨Bn9, []⟩
def Auf : Aac := ⟨A8r, []⟩
def A74 : Acy := .cons .ret Aue (.cons .normal Auf (.nil))
abbrev Bon (R : Type) := Int->Int->Bool->(List UInt8)->d3->d1->d2->d4->(Bool->Option R)->(Int->Option R)->Option R
abbrev Ag9 := {R : Type} → Nat → Bon R
def Ayf (Acc : Akx) : Ag9 := fun {R} N a c d l e m f n b g => if (d = true) then (Acc N a 0 (wi ((len e) - 1)) fun h => b h) else if ((c == 7) = true) then (Acc N a 1 (len f) fun i => b i) else if ((c == 8) = true) then (Acc N a 0 4000 fun j => b j) else g a
def Abq : Ag9 := @Ayf @Acc
def Ale (Abq : Ag9) (N : Nat) : Aap Agb := fun R x K => Abq N x.1.1 x.1.2.2.1 x.1.2.2.2.1 x.2.1.1 x.2.1.2.1 x.2.1.2.2.1 x.2.1.2.2.2.1 x.2.1.2.2.2.2.1 (fun y0 => K .ret (Aab Aue ((y0, ()), (())))) (fun y0 => K .normal (Aab Auf ((y0, ()), (()))))
def A75 (N : Nat) : Aap Agb := Ale @Abq N
def Agc : Aac := ⟨[A0y, wq4, Cdt, (23, .one (.val .bool))], A3k⟩
def Aug : Aac := ⟨Bn9, []⟩
def Auh : Aac := ⟨A8r, []⟩
def A76 : Acy := .cons .ret Aug (.cons .normal Auh (.nil))
abbrev Boo (R : Type) := Int->Int->Bool->(List UInt8)->d3->d1->d2->d4->(Bool->Option R)->(Int->Option R)->Option R
abbrev Aha := {R : Type} → Nat → Boo R
def Ayg (Acc : Akx) (Abq : Ag9) : Aha := fun {R} N b a j d e f g h c i => if (j = true) then (Acc N b 0 199 fun l => c l) else if ((a == 3) = true) then (Abq N b a (a == 3) d e f g h (fun m => c m) fun n => i n) else Abq N b a (a == 6) d e f g h (fun o => c o) fun p => i p
def Abr : Aha := @Ayg @Acc @Abq
def Alf (Abr : Aha) (N : Nat) : Aap Agc := fun R x K => Abr N x.1.1 x.1.2.2.1 x.1.2.2.2.1 x.2.1.1 x.2.1.2.1 x.2.1.2.2.1 x.2.1.2.2.2.1 x.2.1.2.2.2.2.1 (fun y0 => K .ret (Aab Aug ((y0, ()), (())))) (fun y0 => K .normal (Aab Auh ((y0, ()), (()))))
def A77 (N : Nat) : Aap Agc := Alf @Abr N
def Agd : Aac := ⟨[A0y, wq4, Cdt, (18, .one (.val .bool))], A3k⟩
def Aui : Aac := ⟨Bn9, []⟩
def Auj : Aac := ⟨A8r, []⟩
def A78 : Acy := .cons .ret Aui (.cons .normal Auj (.nil))
abbrev Bop (R : Type) := Int->Int->Bool->(List UInt8)->d3->d1->d2->d4->(Bool->Option R)->(Int->Option R)->Option R
abbrev Ahb := {R : Type} → Nat → Bop R
def Ayh (Acc : Akx) (Abr : Aha) : Ahb := fun {R} N b a j d e f g h c i => if (j = true) then (Acc N b 0 4000 fun l => c l) else if ((a == 2) = true) then (Abr N b a (a == 2) d e f g h (fun m => c m) fun n => i n) else Abr N b a (a == 5) d e f g h (fun o => c o) fun p => i p
def Abs : Ahb := @Ayh @Acc @Abr
def Alg (Abs : Ahb) (N : Nat) : Aap Agd := fun R x K => Abs N x.1.1 x.1.2.2.1 x.1.2.2.2.1 x.2.1.1 x.2.1.2.1 x.2.1.2.2.1 x.2.1.2.2.2.1 x.2.1.2.2.2.2.1 (fun y0 => K .ret (Aab Aui ((y0, ()), (())))) (fun y0 => K .normal (Aab Auj ((y0, ()), (()))))
def A79 (N : Nat) : Aap Agd := Alg @Abs N
def Age : Aac := ⟨A8r, []⟩
def Auk : Aac := ⟨Bn9, []⟩
def A8a : Acy := .cons .ret Auk (.nil)
abbrev Boq (R : Type) := Int->(Bool->Option R)->Option R
abbrev Ahc := {R : Type} → Nat → Boq R
def Ayi (Acc : Akx) : Ahc := fun {R} N a b => Acc N a 0 199 fun c => b c
def Abt : Ahc := @Ayi @Acc
def Alh (Abt : Ahc) (N : Nat) : Aap Age := fun R x K => Abt N x.1.1 (fun y0 => K .ret (Aab Auk ((y0, ()), (()))))
def A8b (N : Nat) : Aap Age := Alh @Abt N
def A5d : Aac := ⟨[Bta, Alk, A0y, Azn], []⟩
def Ash : Aac := ⟨Ah0, []⟩
abbrev Bx2 (R : Type) := (List UInt8)->d3->d1->d2->d4->Int->Int->Int->(Bool->Option R)->Option R
abbrev Arc := {R : Type} → Nat → Bx2 R
def A5e (Acc : Akx) (Abs : Ahb) (Abt : Ahc) : Arc := fun {R} N d e f g h a c i b => Acc N a 0 i fun j => if ((!j) = true) then (b false) else if ((a == 0) = true) then (Acc N c (-2147483648) 2147483647 fun l => b l) else if ((a == 1) = true) then (Abs N c a (a == 1) d e f g h (fun m => b m) fun n => Abt N n fun o => b o) else Abs N c a (a == 4) d e f g h (fun p => b p) fun q => Abt N q fun r => b r
def Ahr : Arc := @A5e @Acc @Abs @Abt
def Cjh (N : Nat) : Ab4 A5d [Ash] := fun R x C => Ahr N x.1.1.1 x.1.1.2.1 x.1.1.2.2.1 x.1.1.2.2.2.1 x.1.1.2.2.2.2.1 x.1.2.1 x.1.2.2.1 x.1.2.2.2.1 (fun y0 => C.1 ((y0, ()), (())))
def Bgm (Ahr : Arc) (N : Nat) : Go.AX.Aaj := Ac8 [true, true, true, true] [] false 4 0 A5d [Ash] (fun R x C => Ahr N x.1.1.1 x.1.1.2.1 x.1.1.2.2.1 x.1.1.2.2.2.1 x.1.1.2.2.2.2.1 x.1.2.1 x.1.2.2.1 x.1.2.2.2.1 (fun y0 => C.1 ((y0, ()), (()))))
def Bgn (N : Nat) : Go.AX.Aaj := Bgm @Ahr N
def Cji (N : Nat) : List (Nat × Ac1) := [(28, Aaa Agb (A75 N)), (22, Aaa Agc (A77 N)), (16, Aaa Agd (A79 N)), (38, Aaa Age (A8b N))]
def Bx3 (N : Nat) : List (Nat × Go.AX.Aaj) := [(87, Bx0 N)]
def Bhr : Aac := ⟨B7e, []⟩
def A0n : Aac := ⟨Ah0, []⟩
abbrev Ca4 (R : Type) := (List UInt8)->d3->d1->d2->d4->Int->Int->(Bool->Option R)->Option R
abbrev Ahz := {R : Type} → Nat → Ca4 R
def Bhs (Ahr : Arc) : Ahz := fun {R} N a b c d e f g h => Ahr N a b c d e f g 9 fun i => h i
def Aa9 : Ahz := @Bhs @Ahr
def Cnd (N : Nat) : Ab4 Bhr [A0n] := fun R x C => Aa9 N x.1.1.1 x.1.1.2.1 x.1.1.2.2.1 x.1.1.2.2.2.1 x.1.1.2.2.2.2.1 x.1.2.1 x.1.2.2.1 (fun y0 => C.1 ((y0, ()), (())))
def Arn (Aa9 : Ahz) (N : Nat) : Go.AX.Aaj := Ac8 [true, true, true] [] false 3 0 Bhr [A0n] (fun R x C => Aa9 N x.1.1.1 x.1.1.2.1 x.1.1.2.2.1 x.1.1.2.2.2.1 x.1.1.2.2.2.2.1 x.1.2.1 x.1.2.2.1 (fun y0 => C.1 ((y0, ()), (()))))
def Bht (N : Nat) : Go.AX.Aaj := Arn @Aa9 N
def Cne (N : Nat) : List (Nat × Ac1) := []
def Ca5 (N : Nat) : List (Nat × Go.AX.Aaj) := [(56, Bgn N)]
def A2n : Aac := ⟨B7e, []⟩
def Ard : Aac := ⟨Ah0, []⟩
abbrev Bto (R : Type) := (List UInt8)->d3->d1->d2->d4->Int->Int->(Bool->Option R)->Option R
abbrev Ahe := {R : Type} → Nat → Bto R
def A2o (Aay : Agr) (Aa9 : Ahz) : Ahe := fun {R} N c d e f g a h b => Aay N a 1 3 fun i => if (i = true) then (Aa9 N c d e f g a h fun j => b j) else Aay N a 8 9 fun l => if (l = true) then (Aa9 N c d e f g a h fun m => b m) else b false
def Aba : Ahe := @A2o @Aay @Aa9
def Cil (N : Nat) : Ab4 A2n [Ard] := fun R x C => Aba N x.1.1.1 x.1.1.2.1 x.1.1.2.2.1 x.1.1.2.2.2.1 x.1.1.2.2.2.2.1 x.1.2.1 x.1.2.2.1 (fun y0 => C.1 ((y0, ()), (())))
def Amx (Aba : Ahe) (N : Nat) : Go.AX.Aaj := Ac8 [true, true, true] [] false 3 0 A2n [Ard] (fun R x C => Aba N x.1.1.1 x.1.1.2.1 x.1.1.2.2.1 x.1.1.2.2.2.1 x.1.1.2.2.2.2.1 x.1.2.1 x.1.2.2.1 (fun y0 => C.1 ((y0, ()), (()))))
def Beh (N : Nat) : Go.AX.Aaj := Amx @Aba N
def Cim (N : Nat) : List (Nat × Ac1) := []
def Btp (N : Nat) : List (Nat × Go.AX.Aaj) := [(20, A5b N), (31, Bht N)]
def Bl1 : Code := Tryz.f32.body.getD .skip
def Bai : Aac := ⟨[Bta, Alk], []⟩
def Awt : Aac := ⟨Ah0, []⟩
abbrev B5n (R : Type) := (List UInt8)->d3->d1->d2->d4->Int->(Bool->Option R)->Option R
abbrev Aj3 := {R : Type} → Nat → B5n R
def Baj (Aay : Agr) : Aj3 := fun {R} N f g h i b a c => Aay N a 0 (wi ((len b) - 1)) fun e => if (e = true) then (if (0 ≤ a ∧ a < len b) then (let d := (b.getD a.toNat (0, (0, (0, (0, 0))))).1; if ((d != 13) = true) then (if (0 ≤ a ∧ a < len b) then (c (d != 6)) else none) else c false) else none) else c false
def Acj : Aj3 := @Baj @Aay
def Clq (N : Nat) : Ab4 Bai [Awt] := fun R x C => Acj N x.1.1.1 x.1.1.2.1 x.1.1.2.2.1 x.1.1.2.2.2.1 x.1.1.2.2.2.2.1 x.1.2.1 (fun y0 => C.1 ((y0, ()), (())))
def Ap3 (Acj : Aj3) (N : Nat) : Go.AX.Aaj := Ac8 [true, true] [] false 2 0 Bai [Awt] (fun R x C => Acj N x.1.1.1 x.1.1.2.1 x.1.1.2.2.1 x.1.1.2.2.2.1 x.1.1.2.2.2.2.1 x.1.2.1 (fun y0 => C.1 ((y0, ()), (()))))
def Bl2 (N : Nat) : Go.AX.Aaj := Ap3 @Acj N
def Clr (N : Nat) : List (Nat × Ac1) := []
def B5o (N : Nat) : List (Nat × Go.AX.Aaj) := [(20, A5b N)]
def Ahf : Aac := ⟨[wq9, Bhc, A0z, (81, .one (.val .bool))], Bbh⟩
def Ayj : Aac := ⟨Aw8, []⟩
def Ayk : Aac := ⟨Cdx, Bbh⟩
def Bei : Acy := .cons .ret Ayj (.cons .normal Ayk (.nil))
abbrev Btq (R : Type) := Int->Bool->(List UInt8)->d3->d1->d2->d4->Int->Int->Int->Int->Int->(Bool->Option R)->((List UInt8)->d3->d1->d2->d4->Int->Int->Int->Int->Int->Option R)->Option R
abbrev Aig := {R : Type} → Nat → Btq R
def A2p (Acj : Aj3) (Aa9 : Ahz) (Aay : Agr) : Aig := fun {R} N l m b c d e f n g h i j a o => if (m = true) then (if ((g == 0) = true) then (Acj N b c d e f h fun p => if (p = true) then (Aa9 N b c d e f i j fun q => a q) else a false) else a false) else if ((l == 10) = true) then (if ((g == 0) = true) then (Aay N h 0 4000 fun r => if (r = true) then (Aa9 N b c d e f i j fun s => a s) else a false) else a false) else if ((l == 11) = true) then (if ((g == 0) = true) then (if ((h == 0) = true) then (Aa9 N b c d e f i j fun t => a t) else a false) else a false) else if ((l == 12) = true) then (Aay N g 0 1000 fun u => if (u = true) then (Acj N b c d e f h fun v => if (v = true) then (Aa9 N b c d e f i j fun w => a w) else a false) else a false) else if ((l == 13) = true) then (Aay N g (-2147483648) 2147483647 fun x => if (x = true) then (Acj N b c d e f h fun y => if (y = true) then (if ((i == 0) = true) then (a (j == 0)) else a false) else a false) else a false) else o b c d e f n g h i j
def Acm : Aig := @A2p @Acj @Aa9 @Aay
def Amy (Acm : Aig) (N : Nat) : Aap Ahf := fun R x K => Acm N x.1.2.2.1 x.1.2.2.2.1 x.2.1.1 x.2.1.2.1 x.2.1.2.2.1 x.2.1.2.2.2.1 x.2.1.2.2.2.2.1 x.2.2.1.1 x.2.2.1.2.1 x.2.2.1.2.2.1 x.2.2.1.2.2.2.1 x.2.2.1.2.2.2.2.1 (fun y0 => K .ret (Aab Ayj ((y0, ()), (())))) (fun y0 y1 y2 y3 y4 y5 y6 y7 y8 y9 => K .normal (Aab Ayk (((), (), ()), ((y0, y1, y2, y3, y4, ()), (y5, y6, y7, y8, y9, ()), ()))))
def Bej (N : Nat) : Aap Ahf := Amy @Acm N
def Ahg : Aac := ⟨[wq9, Bhc, A0z, (25, .one (.val .bool))], Bbh⟩
def Ayl : Aac := ⟨Aw8, []⟩
def Aym : Aac := ⟨Cdx, Bbh⟩
def Bek : Acy := .cons .ret Ayl (.cons .normal Aym (.nil))
abbrev Btr (R : Type) := Int->Bool->(List UInt8)->d3->d1->d2->d4->Int->Int->Int->Int->Int->(Bool->Option R)->((List UInt8)->d3->d1->d2->d4->Int->Int->Int->Int->Int->Option R)->Option R
abbrev Aih := {R : Type} → Nat → Btr R
def A2q (Aa9 : Ahz) (Acj : Aj3) (Acm : Aig) : Aih := fun {R} N b o c d e f g m h i j l a n => if (o = true) then (Aa9 N c d e f g h i fun p => if (p = true) then (Aa9 N c d e f g j l fun q => a q) else a false) else if ((b == 6) = true) then (Aa9 N c d e f g h i fun r => if (r = true) then (if ((j == 0) = true) then (a (l == 0)) else a false) else a false) else if ((b == 7) = true) then (if ((h == 0) = true) then (Acj N c d e f g i fun s => if (s = true) then (if ((j == 0) = true) then (a (l == 0)) else a false) else a false) else a false) else if ((b == 8) = true) then (Acm N b (b == 8) c d e f g m h i j l (fun t => a t) fun u v w x y z A B C D => n u v w x y z A B C D) else Acm N b (b == 9) c d e f g m h i j l (fun E => a E) fun F G H I J L M O P Q => n F G H I J L M O P Q
def Acn : Aih := @A2q @Aa9 @Acj @Acm
def Amz (Acn : Aih) (N : Nat) : Aap Ahg := fun R x K => Acn N x.1.2.2.1 x.1.2.2.2.1 x.2.1.1 x.2.1.2.1 x.2.1.2.2.1 x.2.1.2.2.2.1 x.2.1.2.2.2.2.1 x.2.2.1.1 x.2.2.1.2.1 x.2.2.1.2.2.1 x.2.2.1.2.2.2.1 x.2.2.1.2.2.2.2.1 (fun y0 => K .ret (Aab Ayl ((y0, ()), (())))) (fun y0 y1 y2 y3 y4 y5 y6 y7 y8 y9 => K .normal (Aab Aym (((), (), ()), ((y0, y1, y2, y3, y4, ()), (y5, y6, y7, y8, y9, ()), ()))))
def Bel (N : Nat) : Aap Ahg := Amz @Acn N
def Ahh : Aac := ⟨[wq9, Bhc, A0z, Bkp], Bbh⟩
def Ayn : Aac := ⟨Aw8, []⟩
def Ayo : Aac := ⟨Cdx, Bbh⟩
def Bem : Acy := .cons .ret Ayn (.cons .normal Ayo (.nil))
abbrev Bts (R : Type) := Int->Bool->(List UInt8)->d3->d1->d2->d4->Int->Int->Int->Int->Int->(Bool->Option R)->((List UInt8)->d3->d1->d2->d4->Int->Int->Int->Int->Int->Option R)->Option R
abbrev Aii := {R : Type} → Nat → Bts R
def A2r (Aba : Ahe) (Aa9 : Ahz) (Acn : Aih) : Aii := fun {R} N a o b c d e f m h i j l g n => if (o = true) then (Aba N b c d e f h i fun p => if (p = true) then (Aa9 N b c d e f j l fun q => g q) else g false) else if ((a == 3) = true) then (Acn N a (a == 3) b c d e f m h i j l (fun r => g r) fun s t u v w x y z A B => n s t u v w x y z A B) else Acn N a (a == 5) b c d e f m h i j l (fun C => g C) fun D E F G H I J L M O => n D E F G H I J L M O
def Ab9 : Aii := @A2r @Aba @Aa9 @Acn
def Am0 (Ab9 : Aii) (N : Nat) : Aap Ahh := fun R x K => Ab9 N x.1.2.2.1 x.1.2.2.2.1 x.2.1.1 x.2.1.2.1 x.2.1.2.2.1 x.2.1.2.2.2.1 x.2.1.2.2.2.2.1 x.2.2.1.1 x.2.2.1.2.1 x.2.2.1.2.2.1 x.2.2.1.2.2.2.1 x.2.2.1.2.2.2.2.1 (fun y0 => K .ret (Aab Ayn ((y0, ()), (())))) (fun y0 y1 y2 y3 y4 y5 y6 y7 y8 y9 => K .normal (Aab Ayo (((), (), ()), ((y0, y1, y2, y3, y4, ()), (y5, y6, y7, y8, y9, ()), ()))))
def Ben (N : Nat) : Aap Ahh := Am0 @Ab9 N
def Ahi : Aac := ⟨Cdx, Bbh⟩
def Ayp : Aac := ⟨Aw8, []⟩
def Beo : Acy := .cons .ret Ayp (.nil)
abbrev Btt (R : Type) := (List UInt8)->d3->d1->d2->d4->Int->Int->Int->Int->Int->(Bool->Option R)->Option R
abbrev Aij := {R : Type} → Nat → Btt R
def A2s (Aba : Ahe) (Aay : Agr) (Aa9 : Ahz) : Aij := fun {R} N b c d e f g h i j l a => if ((g == 58) = true) then (Aba N b c d e f h i fun m => if (m = true) then (if ((j == 0) = true) then (a (l == 0)) else a false) else a false) else if ((g == 59) = true) then (Aba N b c d e f h i fun n => if (n = true) then (if ((j == 0) = true) then (a (l == 0)) else a false) else a false) else Aay N g 41 57 fun o => if (o = true) then (Aba N b c d e f h i fun p => if (p = true) then (Aa9 N b c d e f j l fun q => a q) else a false) else a false
def Aca : Aij := @A2s @Aba @Aay @Aa9
def Am1 (Aca : Aij) (N : Nat) : Aap Ahi := fun R x K => Aca N x.2.1.1 x.2.1.2.1 x.2.1.2.2.1 x.2.1.2.2.2.1 x.2.1.2.2.2.2.1 x.2.2.1.1 x.2.2.1.2.1 x.2.2.1.2.2.1 x.2.2.1.2.2.2.1 x.2.2.1.2.2.2.2.1 (fun y0 => K .ret (Aab Ayp ((y0, ()), (()))))
def Bep (N : Nat) : Aap Ahi := Am1 @Aca N
def Bak : Aac := ⟨[Bta, (1, .agg B7d)], []⟩
def Awu : Aac := ⟨Ah0, []⟩
abbrev B5p (R : Type) := (List UInt8)->d3->d1->d2->d4->Int->Int->Int->Int->Int->(Bool->Option R)->Option R
abbrev Al7 := {R : Type} → Nat → B5p R
def Bal (Ab9 : Aii) (Aca : Aij) : Al7 := fun {R} N c d e f g a h i j l b => if ((a == 1) = true) then (Ab9 N a (a == 1) c d e f g a h i j l (fun m => b m) fun n o p q r s t u v w => Aca N n o p q r s t u v w fun x => b x) else if ((a == 2) = true) then (Ab9 N a (a == 2) c d e f g a h i j l (fun y => b y) fun z A B C D E F G H I => Aca N z A B C D E F G H I fun J => b J) else Ab9 N a (a == 4) c d e f g a h i j l (fun L => b L) fun M O P Q S T U V W X => Aca N M O P Q S T U V W X fun Y => b Y
def Aeg : Al7 := @Bal @Ab9 @Aca
def Cls (N : Nat) : Ab4 Bak [Awu] := fun R x C => Aeg N x.1.1.1 x.1.1.2.1 x.1.1.2.2.1 x.1.1.2.2.2.1 x.1.1.2.2.2.2.1 x.1.2.1.1 x.1.2.1.2.1 x.1.2.1.2.2.1 x.1.2.1.2.2.2.1 x.1.2.1.2.2.2.2.1 (fun y0 => C.1 ((y0, ()), (())))
def Au3 (Aeg : Al7) (N : Nat) : Go.AX.Aaj := Ac8 [true, true] [] false 2 0 Bak [Awu] (fun R x C => Aeg N x.1.1.1 x.1.1.2.1 x.1.1.2.2.1 x.1.1.2.2.2.1 x.1.1.2.2.2.2.1 x.1.2.1.1 x.1.2.1.2.1 x.1.2.1.2.2.1 x.1.2.1.2.2.2.1 x.1.2.1.2.2.2.2.1 (fun y0 => C.1 ((y0, ()), (()))))
def Bl3 (N : Nat) : Go.AX.Aaj := Au3 @Aeg N
def Clt (N : Nat) : List (Nat × Ac1) := [(30, Aaa Ahf (Bej N)), (16, Aaa Ahg (Bel N)), (10, Aaa Ahh (Ben N)), (48, Aaa Ahi (Bep N))]
def B5q (N : Nat) : List (Nat × Go.AX.Aaj) := [(30, Beh N), (31, Bht N), (32, Bl2 N), (20, A5b N)]
def Bjg : Code := Tryz.f19.body.getD .skip
def A6r : Aac := ⟨Aw9, []⟩
def Aul : Aac := ⟨Ah0, []⟩
abbrev B02 (R : Type) := Int->(Bool->Option R)->Option R
abbrev Ali := {R : Type} → Nat → B02 R
def Ac2 : Ali := fun {R} N a b => if ((a != 7) = true) then (if ((a != 11) = true) then (if ((a != 12) = true) then (b (a != 13)) else b false) else b false) else b false
def B03 (N : Nat) : Ab4 A6r [Aul] := fun R x C => Ac2 N x.1.1 (fun y0 => C.1 ((y0, ()), (())))
def Asy (Ac2 : Ali) (N : Nat) : Go.AX.Aaj := Ac8 [true] [] false 1 0 A6r [Aul] (fun R x C => Ac2 N x.1.1 (fun y0 => C.1 ((y0, ()), (()))))
def Bjh (N : Nat) : Go.AX.Aaj := Asy @Ac2 N
def B04 (N : Nat) : List (Nat × Ac1) := []
def Bji (N : Nat) : List (Nat × Go.AX.Aaj) := []
def Aik : Aac := ⟨[wq2, Azo, A8q, wq6], Bbh⟩
def Ayq : Aac := ⟨[wq2, Azo, A8q], A3k⟩
def Beq : Acy := .cons .normal Ayq (.nil)
abbrev Btu (R : Type) := Int->Int->(List UInt8)->d3->d1->d2->d4->Int->Int->Int->Int->Int->(Int->Int->(List UInt8)->d3->d1->d2->d4->Option R)->Option R
abbrev Ak6 := {R : Type} → Nat → Btu R
def Abg : Ak6 := fun {R} N h a b c d e f i j l m n g => if ((i == 12) = true) then (g j a b c d e f) else g h a b c d e f
def Ape (Abg : Ak6) (N : Nat) : Aap Aik := fun R x K => Abg N x.1.2.1 x.1.2.2.1 x.2.1.1 x.2.1.2.1 x.2.1.2.2.1 x.2.1.2.2.2.1 x.2.1.2.2.2.2.1 x.2.2.1.1 x.2.2.1.2.1 x.2.2.1.2.2.1 x.2.2.1.2.2.2.1 x.2.2.1.2.2.2.2.1 (fun y0 y1 y2 y3 y4 y5 y6 => K .normal (Aab Ayq (((), y0, y1, ()), ((y2, y3, y4, y5, y6, ()), ()))))
def Ber (N : Nat) : Aap Aik := Ape @Abg N
def Agn : Aac := ⟨[wq2, Azo, A8q], A3k⟩
def Are : Aac := ⟨A8r, []⟩
def Arf : Aac := ⟨[wq2, Azo], A3k⟩
def Bes : Acy := .cons .ret Are (.cons (.exit 0) Arf (.nil))
abbrev A2t (R : Type) := Int->Int->(List UInt8)->d3->d1->d2->d4->(Int->Option R)->(Int->(List UInt8)->d3->d1->d2->d4->Option R)->Option R
abbrev Bet (R : Type) := Int->Int->(List UInt8)->d3->d1->d2->d4->Option R
abbrev Am2 := {R : Type} → Nat → Nat → A2t R
def Aum (Aeg : Al7) (Ac2 : Ali) (Abg : Ak6) {R : Type} (N : Nat) (rc : Bet R) : A2t R := fun c b e f g h a o p => if ((decide (b < (len a))) = true) then (if (0 ≤ b ∧ b < len a) then (let d := (a.getD b.toNat (0, (0, (0, (0, 0))))).1; let i := (a.getD b.toNat (0, (0, (0, (0, 0))))).2.1; let j := (a.getD b.toNat (0, (0, (0, (0, 0))))).2.2.1; let l := (a.getD b.toNat (0, (0, (0, (0, 0))))).2.2.2.1; let m := (a.getD b.toNat (0, (0, (0, (0, 0))))).2.2.2.2; let n := (wi (b + 1)); Aeg N e f g h a d i j l m fun q => if ((!q) = true) then (o 60) else if ((!((decide (c > 0)) == (d == 13))) = true) then (o 60) else if ((n == (len a)) = true) then (Ac2 N d fun r => if (r = true) then (o 60) else if ((d == 5) = true) then (if (0 ≤ n ∧ n < len a) then (if (((a.getD n.toNat (0, (0, (0, (0, 0))))).1 != 6) = true) then (o 60) else if ((decide (c > 0)) = true) then (Abg N (wi (c - 1)) b e f g h a d i j l m fun s t u v w x y => rc s (wi (t + 1)) u v w x y) else Abg N c b e f g h a d i j l m fun z A B C D E F => rc z (wi (A + 1)) B C D E F) else none) else if ((decide (c > 0)) = true) then (Abg N (wi (c - 1)) b e f g h a d i j l m fun G H I J L M O => rc G (wi (H + 1)) I J L M O) else Abg N c b e f g h a d i j l m fun P Q S T U V W => rc P (wi (Q + 1)) S T U V W) else if ((d == 5) = true) then (if (0 ≤ n ∧ n < len a) then (if (((a.getD n.toNat (0, (0, (0, (0, 0))))).1 != 6) = true) then (o 60) else if ((decide (c > 0)) = true) then (Abg N (wi (c - 1)) b e f g h a d i j l m fun X Y Z aa ab ac ad => rc X (wi (Y + 1)) Z aa ab ac ad) else Abg N c b e f g h a d i j l m fun ae af ag ah ai aj ak => rc ae (wi (af + 1)) ag ah ai aj ak) else none) else if ((decide (c > 0)) = true) then (Abg N (wi (c - 1)) b e f g h a d i j l m fun al am an ao ap aq ar => rc al (wi (am + 1)) an ao ap aq ar) else Abg N c b e f g h a d i j l m fun au av aw ax ay az ba => rc au (wi (av + 1)) aw ax ay az ba) else none) else p c e f g h a
def Aco {R : Type} (N : Nat) : Nat → A2t R
 | 0 => fun _ _ _ _ _ _ _ _ _ => none
 | k + 1 => fun a b c d e f g h i => Aum @Aeg @Ac2 @Abg N (fun a b c d e f g => Aco N k a b c d e f g h i) a b c d e f g h i
def Apf (Aco : Am2) (N k : Nat) : Aap Agn := fun R x K => Aco N k x.1.2.1 x.1.2.2.1 x.2.1.1 x.2.1.2.1 x.2.1.2.2.1 x.2.1.2.2.2.1 x.2.1.2.2.2.2.1 (fun y0 => K .ret (Aab Are ((y0, ()), (())))) (fun y0 y1 y2 y3 y4 y5 => K (.exit 0) (Aab Arf (((), y0, ()), ((y1, y2, y3, y4, y5, ()), ()))))
def A2u (N k : Nat) : Aap Agn := Apf @Aco N k
def Ago : Aac := ⟨Cig, A3k⟩
def Arg : Aac := ⟨A8r, []⟩
def Arh : Aac := ⟨[], []⟩
def Beu : Acy := .cons .ret Arg (.cons (.exit 2) Arh (.nil))
abbrev A2v (R : Type) := Int->(List UInt8)->d3->d1->d2->d4->(Int->Option R)->(Option R)->Option R
abbrev Bev (R : Type) := Int->(List UInt8)->d3->d1->d2->d4->Option R
abbrev Am3 := {R : Type} → Nat → Nat → A2v R
def A2w (Aay : Agr) (Ac2 : Ali) {R : Type} (N : Nat) (rc : Bev R) : A2v R := fun a g h i b c e j => if ((decide (a < (len b))) = true) then (if (0 ≤ a ∧ a < len b) then (let d := (b.getD a.toNat (0, (0, 0))).1; Aay N d 0 (wi ((len c) - 1)) fun l => if ((!l) = true) then (e 60) else if (0 ≤ d ∧ d < len c) then (if (((c.getD d.toNat (0, (0, (0, (0, 0))))).1 == 13) = true) then (e 60) else Aay N ((b.getD a.toNat (0, (0, 0))).2.1) 0 8 fun m => if ((!m) = true) then (e 60) else Aay N ((b.getD a.toNat (0, (0, 0))).2.2) 2 4001 fun n => if ((!n) = true) then (e 60) else if ((decide (d > 0)) = true) then (let f := (wi (d - 1)); if (0 ≤ f ∧ f < len c) then (Ac2 N ((c.getD f.toNat (0, (0, (0, (0, 0))))).1) fun o => if (o = true) then (e 60) else rc (wi (a + 1)) g h i b c) else none) else rc (wi (a + 1)) g h i b c) else none) else none) else j
def Acp {R : Type} (N : Nat) : Nat → A2v R
 | 0 => fun _ _ _ _ _ _ _ _ => none
 | k + 1 => fun a b c d e f g h => A2w @Aay @Ac2 N (fun a b c d e f => Acp N k a b c d e f g h) a b c d e f g h
def Apg (Acp : Am3) (N k : Nat) : Aap Ago := fun R x K => Acp N k x.1.2.1 x.2.1.1 x.2.1.2.1 x.2.1.2.2.1 x.2.1.2.2.2.1 x.2.1.2.2.2.2.1 (fun y0 => K .ret (Aab Arg ((y0, ()), (())))) (K (.exit 2) (Aab Arh ((()), (()))))
def A2x (N k : Nat) : Aap Ago := Apg @Acp N k
def Bam : Aac := ⟨Cdz, []⟩
def Awv : Aac := ⟨Aw9, []⟩
abbrev B5r (R : Type) := (List UInt8)->d3->d1->d2->d4->(Int->Option R)->Option R
abbrev Au4 := {R : Type} → Nat → B5r R
def Ban (Aef : Al6) (Aco : Am2) (Acp : Am3) : Au4 := fun {R} N b c d e f a => Aef N b c d e f fun g => if ((g != 0) = true) then (a g) else Aco N N 0 0 b c d e f (fun h => a h) fun i j l m n o => if ((decide (i > 0)) = true) then (a 60) else Acp N N 0 j l m n o (fun p => a p) (a 0)
def Ai1 : Au4 := @Ban @Aef @Aco @Acp
def Clu (N : Nat) : Ab4 Bam [Awv] := fun R x C => Ai1 N x.1.1.1 x.1.1.2.1 x.1.1.2.2.1 x.1.1.2.2.2.1 x.1.1.2.2.2.2.1 (fun y0 => C.1 ((y0, ()), (())))
def Bl4 (Ai1 : Au4) (N : Nat) : Go.AX.Aaj := Ac8 [true] [] false 1 0 Bam [Awv] (fun R x C => Ai1 N x.1.1.1 x.1.1.2.1 x.1.1.2.2.1 x.1.1.2.2.2.1 x.1.1.2.2.2.2.1 (fun y0 => C.1 ((y0, ()), (()))))
def Bl5 (N : Nat) : Go.AX.Aaj := Bl4 @Ai1 N
def Clv (N : Nat) : List (Nat × Ac1) := [(28, Aaa Aik (Ber N)), (13, Aaa Agn (A2u N N)), (39, Aaa Ago (A2x N N))]
def B5s (N : Nat) : List (Nat × Go.AX.Aaj) := [(17, Bl0 N), (18, Bl3 N), (19, Bjh N), (20, A5b N)]
def Ayr : Aac := ⟨[(0, .agg [.val .str, .val z3, .val z1, .val z4, .val z6])], []⟩
def Aoj : Aac := ⟨Ah0, []⟩
abbrev Bor (R : Type) := (List UInt8)->d3->d1->d2->d4->(Bool->Option R)->Option R
abbrev Ays := {R : Type} → Nat → Bor R
def Ayt (Ait : Aur) (Akg : Axr) (Ai1 : Au4) : Ays := fun {R} N a b c d e f => Ait N a b c d e fun g => if (g = true) then (f true) else Akg N a b c d e fun h => Ai1 N a b c d e fun i => if ((h == i) = true) then (f true) else f false
def Am4 : Ays := @Ayt @Ait @Akg @Ai1
def Cgc (N : Nat) : Ab4 Ayr [Aoj] := fun R x C => Am4 N x.1.1.1 x.1.1.2.1 x.1.1.2.2.1 x.1.1.2.2.2.1 x.1.1.2.2.2.2.1 (fun y0 => C.1 ((y0, ()), (())))
def Bos (Am4 : Ays) (N : Nat) : Go.AX.Aaj := Ac8 [true] [] false 1 0 Ayr [Aoj] (fun R x C => Am4 N x.1.1.1 x.1.1.2.1 x.1.1.2.2.1 x.1.1.2.2.2.1 x.1.1.2.2.2.2.1 (fun y0 => C.1 ((y0, ()), (()))))
def A8c (N : Nat) : Go.AX.Aaj := Bos @Am4 N
def Cgd (N : Nat) : List (Nat × Ac1) := []
def Bot (N : Nat) : List (Nat × Go.AX.Aaj) := [(4, Bk6 N), (5, A8v N), (6, Bog N), (7, Bl5 N)]
end
end Q

/- Part D2 of the proof. -/
import Derived.Test.YtgmoccpcginieaaD1
open Go Go.AX Go.Proofs
namespace Q
noncomputable section
set_option maxRecDepth 100000
set_option linter.unusedVariables false
def Bc9 (Aa9 : Ahc) (Ac6 : Amf) (Aat : Agh) (Aal : Af7) (Adu : Aw4) (Adv : Aw5) : Am3 := fun {R} N c a => if ((decide ((len c) < 15)) = true) then (a ([] : List UInt8) 0 0 0 0 7 ([] : List (List UInt8 × Bool × List Int)) ([] : List (Int × Int × Int)) ([] : List (Int × Int))) else let b := (wi ((len c) - 4)); if ((0 ≤ (len c)) ∧ ((len c) ≤ (len c))) then (if ((0 ≤ b) ∧ (b ≤ (len c))) then (Aa9 N (List.drop (Int.toNat b) (List.take (Int.toNat (len c)) c)) fun T => if ((0 ≤ b) ∧ (b ≤ (len c))) then (if (((0 :Int) ≤ (0 :Int)) ∧ (0 ≤ b)) then (let M := (List.drop (0 : Nat) (List.take (Int.toNat b) c)); Ac6 N M fun U => if ((T != U) = true) then (a ([] : List UInt8) 0 0 0 0 8 ([] : List (List UInt8 × Bool × List Int)) ([] : List (Int × Int × Int)) ([] : List (Int × Int))) else if ((0 ≤ b) ∧ (b ≤ (len c))) then (if (((0 :Int) ≤ (0 :Int)) ∧ (0 ≤ b)) then (Aat N 3 M 0 false (fun V W X Y => if ((!((List.map (fun n : Int => UInt8.ofNat (Int.toNat n)) Y) == [(98 : UInt8), (98 : UInt8), (1 : UInt8)])) = true) then (a ([] : List UInt8) 0 0 0 0 3 ([] : List (List UInt8 × Bool × List Int)) ([] : List (Int × Int × Int)) ([] : List (Int × Int))) else Aal N 1 V W X fun Z y7 y8 y9 => Aat N Z y7 y8 y9 (fun y10 y11 y12 y13 => Aal N 2 y10 y11 y12 fun y14 y15 y16 y17 => Adu N N b y14 0 ([] : List UInt8) 0 0 (List.map (fun n : Int => UInt8.ofNat (Int.toNat n)) y13) 0 0 y15 y16 y17 ([] : List (List UInt8 × Bool × List Int)) ([] : List (Int × Int × Int)) ([] : List (Int × Int)) ([] : List (List UInt8 × Bool × List Int)) ([] : List (Int × Int × Int)) ([] : List (Int × Int)) fun y18 y19 y20 y21 y22 y23 y24 y25 y26 y27 y28 y29 y30 y31 y32 y33 => Aal N 1 y25 y26 y27 fun y34 y35 y36 y37 => Adv N N y18 y34 0 y19 y20 y21 y22 y23 y24 y35 y36 y37 y28 y29 y30 y31 y32 y33 fun O y39 y40 y41 d e f y45 y46 y47 y48 y49 y50 g h i => Aal N 4 y45 y46 y47 fun D y55 E y57 => Aat N D y55 E y57 (fun y58 y59 y60 y61 => if (y60 = true) then (a d e f 0 0 3 g h i) else if ((y59 != O) = true) then (a d e f 0 0 3 g h i) else a d e f E D 0 g h i) fun y62 y63 y64 y65 => if (y65 = true) then (a d e f 0 0 3 g h i) else if ((y64 != O) = true) then (a d e f 0 0 3 g h i) else a d e f E D 0 g h i) fun y66 y67 y68 y69 => Aal N 2 y67 y68 y69 fun y70 y71 y72 y73 => Adu N N b y70 0 ([] : List UInt8) 0 0 (List.map (fun n : Int => UInt8.ofNat (Int.toNat n)) y66) 0 0 y71 y72 y73 ([] : List (List UInt8 × Bool × List Int)) ([] : List (Int × Int × Int)) ([] : List (Int × Int)) ([] : List (List UInt8 × Bool × List Int)) ([] : List (Int × Int × Int)) ([] : List (Int × Int)) fun y74 y75 y76 y77 y78 y79 y80 y81 y82 y83 y84 y85 y86 y87 y88 y89 => Aal N 1 y81 y82 y83 fun y90 y91 y92 y93 => Adv N N y74 y90 0 y75 y76 y77 y78 y79 y80 y91 y92 y93 y84 y85 y86 y87 y88 y89 fun P y95 y96 y97 j l m y101 y102 y103 y104 y105 y106 o p q => Aal N 4 y101 y102 y103 fun F y111 G y113 => Aat N F y111 G y113 (fun y114 y115 y116 y117 => if (y116 = true) then (a j l m 0 0 3 o p q) else if ((y115 != P) = true) then (a j l m 0 0 3 o p q) else a j l m G F 0 o p q) fun y118 y119 y120 y121 => if (y121 = true) then (a j l m 0 0 3 o p q) else if ((y120 != P) = true) then (a j l m 0 0 3 o p q) else a j l m G F 0 o p q) fun y122 y123 y124 y125 => if ((!((List.map (fun n : Int => UInt8.ofNat (Int.toNat n)) y122) == [(98 : UInt8), (98 : UInt8), (1 : UInt8)])) = true) then (a ([] : List UInt8) 0 0 0 0 3 ([] : List (List UInt8 × Bool × List Int)) ([] : List (Int × Int × Int)) ([] : List (Int × Int))) else Aal N 1 y123 y124 y125 fun y126 y127 y128 y129 => Aat N y126 y127 y128 y129 (fun y130 y131 y132 y133 => Aal N 2 y130 y131 y132 fun y134 y135 y136 y137 => Adu N N b y134 0 ([] : List UInt8) 0 0 (List.map (fun n : Int => UInt8.ofNat (Int.toNat n)) y133) 0 0 y135 y136 y137 ([] : List (List UInt8 × Bool × List Int)) ([] : List (Int × Int × Int)) ([] : List (Int × Int)) ([] : List (List UInt8 × Bool × List Int)) ([] : List (Int × Int × Int)) ([] : List (Int × Int)) fun y138 y139 y140 y141 y142 y143 y144 y145 y146 y147 y148 y149 y150 y151 y152 y153 => Aal N 1 y145 y146 y147 fun y154 y155 y156 y157 => Adv N N y138 y154 0 y139 y140 y141 y142 y143 y144 y155 y156 y157 y148 y149 y150 y151 y152 y153 fun Q y159 y160 y161 r s t y165 y166 y167 y168 y169 y170 u v w => Aal N 4 y165 y166 y167 fun H y175 I y177 => Aat N H y175 I y177 (fun y178 y179 y180 y181 => if (y180 = true) then (a r s t 0 0 3 u v w) else if ((y179 != Q) = true) then (a r s t 0 0 3 u v w) else a r s t I H 0 u v w) fun y182 y183 y184 y185 => if (y185 = true) then (a r s t 0 0 3 u v w) else if ((y184 != Q) = true) then (a r s t 0 0 3 u v w) else a r s t I H 0 u v w) fun y186 y187 y188 y189 => Aal N 2 y187 y188 y189 fun y190 y191 y192 y193 => Adu N N b y190 0 ([] : List UInt8) 0 0 (List.map (fun n : Int => UInt8.ofNat (Int.toNat n)) y186) 0 0 y191 y192 y193 ([] : List (List UInt8 × Bool × List Int)) ([] : List (Int × Int × Int)) ([] : List (Int × Int)) ([] : List (List UInt8 × Bool × List Int)) ([] : List (Int × Int × Int)) ([] : List (Int × Int)) fun y194 y195 y196 y197 y198 y199 y200 y201 y202 y203 y204 y205 y206 y207 y208 y209 => Aal N 1 y201 y202 y203 fun y210 y211 y212 y213 => Adv N N y194 y210 0 y195 y196 y197 y198 y199 y200 y211 y212 y213 y204 y205 y206 y207 y208 y209 fun S y215 y216 y217 x y z y221 y222 y223 y224 y225 y226 A B C => Aal N 4 y221 y222 y223 fun J y231 L y233 => Aat N J y231 L y233 (fun y234 y235 y236 y237 => if (y236 = true) then (a x y z 0 0 3 A B C) else if ((y235 != S) = true) then (a x y z 0 0 3 A B C) else a x y z L J 0 A B C) fun y238 y239 y240 y241 => if (y241 = true) then (a x y z 0 0 3 A B C) else if ((y240 != S) = true) then (a x y z 0 0 3 A B C) else a x y z L J 0 A B C) else none) else none) else none) else none) else none) else none
def Acp : Am3 := @Bc9 @Aa9 @Ac6 @Aat @Aal @Adu @Adv
def Dab (N : Nat) : Abg Bpc [A7c] := fun R x C => Acp N x.1.1 (fun y0 y1 y2 y3 y4 y5 y6 y7 y8 => C.1 (((y0, (), (), (), y1, y2, ()), y3, y4, y5, ()), (y6, y7, y8, ())))
def Avd (Acp : Am3) (N : Nat) : Go.AX.Aai := Acb [true] [] false 1 0 Bpc [A7c] (fun R x C => Acp N x.1.1 (fun y0 y1 y2 y3 y4 y5 y6 y7 y8 => C.1 (((y0, (), (), (), y1, y2, ()), y3, y4, y5, ()), (y6, y7, y8, ()))))
def Bpd (N : Nat) : Go.AX.Aai := Avd @Acp N
def Dac (N : Nat) : List (Nat × Aci) := [(27, Aaa Alj (Beu N N)), (37, Aaa Alk (Bew N N))]
def Cq4 (N : Nat) : List (Nat × Go.AX.Aai) := [(43, Aw2 N), (32, Bl6 N), (78, Axq N), (79, A2a N), (80, Bjh N)]
def Aw6 : Code := Try.f64.body.getD .skip
def Bhm : Code := Try.f13.body.getD .skip
def Bz8 : Code := Try.f39.body.getD .skip
def Bkv : Aac := ⟨Alu, []⟩
def A3z : Aac := ⟨Alu, []⟩
abbrev Cl2 (R : Type) := Int->(Int->Option R)->Option R
abbrev Aj0 := {R : Type} → Nat → Cl2 R
def Abt : Aj0 := fun {R} N a b => if ((a == 3) = true) then (b 4) else b a
def Cl3 (N : Nat) : Abg Bkv [A3z] := fun R x C => Abt N x.1.1 (fun y0 => C.1 ((y0, ()), (())))
def Api (Abt : Aj0) (N : Nat) : Go.AX.Aai := Acb [true] [] false 1 0 Bkv [A3z] (fun R x C => Abt N x.1.1 (fun y0 => C.1 ((y0, ()), (()))))
def Bap (N : Nat) : Go.AX.Aai := Api @Abt N
def Cl4 (N : Nat) : List (Nat × Aci) := []
def Bz9 (N : Nat) : List (Nat × Go.AX.Aai) := []
def B0a : Code := Try.f40.body.getD .skip
def Bkw : Aac := ⟨Alu, []⟩
def A30 : Aac := ⟨Alu, []⟩
abbrev Cl5 (R : Type) := Int->(Int->Option R)->Option R
abbrev Aj1 := {R : Type} → Nat → Cl5 R
def Abu : Aj1 := fun {R} N b a => if ((b == 24) = true) then (a 1) else if ((b == 29) = true) then (a 2) else if ((b == 30) = true) then (a 4) else a 0
def Cl6 (N : Nat) : Abg Bkw [A30] := fun R x C => Abu N x.1.1 (fun y0 => C.1 ((y0, ()), (())))
def Apj (Abu : Aj1) (N : Nat) : Go.AX.Aai := Acb [true] [] false 1 0 Bkw [A30] (fun R x C => Abu N x.1.1 (fun y0 => C.1 ((y0, ()), (()))))
def Baq (N : Nat) : Go.AX.Aai := Apj @Abu N
def Cl7 (N : Nat) : List (Nat × Aci) := []
def B0b (N : Nat) : List (Nat × Go.AX.Aai) := []
def B0c : Code := Try.f42.body.getD .skip
def Bkx : Aac := ⟨Alu, []⟩
def A31 : Aac := ⟨Alu, []⟩
abbrev Cl8 (R : Type) := Int->(Int->Option R)->Option R
abbrev Aiv := {R : Type} → Nat → Cl8 R
def Abi : Aiv := fun {R} N b a => if ((b == 0) = true) then (a 0) else if ((decide (b ≥ (-128))) = true) then (if ((decide (b ≤ 127)) = true) then (a 1) else if ((decide (b ≥ (-32768))) = true) then (if ((decide (b ≤ 32767)) = true) then (a 2) else a 3) else a 3) else if ((decide (b ≥ (-32768))) = true) then (if ((decide (b ≤ 32767)) = true) then (a 2) else a 3) else a 3
def Cl9 (N : Nat) : Abg Bkx [A31] := fun R x C => Abi N x.1.1 (fun y0 => C.1 ((y0, ()), (())))
def Anf (Abi : Aiv) (N : Nat) : Go.AX.Aai := Acb [true] [] false 1 0 Bkx [A31] (fun R x C => Abi N x.1.1 (fun y0 => C.1 ((y0, ()), (()))))
def Bky (N : Nat) : Go.AX.Aai := Anf @Abi N
def Cma (N : Nat) : List (Nat × Aci) := []
def B0d (N : Nat) : List (Nat × Go.AX.Aai) := []
def Ave : Aac := ⟨[Ajl, Ax9, Bcz], A22⟩
def Bhn : Aac := ⟨[Ax9, Asq, An6], A22⟩
def B4a : Ab3 := .cons .ret Bhn (.nil)
abbrev Cq5 (R : Type) := Int->Int->Int->Int->Int->(Int->Int->Int->Int->Int->Option R)->Option R
abbrev A5i := {R : Type} → Nat → Cq5 R
def Akj : A5i := fun {R} N a b c d e f => f (wi (b - a)) 0 c d e
def Bpe (Akj : A5i) (N : Nat) : Aaj Ave := fun R x K => Akj N x.1.1 x.1.2.2.1 x.2.1.1 x.2.1.2.1 x.2.1.2.2.1 (fun y0 y1 y2 y3 y4 => K .ret (Aab Bhn (((), y0, y1, ()), ((y2, y3, y4, ()), ()))))
def B4b (N : Nat) : Aaj Ave := Bpe @Akj N
def B2f : Aac := ⟨[Arf, Ajl], []⟩
def Bho : Aac := ⟨[Bwg, Ajl, Bcy], []⟩
abbrev C15 (R : Type) := d0->Int->(Int->Int->Int->Int->Int->Option R)->Option R
abbrev Bar := {R : Type} → Nat → C15 R
def B2g (Abt : Aj0) (Abu : Aj1) (Ac4 : Ane) (Abi : Aiv) (Aa9 : Ahc) (Akj : A5i) : Bar := fun {R} N a b c => if ((decide (b < 0)) = true) then (c 0 0 0 0 1) else if ((decide (b ≥ (len a))) = true) then (c 0 0 0 0 1) else if (0 ≤ b ∧ b < len a) then (let f := (a.getD b.toNat 0); if (0 ≤ b ∧ b < len a) then (let h := (wi (Int.tdiv (wi f) 32)); if ((decide ((Int.tmod (wi f) 32) < 1)) = true) then (c 0 0 0 0 3) else if ((decide ((Int.tmod (wi f) 32) > 30)) = true) then (c 0 0 0 0 3) else if (((Int.tmod (wi f) 32) == 19) = true) then (c 0 0 0 0 3) else if ((decide (h > 3)) = true) then (c 0 0 0 0 3) else let g := (wi (b + 1)); Abt N h fun l => let d := (wi (g + l)); Abu N (Int.tmod (wi f) 32) fun m => let e := (wi (d + m)); if ((decide (e > (len a))) = true) then (c 0 0 0 0 7) else if ((0 ≤ d) ∧ (d ≤ (len a))) then (if ((0 ≤ g) ∧ (g ≤ d)) then (Ac4 N (List.drop (Int.toNat g) (List.take (Int.toNat d) a)) fun i => Abi N i fun n => if ((n != h) = true) then (c 0 0 0 0 3) else if ((0 ≤ e) ∧ (e ≤ (len a))) then (if ((0 ≤ d) ∧ (d ≤ e)) then (let j := (List.drop (Int.toNat d) (List.take (Int.toNat e) a)); Aa9 N j fun o => if (((Int.tmod (wi f) 32) == 30) = true) then (if ((0 ≤ e) ∧ (e ≤ (len a))) then (if ((0 ≤ d) ∧ (d ≤ e)) then (Ac4 N j fun p => Akj N b e (Int.tmod (wi f) 32) i p fun q r s t u => c s t u q r) else none) else none) else Akj N b e (Int.tmod (wi f) 32) i o fun v w x y z => c x y z v w) else none) else none) else none) else none) else none) else none
def Apw : Bar := @B2g @Abt @Abu @Ac4 @Abi @Aa9 @Akj
def Ddz (N : Nat) : Abg B2f [Bho] := fun R x C => Apw N x.1.1 x.1.2.1 (fun y0 y1 y2 y3 y4 => C.1 (((y0, y1, y2, ()), y3, y4, ()), (())))
def B2h (Apw : Bar) (N : Nat) : Go.AX.Aai := Acb [true, true] [] false 2 0 B2f [Bho] (fun R x C => Apw N x.1.1 x.1.2.1 (fun y0 y1 y2 y3 y4 => C.1 (((y0, y1, y2, ()), y3, y4, ()), (()))))
def Cir (N : Nat) : Go.AX.Aai := B2h @Apw N
def Dd0 (N : Nat) : List (Nat × Aci) := [(36, Aaa Ave (B4b N))]
def C16 (N : Nat) : List (Nat × Go.AX.Aai) := [(39, Bap N), (40, Baq N), (41, Bku N), (42, Bky N), (43, Aw2 N)]
def Apk : Aac := ⟨[Arf, Cvb, (6, .one (.slf 33)), Avp], Ctz⟩
def A32 : Aac := ⟨[Cu8, (3, .one (.slf 33)), Clt], Ctz⟩
def A33 : Aac := ⟨[Cvb, (6, .one (.slf 33)), Avp], Ctz⟩
def B0e : Ab3 := .cons .ret A32 (.cons (.exit 0) A33 (.nil))
abbrev Bkz (R : Type) := d0->Int->d4->d0->(Bool->d4->d0->Option R)->(Int->d4->d0->Option R)->Option R
abbrev B0f (R : Type) := d0->Int->d4->d0->Option R
abbrev Bas := {R : Type} → Nat → Nat → Bkz R
def Bat (Apw : Bar) {R : Type} (N : Nat) (rc : B0f R) : Bkz R := fun b a c d h i => if ((decide (a < (len b))) = true) then (Apw N b a fun e f g j l => if ((l != 0) = true) then (h false ([] : List (Int × Int × Int)) ([] : List Int)) else if ((((List.length c) + (List.length ((e, (f, g)) :: ([] : List (Int × Int × Int))))) * (24 : Nat)) ≤ (70368744177664 : Nat)) then (if ((((List.length d) + (List.length (a :: ([] : List Int)))) * (8 : Nat)) ≤ (70368744177664 : Nat)) then (rc b (wi (a + j)) (c ++ ((e, (f, g)) :: ([] : List (Int × Int × Int)))) (d ++ (a :: ([] : List Int)))) else none) else none) else i a c d
def Ahy {R : Type} (N : Nat) : Nat → Bkz R
 | 0 => fun _ _ _ _ _ _ => none
 | k + 1 => fun a b c d e f => Bat @Apw N (fun a b c d => Ahy N k a b c d e f) a b c d e f
def Bk0 (Ahy : Bas) (N k : Nat) : Aaj Apk := fun R x K => Ahy N k x.1.1 x.1.2.2.2.1 x.2.1 x.2.2.1 (fun y0 y1 y2 => K .ret (Aab A32 (((), (), y0, ()), (y1, y2, ())))) (fun y0 y1 y2 => K (.exit 0) (Aab A33 (((), (), y0, ()), (y1, y2, ()))))
def Bk1 (N k : Nat) : Aaj Apk := Bk0 @Ahy N k
def Bud : Aac := ⟨A21, []⟩
def Bau : Aac := ⟨[Byg, (1, .one (.slf 33)), C0q], Ctz⟩
abbrev Cv4 (R : Type) := d0->(Bool->d4->d0->Option R)->Option R
abbrev Aro := {R : Type} → Nat → Cv4 R
def Bue (Ahy : Bas) : Aro := fun {R} N d a => Ahy N N d 0 ([] : List (Int × Int × Int)) ([] : List Int) (fun e f g => a e f g) fun b h c => if ((((List.length c) + (List.length (b :: ([] : List Int)))) * (8 : Nat)) ≤ (70368744177664 : Nat)) then (a true h (c ++ (b :: ([] : List Int)))) else none
def Ags : Aro := @Bue @Ahy
def Dbn (N : Nat) : Abg Bud [Bau] := fun R x C => Ags N x.1.1 (fun y0 y1 y2 => C.1 (((), (), y0, ()), (y1, y2, ())))
def A2b (Ags : Aro) (N : Nat) : Go.AX.Aai := Acb [true] [] false 1 0 Bud [Bau] (fun R x C => Ags N x.1.1 (fun y0 y1 y2 => C.1 (((), (), y0, ()), (y1, y2, ()))))
def B7s (N : Nat) : Go.AX.Aai := A2b @Ags N
def Dbo (N : Nat) : List (Nat × Aci) := [(9, Aaa Apk (Bk1 N N))]
def Cv5 (N : Nat) : List (Nat × Go.AX.Aai) := [(13, Cir N)]
def Ah8 : Aac := ⟨[Arf, Ajk, A76, An6, Byi, B6y, B6z, Cts], Bwi⟩
def Axs : Aac := ⟨[Arf, Ajk, A76, An6, Byi, B6y, B6z], Bwi⟩
def Bqr : Ab3 := .cons (.exit 0) Axs (.nil)
abbrev Bbp (R : Type) := d0->Int->Int->(List UInt8)->Int->Int->(List UInt8)->Int->Int->d4->d0->d0->d5->d4->d1->d5->d4->d1->(d0->Int->(List UInt8)->Int->Int->(List UInt8)->Int->Int->d4->d0->d0->d5->d4->d1->d5->d4->d1->Option R)->Option R
abbrev Bqs (R : Type) := d0->Int->Int->(List UInt8)->Int->Int->(List UInt8)->Int->Int->d4->d0->d0->d5->d4->d1->d5->d4->d1->Option R
abbrev Apx := {R : Type} → Nat → Nat → Bbp R
def A08 {R : Type} (N : Nat) (rc : Bqs R) : Bbp R := fun d b a e f g h i j l m c n o p q r s t => if ((decide (a ≤ b)) = true) then (if (0 ≤ a ∧ a < len c) then (rc d b (wi (a + 1)) e f g h i j l m (c.set a.toNat (-1)) n o p q r s) else none) else t d b e f g h i j l m c n o p q r s
def Acu {R : Type} (N : Nat) : Nat → Bbp R
 | 0 => fun _ _ _ _ _ _ _ _ _ _ _ _ _ _ _ _ _ _ _ => none
 | k + 1 => fun a b c d e f g h i j l m n o p q r s t => A08 N (fun a b c d e f g h i j l m n o p q r s => Acu N k a b c d e f g h i j l m n o p q r s t) a b c d e f g h i j l m n o p q r s t
def Ar3 (Acu : Apx) (N k : Nat) : Aaj Ah8 := fun R x K => Acu N k x.1.1 x.1.2.2.2.1 x.1.2.2.2.2.2.2.2.1 x.2.1.1 x.2.1.2.2.2.2.1 x.2.1.2.2.2.2.2.1 x.2.2.1.1 x.2.2.1.2.2.2.2.1 x.2.2.1.2.2.2.2.2.1 x.2.2.2.1 x.2.2.2.2.1 x.2.2.2.2.2.1 x.2.2.2.2.2.2.1 x.2.2.2.2.2.2.2.1 x.2.2.2.2.2.2.2.2.1 x.2.2.2.2.2.2.2.2.2.1 x.2.2.2.2.2.2.2.2.2.2.1 x.2.2.2.2.2.2.2.2.2.2.2.1 (fun y0 y1 y2 y3 y4 y5 y6 y7 y8 y9 y10 y11 y12 y13 y14 y15 y16 => K (.exit 0) (Aab Axs ((y0, (), (), y1, (), (), (), ()), ((y2, (), (), (), y3, y4, ()), (y5, (), (), (), y6, y7, ()), y8, y9, y10, y11, y12, y13, y14, y15, y16, ()))))
def Bbq (N k : Nat) : Aaj Ah8 := Ar3 @Acu N k
def Ah9 : Aac := ⟨[Arf, Ajk, A76, An6, Byi, B6y, B6z, C0u], Bwi⟩
def Axt : Aac := ⟨[Arf, Ajk, A76, An6, Byi, B6y, B6z], Bwi⟩
def Bqt : Ab3 := .cons (.exit 2) Axt (.nil)
abbrev Bbr (R : Type) := d0->Int->Int->(List UInt8)->Int->Int->(List UInt8)->Int->Int->d4->d0->d0->d5->d4->d1->d5->d4->d1->(d0->Int->(List UInt8)->Int->Int->(List UInt8)->Int->Int->d4->d0->d0->d5->d4->d1->d5->d4->d1->Option R)->Option R
abbrev Bqu (R : Type) := d0->Int->Int->(List UInt8)->Int->Int->(List UInt8)->Int->Int->d4->d0->d0->d5->d4->d1->d5->d4->d1->Option R
abbrev Apy := {R : Type} → Nat → Nat → Bbr R
def Bbs {R : Type} (N : Nat) (rc : Bqu R) : Bbr R := fun f g a h i j l m n c b d o p q r s t u => if ((decide (a < (len c))) = true) then (if (0 ≤ a ∧ a < len b) then (let e := (b.getD a.toNat 0); if (0 ≤ e ∧ e < len d) then (rc f g (wi (a + 1)) h i j l m n c b (d.set e.toNat 0) o p q r s t) else none) else none) else u f g h i j l m n c b d o p q r s t
def Acv {R : Type} (N : Nat) : Nat → Bbr R
 | 0 => fun _ _ _ _ _ _ _ _ _ _ _ _ _ _ _ _ _ _ _ => none
 | k + 1 => fun a b c d e f g h i j l m n o p q r s t => Bbs N (fun a b c d e f g h i j l m n o p q r s => Acv N k a b c d e f g h i j l m n o p q r s t) a b c d e f g h i j l m n o p q r s t
def Ar4 (Acv : Apy) (N k : Nat) : Aaj Ah9 := fun R x K => Acv N k x.1.1 x.1.2.2.2.1 x.1.2.2.2.2.2.2.2.1 x.2.1.1 x.2.1.2.2.2.2.1 x.2.1.2.2.2.2.2.1 x.2.2.1.1 x.2.2.1.2.2.2.2.1 x.2.2.1.2.2.2.2.2.1 x.2.2.2.1 x.2.2.2.2.1 x.2.2.2.2.2.1 x.2.2.2.2.2.2.1 x.2.2.2.2.2.2.2.1 x.2.2.2.2.2.2.2.2.1 x.2.2.2.2.2.2.2.2.2.1 x.2.2.2.2.2.2.2.2.2.2.1 x.2.2.2.2.2.2.2.2.2.2.2.1 (fun y0 y1 y2 y3 y4 y5 y6 y7 y8 y9 y10 y11 y12 y13 y14 y15 y16 => K (.exit 2) (Aab Axt ((y0, (), (), y1, (), (), (), ()), ((y2, (), (), (), y3, y4, ()), (y5, (), (), (), y6, y7, ()), y8, y9, y10, y11, y12, y13, y14, y15, y16, ()))))
def Bbt (N k : Nat) : Aaj Ah9 := Ar4 @Acv N k
def Cc9 : Code := Try.f58.body.getD .skip
def Byw : Aac := ⟨Alu, []⟩
def Bda : Aac := ⟨Ard, []⟩
abbrev Cx8 (R : Type) := Int->(Bool->Option R)->Option R
abbrev Aek := {R : Type} → Nat → Cx8 R
def Aaw : Aek := fun {R} N a b => if ((a == 20) = true) then (b true) else if ((a == 21) = true) then (b true) else if ((a == 22) = true) then (b true) else if ((a == 27) = true) then (b true) else b (a == 29)
def Cx9 (N : Nat) : Abg Byw [Bda] := fun R x C => Aaw N x.1.1 (fun y0 => C.1 ((y0, ()), (())))
def Af6 (Aaw : Aek) (N : Nat) : Go.AX.Aai := Acb [true] [] false 1 0 Byw [Bda] (fun R x C => Aaw N x.1.1 (fun y0 => C.1 ((y0, ()), (()))))
def Bcm (N : Nat) : Go.AX.Aai := Af6 @Aaw N
def Cya (N : Nat) : List (Nat × Aci) := []
def Cda (N : Nat) : List (Nat × Go.AX.Aai) := []
def Akk : Aac := ⟨[Arf, Ajk, A76, An6, Byi, B6y, B6z, C0z, (15, .one Aa0), (16, .one (.val .bool))], Bwi⟩
def A55 : Aac := ⟨[Ajk, Ap3], Cie⟩
def A56 : Aac := ⟨[Arf, Ajk, A76, An6, Byi, B6y, B6z, C0z], Bwi⟩
def Bqv : Ab3 := .cons .ret A55 (.cons .normal A56 (.nil))
abbrev Caq (R : Type) := d0->Int->Int->Int->Bool->(List UInt8)->Int->Int->(List UInt8)->Int->Int->d4->d0->d0->d5->d4->d1->d5->d4->d1->(Int->(List UInt8)->Int->Int->d5->d4->d1->Option R)->(d0->Int->Int->(List UInt8)->Int->Int->(List UInt8)->Int->Int->d4->d0->d0->d5->d4->d1->d5->d4->d1->Option R)->Option R
abbrev Ann := {R : Type} → Nat → Caq R
def Ac7 : Ann := fun {R} N f d e y v g h i j l m n c b o p q r s t w u => let x := (wi (e + 1)); if (0 ≤ x ∧ x < len c) then (let a := (wi ((c.getD x.toNat 0) + y)); if (v = true) then (if ((decide (a < 0)) = true) then (w 3 ([] : List UInt8) 0 0 ([] : List (List UInt8 × Bool × List Int)) ([] : List (Int × Int × Int)) ([] : List (Int × Int))) else if ((decide (a ≥ d)) = true) then (w 3 ([] : List UInt8) 0 0 ([] : List (List UInt8 × Bool × List Int)) ([] : List (Int × Int × Int)) ([] : List (Int × Int))) else if (0 ≤ a ∧ a < len b) then (if ((decide ((b.getD a.toNat 0) < 0)) = true) then (w 3 ([] : List UInt8) 0 0 ([] : List (List UInt8 × Bool × List Int)) ([] : List (Int × Int × Int)) ([] : List (Int × Int))) else if (v = true) then (if (0 ≤ a ∧ a < len b) then (u f d e g h i j l m n c (b.set a.toNat 1) o p q r s t) else none) else u f d e g h i j l m n c b o p q r s t) else none) else if (v = true) then (if (0 ≤ a ∧ a < len b) then (u f d e g h i j l m n c (b.set a.toNat 1) o p q r s t) else none) else u f d e g h i j l m n c b o p q r s t) else none
def Ar5 (Ac7 : Ann) (N : Nat) : Aaj Akk := fun R x K => Ac7 N x.1.1 x.1.2.2.2.1 x.1.2.2.2.2.2.2.2.1 x.1.2.2.2.2.2.2.2.2.1 x.1.2.2.2.2.2.2.2.2.2.1 x.2.1.1 x.2.1.2.2.2.2.1 x.2.1.2.2.2.2.2.1 x.2.2.1.1 x.2.2.1.2.2.2.2.1 x.2.2.1.2.2.2.2.2.1 x.2.2.2.1 x.2.2.2.2.1 x.2.2.2.2.2.1 x.2.2.2.2.2.2.1 x.2.2.2.2.2.2.2.1 x.2.2.2.2.2.2.2.2.1 x.2.2.2.2.2.2.2.2.2.1 x.2.2.2.2.2.2.2.2.2.2.1 x.2.2.2.2.2.2.2.2.2.2.2.1 (fun y0 y1 y2 y3 y4 y5 y6 => K .ret (Aab A55 (((), y0, ()), ((y1, (), (), (), y2, y3, ()), y4, y5, y6, ())))) (fun y0 y1 y2 y3 y4 y5 y6 y7 y8 y9 y10 y11 y12 y13 y14 y15 y16 y17 => K .normal (Aab A56 ((y0, (), (), y1, (), (), (), y2, ()), ((y3, (), (), (), y4, y5, ()), (y6, (), (), (), y7, y8, ()), y9, y10, y11, y12, y13, y14, y15, y16, y17, ()))))
def Bqw (N : Nat) : Aaj Akk := Ar5 @Ac7 N
def Aia : Aac := ⟨[Arf, Ajk, A76, An6, Byi, B6y, B6z, C0z], Bwi⟩
def Axu : Aac := ⟨[Ajk, Ap3], Cie⟩
def Axv : Aac := ⟨[Arf, Ajk, A76, Byi, B6y, B6z], Bwi⟩
def Bqx : Ab3 := .cons .ret Axu (.cons (.exit 4) Axv (.nil))
abbrev Bbu (R : Type) := d0->Int->Int->(List UInt8)->Int->Int->(List UInt8)->Int->Int->d4->d0->d0->d5->d4->d1->d5->d4->d1->(Int->(List UInt8)->Int->Int->d5->d4->d1->Option R)->(d0->(List UInt8)->Int->Int->(List UInt8)->Int->Int->d4->d0->d0->d5->d4->d1->d5->d4->d1->Option R)->Option R
abbrev Bqy (R : Type) := d0->Int->Int->(List UInt8)->Int->Int->(List UInt8)->Int->Int->d4->d0->d0->d5->d4->d1->d5->d4->d1->Option R
abbrev Apz := {R : Type} → Nat → Nat → Bbu R
def Bbv (Aaw : Aek) (Ac7 : Ann) {R : Type} (N : Nat) (rc : Bqy R) : Bbu R := fun c s a d e f g h i b j l m n o p q r t v => if ((decide (a < (len b))) = true) then (if (0 ≤ a ∧ a < len b) then (if (0 ≤ a ∧ a < len b) then (let u := (b.getD a.toNat (0, (0, 0))).1; Aaw N u fun w => if (0 ≤ a ∧ a < len b) then (if ((u == 30) = true) then (if (0 ≤ a ∧ a < len b) then (Ac7 N c s a ((b.getD a.toNat (0, (0, 0))).2.2) true d e f g h i b j l m n o p q r (fun x y z A B C D => t x y z A B C D) fun E F G H I J L M O P Q S T U V W X Y => rc E F (wi (G + 1)) H I J L M O P Q S T U V W X Y) else none) else Ac7 N c s a ((b.getD a.toNat (0, (0, 0))).2.1) w d e f g h i b j l m n o p q r (fun Z aa ab ac ad ae af => t Z aa ab ac ad ae af) fun ag ah ai aj ak al am an ao ap aq ar au av aw ax ay az => rc ag ah (wi (ai + 1)) aj ak al am an ao ap aq ar au av aw ax ay az) else none) else none) else none) else v c d e f g h i b j l m n o p q r
def Acf {R : Type} (N : Nat) : Nat → Bbu R
 | 0 => fun _ _ _ _ _ _ _ _ _ _ _ _ _ _ _ _ _ _ _ _ => none
 | k + 1 => fun a b c d e f g h i j l m n o p q r s t u => Bbv @Aaw @Ac7 N (fun a b c d e f g h i j l m n o p q r s => Acf N k a b c d e f g h i j l m n o p q r s t u) a b c d e f g h i j l m n o p q r s t u
def Ar6 (Acf : Apz) (N k : Nat) : Aaj Aia := fun R x K => Acf N k x.1.1 x.1.2.2.2.1 x.1.2.2.2.2.2.2.2.1 x.2.1.1 x.2.1.2.2.2.2.1 x.2.1.2.2.2.2.2.1 x.2.2.1.1 x.2.2.1.2.2.2.2.1 x.2.2.1.2.2.2.2.2.1 x.2.2.2.1 x.2.2.2.2.1 x.2.2.2.2.2.1 x.2.2.2.2.2.2.1 x.2.2.2.2.2.2.2.1 x.2.2.2.2.2.2.2.2.1 x.2.2.2.2.2.2.2.2.2.1 x.2.2.2.2.2.2.2.2.2.2.1 x.2.2.2.2.2.2.2.2.2.2.2.1 (fun y0 y1 y2 y3 y4 y5 y6 => K .ret (Aab Axu (((), y0, ()), ((y1, (), (), (), y2, y3, ()), y4, y5, y6, ())))) (fun y0 y1 y2 y3 y4 y5 y6 y7 y8 y9 y10 y11 y12 y13 y14 y15 => K (.exit 4) (Aab Axv ((y0, (), (), (), (), (), ()), ((y1, (), (), (), y2, y3, ()), (y4, (), (), (), y5, y6, ()), y7, y8, y9, y10, y11, y12, y13, y14, y15, ()))))
def Bbw (N k : Nat) : Aaj Aia := Ar6 @Acf N k
def Ada : Code := Try.f65.body.getD .skip
def Aga : Aac := ⟨[Byh, Ch3, Cu5, Ax9, Cd0, A20], Brm⟩
def Avz : Aac := ⟨[Byh, Ch3, Cu5, Ax9, Cd0], Brm⟩
def Bmw : Ab3 := .cons (.exit 0) Avz (.nil)
abbrev A83 (R : Type) := d4->d0->Int->d5->d4->d1->d0->(List UInt8)->Int->Int->(List UInt8)->Int->Int->d5->d4->d1->(d4->d0->d5->d4->d1->d0->(List UInt8)->Int->Int->(List UInt8)->Int->Int->d5->d4->d1->Option R)->Option R
abbrev Bmx (R : Type) := d4->d0->Int->d5->d4->d1->d0->(List UInt8)->Int->Int->(List UInt8)->Int->Int->d5->d4->d1->Option R
abbrev Ak6 := {R : Type} → Nat → Nat → A83 R
def A84 {R : Type} (N : Nat) (rc : Bmx R) : A83 R := fun e b a f g h c i j l m n o p q r t => if ((decide (a < (len e))) = true) then (if (0 ≤ a ∧ a < len b) then (let d := (b.getD a.toNat 0); if (0 ≤ d ∧ d < len c) then (if ((decide ((c.getD d.toNat 0) > 0)) = true) then (let s := (wi (l + 1)); if (0 ≤ a ∧ a < len b) then (if (0 ≤ d ∧ d < len c) then (rc e b (wi (a + 1)) f g h (c.set d.toNat s) i j s m n o p q r) else none) else none) else rc e b (wi (a + 1)) f g h c i j l m n o p q r) else none) else none) else t e b f g h c i j l m n o p q r
def Abq {R : Type} (N : Nat) : Nat → A83 R
 | 0 => fun _ _ _ _ _ _ _ _ _ _ _ _ _ _ _ _ _ => none
 | k + 1 => fun a b c d e f g h i j l m n o p q r => A84 N (fun a b c d e f g h i j l m n o p q => Abq N k a b c d e f g h i j l m n o p q r) a b c d e f g h i j l m n o p q r
def Amh (Abq : Ak6) (N k : Nat) : Aaj Aga := fun R x K => Abq N k x.1.1 x.1.2.1 x.1.2.2.2.2.2.1 x.2.1 x.2.2.1 x.2.2.2.1 x.2.2.2.2.1 x.2.2.2.2.2.1.1 x.2.2.2.2.2.1.2.2.2.2.1 x.2.2.2.2.2.1.2.2.2.2.2.1 x.2.2.2.2.2.2.1.1 x.2.2.2.2.2.2.1.2.2.2.2.1 x.2.2.2.2.2.2.1.2.2.2.2.2.1 x.2.2.2.2.2.2.2.1 x.2.2.2.2.2.2.2.2.1 x.2.2.2.2.2.2.2.2.2.1 (fun y0 y1 y2 y3 y4 y5 y6 y7 y8 y9 y10 y11 y12 y13 y14 => K (.exit 0) (Aab Avz ((y0, y1, (), (), (), ()), (y2, y3, y4, y5, (y6, (), (), (), y7, y8, ()), (y9, (), (), (), y10, y11, ()), y12, y13, y14, ()))))
def A85 (N k : Nat) : Aaj Aga := Amh @Abq N k
def Ag3 : Aac := ⟨C1p, C1u⟩
def A2c : Aac := ⟨Cab, Brm⟩
def Bji : Ab3 := .cons .normal A2c (.nil)
abbrev B5f (R : Type) := d4->d0->Int->d5->d4->d1->d0->(List UInt8)->Int->Int->(List UInt8)->Int->Int->Int->Int->Int->d5->d4->d1->(d4->d0->Int->d5->d4->d1->d0->(List UInt8)->Int->Int->(List UInt8)->Int->Int->d5->d4->d1->Option R)->Option R
abbrev Ai4 := {R : Type} → Nat → B5f R
def Abl : Ai4 := fun {R} N e f g h a i j l m n o p q b c d r s t u => if ((((List.length a) + (List.length ((b, (c, d)) :: ([] : List (Int × Int × Int))))) * (24 : Nat)) ≤ (70368744177664 : Nat)) then (u e f g h (a ++ ((b, (c, d)) :: ([] : List (Int × Int × Int)))) i j l m n o p q r s t) else none
def Alp (Abl : Ai4) (N : Nat) : Aaj Ag3 := fun R x K => Abl N x.1.1 x.1.2.1 x.1.2.2.2.2.2.1 x.2.1 x.2.2.1 x.2.2.2.1 x.2.2.2.2.1 x.2.2.2.2.2.1.1 x.2.2.2.2.2.1.2.2.2.2.1 x.2.2.2.2.2.1.2.2.2.2.2.1 x.2.2.2.2.2.2.1.1 x.2.2.2.2.2.2.1.2.2.2.2.1 x.2.2.2.2.2.2.1.2.2.2.2.2.1 x.2.2.2.2.2.2.2.1.1 x.2.2.2.2.2.2.2.1.2.1 x.2.2.2.2.2.2.2.1.2.2.1 x.2.2.2.2.2.2.2.2.1 x.2.2.2.2.2.2.2.2.2.1 x.2.2.2.2.2.2.2.2.2.2.1 (fun y0 y1 y2 y3 y4 y5 y6 y7 y8 y9 y10 y11 y12 y13 y14 y15 => K .normal (Aab A2c ((y0, y1, (), (), (), y2, ()), (y3, y4, y5, y6, (y7, (), (), (), y8, y9, ()), (y10, (), (), (), y11, y12, ()), y13, y14, y15, ()))))
def Bjj (N : Nat) : Aaj Ag3 := Alp @Abl N
def Ag4 : Aac := ⟨C1p, C1u⟩
def A2d : Aac := ⟨Cab, Brm⟩
def Bjk : Ab3 := .cons .normal A2d (.nil)
abbrev B5g (R : Type) := d4->d0->Int->d5->d4->d1->d0->(List UInt8)->Int->Int->(List UInt8)->Int->Int->Int->Int->Int->d5->d4->d1->(d4->d0->Int->d5->d4->d1->d0->(List UInt8)->Int->Int->(List UInt8)->Int->Int->d5->d4->d1->Option R)->Option R
abbrev Ahz := {R : Type} → Nat → B5g R
def A57 (Abl : Ai4) : Ahz := fun {R} N b c d e f g h i j l m n o a p q r s t u => if ((a == 24) = true) then (Abl N b c d e f g h i (wi (j + 1)) l m n o a p q r s t fun v w x y z A B C D E F G H I J L => u v w x y z A B C D E F G H I J L) else Abl N b c d e f g h i j l m n o a p q r s t fun M O P Q S T U V W X Y Z aa ab ac ad => u M O P Q S T U V W X Y Z aa ab ac ad
def Abm : Ahz := @A57 @Abl
def Alq (Abm : Ahz) (N : Nat) : Aaj Ag4 := fun R x K => Abm N x.1.1 x.1.2.1 x.1.2.2.2.2.2.1 x.2.1 x.2.2.1 x.2.2.2.1 x.2.2.2.2.1 x.2.2.2.2.2.1.1 x.2.2.2.2.2.1.2.2.2.2.1 x.2.2.2.2.2.1.2.2.2.2.2.1 x.2.2.2.2.2.2.1.1 x.2.2.2.2.2.2.1.2.2.2.2.1 x.2.2.2.2.2.2.1.2.2.2.2.2.1 x.2.2.2.2.2.2.2.1.1 x.2.2.2.2.2.2.2.1.2.1 x.2.2.2.2.2.2.2.1.2.2.1 x.2.2.2.2.2.2.2.2.1 x.2.2.2.2.2.2.2.2.2.1 x.2.2.2.2.2.2.2.2.2.2.1 (fun y0 y1 y2 y3 y4 y5 y6 y7 y8 y9 y10 y11 y12 y13 y14 y15 => K .normal (Aab A2d ((y0, y1, (), (), (), y2, ()), (y3, y4, y5, y6, (y7, (), (), (), y8, y9, ()), (y10, (), (), (), y11, y12, ()), y13, y14, y15, ()))))
def Bjl (N : Nat) : Aaj Ag4 := Alq @Abm N
def Ag5 : Aac := ⟨C1p, C1u⟩
def A2e : Aac := ⟨Cab, Brm⟩
def Bjm : Ab3 := .cons .normal A2e (.nil)
abbrev B5h (R : Type) := d4->d0->Int->d5->d4->d1->d0->(List UInt8)->Int->Int->(List UInt8)->Int->Int->Int->Int->Int->d5->d4->d1->(d4->d0->Int->d5->d4->d1->d0->(List UInt8)->Int->Int->(List UInt8)->Int->Int->d5->d4->d1->Option R)->Option R
abbrev Ah0 := {R : Type} → Nat → B5h R
def A58 (Abm : Ahz) : Ah0 := fun {R} N g a c h i j b l m n o p q d r s t u v w => if ((d == 30) = true) then (let e := (wi (c + 1)); if (0 ≤ e ∧ e < len a) then (let f := (wi ((a.getD e.toNat 0) + s)); if (0 ≤ f ∧ f < len b) then (Abm N g a c h i j b l m n o p q d r (b.getD f.toNat 0) t u v fun x y z A B C D E F G H I J L M O => w x y z A B C D E F G H I J L M O) else none) else none) else Abm N g a c h i j b l m n o p q d r s t u v fun P Q S T U V W X Y Z aa ab ac ad ae af => w P Q S T U V W X Y Z aa ab ac ad ae af
def Abr : Ah0 := @A58 @Abm
def Alr (Abr : Ah0) (N : Nat) : Aaj Ag5 := fun R x K => Abr N x.1.1 x.1.2.1 x.1.2.2.2.2.2.1 x.2.1 x.2.2.1 x.2.2.2.1 x.2.2.2.2.1 x.2.2.2.2.2.1.1 x.2.2.2.2.2.1.2.2.2.2.1 x.2.2.2.2.2.1.2.2.2.2.2.1 x.2.2.2.2.2.2.1.1 x.2.2.2.2.2.2.1.2.2.2.2.1 x.2.2.2.2.2.2.1.2.2.2.2.2.1 x.2.2.2.2.2.2.2.1.1 x.2.2.2.2.2.2.2.1.2.1 x.2.2.2.2.2.2.2.1.2.2.1 x.2.2.2.2.2.2.2.2.1 x.2.2.2.2.2.2.2.2.2.1 x.2.2.2.2.2.2.2.2.2.2.1 (fun y0 y1 y2 y3 y4 y5 y6 y7 y8 y9 y10 y11 y12 y13 y14 y15 => K .normal (Aab A2e ((y0, y1, (), (), (), y2, ()), (y3, y4, y5, y6, (y7, (), (), (), y8, y9, ()), (y10, (), (), (), y11, y12, ()), y13, y14, y15, ()))))
def Bjn (N : Nat) : Aaj Ag5 := Alr @Abr N
def Ag6 : Aac := ⟨Cab, Brm⟩
def A2f : Aac := ⟨Cab, Brm⟩
def Bjo : Ab3 := .cons .normal A2f (.nil)
abbrev B5i (R : Type) := d4->d0->Int->d5->d4->d1->d0->(List UInt8)->Int->Int->(List UInt8)->Int->Int->d5->d4->d1->(d4->d0->Int->d5->d4->d1->d0->(List UInt8)->Int->Int->(List UInt8)->Int->Int->d5->d4->d1->Option R)->Option R
abbrev Ah1 := {R : Type} → Nat → B5i R
def A59 (Aaw : Aek) (Abr : Ah0) : Ah1 := fun {R} N b c a h i j d l m n o p q r s t u => if (0 ≤ a ∧ a < len b) then (let e := (b.getD a.toNat (0, (0, 0))).1; let v := (b.getD a.toNat (0, (0, 0))).2.1; let w := (b.getD a.toNat (0, (0, 0))).2.2; Aaw N e fun x => if (x = true) then (let f := (wi (a + 1)); if (0 ≤ f ∧ f < len c) then (let g := (wi ((c.getD f.toNat 0) + v)); if (0 ≤ g ∧ g < len d) then (Abr N b c a h i j d l m n o p q e (d.getD g.toNat 0) w r s t fun y z A B C D E F G H I J L M O P => u y z A B C D E F G H I J L M O P) else none) else none) else Abr N b c a h i j d l m n o p q e v w r s t fun Q S T U V W X Y Z aa ab ac ad ae af ag => u Q S T U V W X Y Z aa ab ac ad ae af ag) else none
def Abn : Ah1 := @A59 @Aaw @Abr
def Als (Abn : Ah1) (N : Nat) : Aaj Ag6 := fun R x K => Abn N x.1.1 x.1.2.1 x.1.2.2.2.2.2.1 x.2.1 x.2.2.1 x.2.2.2.1 x.2.2.2.2.1 x.2.2.2.2.2.1.1 x.2.2.2.2.2.1.2.2.2.2.1 x.2.2.2.2.2.1.2.2.2.2.2.1 x.2.2.2.2.2.2.1.1 x.2.2.2.2.2.2.1.2.2.2.2.1 x.2.2.2.2.2.2.1.2.2.2.2.2.1 x.2.2.2.2.2.2.2.1 x.2.2.2.2.2.2.2.2.1 x.2.2.2.2.2.2.2.2.2.1 (fun y0 y1 y2 y3 y4 y5 y6 y7 y8 y9 y10 y11 y12 y13 y14 y15 => K .normal (Aab A2f ((y0, y1, (), (), (), y2, ()), (y3, y4, y5, y6, (y7, (), (), (), y8, y9, ()), (y10, (), (), (), y11, y12, ()), y13, y14, y15, ()))))
def Bjp (N : Nat) : Aaj Ag6 := Als @Abn N
def Afx : Aac := ⟨Cab, Brm⟩
def Aul : Aac := ⟨[Ax9, Cd0], Brm⟩
def Bjq : Ab3 := .cons (.exit 2) Aul (.nil)
abbrev A6a (R : Type) := d4->d0->Int->d5->d4->d1->d0->(List UInt8)->Int->Int->(List UInt8)->Int->Int->d5->d4->d1->(d5->d4->d1->d0->(List UInt8)->Int->Int->(List UInt8)->Int->Int->d5->d4->d1->Option R)->Option R
abbrev Bjr (R : Type) := d4->d0->Int->d5->d4->d1->d0->(List UInt8)->Int->Int->(List UInt8)->Int->Int->d5->d4->d1->Option R
abbrev Akh := {R : Type} → Nat → Nat → A6a R
def A6b (Abn : Ah1) {R : Type} (N : Nat) (rc : Bjr R) : A6a R := fun f c a g e h b i j l m n o p q r t => if ((decide (a < (len f))) = true) then (if (0 ≤ a ∧ a < len c) then (let d := (c.getD a.toNat 0); if (0 ≤ d ∧ d < len b) then (let s := (b.getD d.toNat 0); if ((decide (s > 0)) = true) then (if (0 ≤ a ∧ a < len c) then (if (0 ≤ d ∧ d < len b) then (if ((((List.length e) + (List.length ((19, (s, 0)) :: ([] : List (Int × Int × Int))))) * (24 : Nat)) ≤ (70368744177664 : Nat)) then (Abn N f c a g (e ++ ((19, (s, 0)) :: ([] : List (Int × Int × Int)))) h b i j l m n o p q r fun u v w x y z A B C D E F G H I J => rc u v (wi (w + 1)) x y z A B C D E F G H I J) else none) else none) else none) else Abn N f c a g e h b i j l m n o p q r fun L M O P Q S T U V W X Y Z aa ab ac => rc L M (wi (O + 1)) P Q S T U V W X Y Z aa ab ac) else none) else none) else t g e h b i j l m n o p q r
def Aba {R : Type} (N : Nat) : Nat → A6a R
 | 0 => fun _ _ _ _ _ _ _ _ _ _ _ _ _ _ _ _ _ => none
 | k + 1 => fun a b c d e f g h i j l m n o p q r => A6b @Abn N (fun a b c d e f g h i j l m n o p q => Aba N k a b c d e f g h i j l m n o p q r) a b c d e f g h i j l m n o p q r
def Alt (Aba : Akh) (N k : Nat) : Aaj Afx := fun R x K => Aba N k x.1.1 x.1.2.1 x.1.2.2.2.2.2.1 x.2.1 x.2.2.1 x.2.2.2.1 x.2.2.2.2.1 x.2.2.2.2.2.1.1 x.2.2.2.2.2.1.2.2.2.2.1 x.2.2.2.2.2.1.2.2.2.2.2.1 x.2.2.2.2.2.2.1.1 x.2.2.2.2.2.2.1.2.2.2.2.1 x.2.2.2.2.2.2.1.2.2.2.2.2.1 x.2.2.2.2.2.2.2.1 x.2.2.2.2.2.2.2.2.1 x.2.2.2.2.2.2.2.2.2.1 (fun y0 y1 y2 y3 y4 y5 y6 y7 y8 y9 y10 y11 y12 => K (.exit 2) (Aab Aul (((), (), ()), (y0, y1, y2, y3, (y4, (), (), (), y5, y6, ()), (y7, (), (), (), y8, y9, ()), y10, y11, y12, ()))))
def A6c (N k : Nat) : Aaj Afx := Alt @Aba N k
def Bex : Aac := ⟨[(0, .agg C1g), Byh, Ch3, Cu5], [Ct1, wq0, wq1, Bsf]⟩
def Azo : Aac := ⟨[(0, .agg C1g)], [Ct1, wq0, wq1, Bsf]⟩
abbrev Cef (R : Type) := (List UInt8)->Int->Int->d4->d0->d5->d4->d1->d0->((List UInt8)->Int->Int->d5->d4->d1->d0->Option R)->Option R
abbrev Amq := {R : Type} → Nat → Cef R
def Bey (Abq : Ak6) (Aba : Akh) : Amq := fun {R} N a b c d e f g h i j => Abq N N d e 0 f g h i a b c ([] : List UInt8) 0 0 ([] : List (List UInt8 × Bool × List Int)) ([] : List (Int × Int × Int)) ([] : List (Int × Int)) fun l m n o p q r s t u v w x y z => Aba N N l m 0 n o p q r s t u v w x y z fun A B C D E F G H I J L M O => j E F G A B C D
def Ac5 : Amq := @Bey @Abq @Aba
def C6s (N : Nat) : Abg Bex [Azo] := fun R x C => Ac5 N x.1.1.1 x.1.1.2.2.2.2.1 x.1.1.2.2.2.2.2.1 x.1.2.1 x.1.2.2.1 x.2.1 x.2.2.1 x.2.2.2.1 x.2.2.2.2.1 (fun y0 y1 y2 y3 y4 y5 y6 => C.1 (((y0, (), (), (), y1, y2, ()), ()), (y3, y4, y5, y6, ())))
def Atb (Ac5 : Amq) (N : Nat) : Go.AX.Aai := Acb [false, true, true, false] (List.replicate 32 true) false 4 4 Bex [Azo] (fun R x C => Ac5 N x.1.1.1 x.1.1.2.2.2.2.1 x.1.1.2.2.2.2.2.1 x.1.2.1 x.1.2.2.1 x.2.1 x.2.2.1 x.2.2.2.1 x.2.2.2.2.1 (fun y0 y1 y2 y3 y4 y5 y6 => C.1 (((y0, (), (), (), y1, y2, ()), ()), (y3, y4, y5, y6, ()))))
def Buf (N : Nat) : Go.AX.Aai := Atb @Ac5 N
def C6t (N : Nat) : List (Nat × Aci) := [(5, Aaa Aga (A85 N N)), (38, Aaa Ag3 (Bjj N)), (34, Aaa Ag4 (Bjl N)), (30, Aaa Ag5 (Bjn N)), (24, Aaa Ag6 (Bjp N)), (17, Aaa Afx (A6c N N))]
def Ceg (N : Nat) : List (Nat × Go.AX.Aai) := [(58, Bcm N)]
def Avf : Code := Try.f66.body.getD .skip
def Arp : Code := Try.f81.body.getD .skip
def Ak7 : Aac := ⟨[Alh, Ap3, Are], A0v⟩
def Av0 : Aac := ⟨Ch0, []⟩
def Bmy : Ab3 := .cons (.exit 0) Av0 (.nil)
abbrev A86 (R : Type) := Int->Int->(List UInt8)->d5->d4->d1->Int->Int->(Int->Option R)->Option R
abbrev Bmz (R : Type) := Int->Int->(List UInt8)->d5->d4->d1->Int->Int->Option R
abbrev Azp := {R : Type} → Nat → Nat → A86 R
def Azq {R : Type} (N : Nat) (rc : Bmz R) : A86 R := fun c a d b e f g h j => if ((decide (a < (len b))) = true) then (if (0 ≤ a ∧ a < len b) then (let i := (wi (c + (((List.length (b.getD a.toNat (([] : List UInt8), (false, ([] : List Int)))).2.2) : Nat) : Int))); if (0 ≤ a ∧ a < len b) then (if ((b.getD a.toNat (([] : List UInt8), (false, ([] : List Int)))).2.1 = true) then (if (0 ≤ a ∧ a < len b) then (rc (wi (i + (wi (Int.tdiv (wi ((((List.length (b.getD a.toNat (([] : List UInt8), (false, ([] : List Int)))).1) : Nat) : Int) + 2)) 2)))) (wi (a + 1)) d b e f g h) else none) else rc i (wi (a + 1)) d b e f g h) else none) else none) else j c
def Aff {R : Type} (N : Nat) : Nat → A86 R
 | 0 => fun _ _ _ _ _ _ _ _ _ => none
 | k + 1 => fun a b c d e f g h i => Azq N (fun a b c d e f g h => Aff N k a b c d e f g h i) a b c d e f g h i
def A87 (Aff : Azp) (N k : Nat) : Aaj Ak7 := fun R x K => Aff N k x.1.2.1 x.1.2.2.1 x.2.1.1 x.2.1.2.1 x.2.1.2.2.1 x.2.1.2.2.2.1 x.2.1.2.2.2.2.1 x.2.1.2.2.2.2.2.1 (fun y0 => K (.exit 0) (Aab Av0 ((y0, ()), (()))))
def A88 (N k : Nat) : Aaj Ak7 := A87 @Aff N k
def Bhp : Aac := ⟨A0u, []⟩
def A09 : Aac := ⟨Ard, []⟩
abbrev Cis (R : Type) := (List UInt8)->d5->d4->d1->Int->Int->(Bool->Option R)->Option R
abbrev Aum := {R : Type} → Nat → Cis R
def Bhq (Aff : Azp) : Aum := fun {R} N f b c g d e a => if ((decide ((len c) > 40000)) = true) then (a true) else if ((decide ((len b) > 2000)) = true) then (a true) else if ((decide (d > 200)) = true) then (a true) else if ((decide (e > 20000)) = true) then (a true) else Aff N N 0 0 f b c g d e fun h => a (decide (h > 7800))
def Aib : Aum := @Bhq @Aff
def C74 (N : Nat) : Abg Bhp [A09] := fun R x C => Aib N x.1.1.1 x.1.1.2.1 x.1.1.2.2.1 x.1.1.2.2.2.1 x.1.1.2.2.2.2.1 x.1.1.2.2.2.2.2.1 (fun y0 => C.1 ((y0, ()), (())))
def Bhr (Aib : Aum) (N : Nat) : Go.AX.Aai := Acb [true] [] false 1 0 Bhp [A09] (fun R x C => Aib N x.1.1.1 x.1.1.2.1 x.1.1.2.2.1 x.1.1.2.2.2.1 x.1.1.2.2.2.2.1 x.1.1.2.2.2.2.2.1 (fun y0 => C.1 ((y0, ()), (()))))
def Bw2 (N : Nat) : Go.AX.Aai := Bhr @Aib N
def C75 (N : Nat) : List (Nat × Aci) := [(11, Aaa Ak7 (A88 N N))]
def Cit (N : Nat) : List (Nat × Go.AX.Aai) := []
def Afj : Code := Try.f82.body.getD .skip
def Avg : Code := Try.f97.body.getD .skip
def Anw : Aac := ⟨[Cd1, (4, .one (.val .str)), Asq], []⟩
def A1a : Aac := ⟨[(2, .one (.val .str)), Ap3], []⟩
def A1b : Aac := ⟨[Cd1, (4, .one (.val .str))], []⟩
def Bw3 : Ab3 := .cons .ret A1a (.cons (.exit 0) A1b (.nil))
abbrev Bhs (R : Type) := (List UInt8)->(List UInt8)->Int->((List UInt8)->Int->Option R)->((List UInt8)->(List UInt8)->Option R)->Option R
abbrev Bw4 (R : Type) := (List UInt8)->(List UInt8)->Int->Option R
abbrev A7d := {R : Type} → Nat → Nat → Bhs R
def A7e {R : Type} (N : Nat) (rc : Bw4 R) : Bhs R := fun b c a j m => if ((decide (a < (len b))) = true) then (if (0 ≤ a ∧ a < len b) then (let d := (((UInt8.toNat (b.getD a.toNat (0 : UInt8))) : Nat) : Int); if ((d == 10) = true) then (if (((List.length c) + (2 : Nat)) ≤ (70368744177664 : Nat)) then (rc b (c ++ [(42 : UInt8), (110 : UInt8)]) (wi (a + 1))) else none) else if ((d == 9) = true) then (if (((List.length c) + (2 : Nat)) ≤ (70368744177664 : Nat)) then (rc b (c ++ [(42 : UInt8), (116 : UInt8)]) (wi (a + 1))) else none) else if ((d == 42) = true) then (let e := (wi (a + 1)); if ((0 ≤ e) ∧ (e ≤ (len b))) then (if ((0 ≤ a) ∧ (a ≤ e)) then (let h := (List.drop (Int.toNat a) (List.take (Int.toNat e) b)); if (((1 : Nat) + (List.length h)) ≤ (70368744177664 : Nat)) then (if (((List.length c) + (List.length ((42 : UInt8) :: h))) ≤ (70368744177664 : Nat)) then (rc b (c ++ ((42 : UInt8) :: h)) e) else none) else none) else none) else none) else if ((d == 34) = true) then (let f := (wi (a + 1)); if ((0 ≤ f) ∧ (f ≤ (len b))) then (if ((0 ≤ a) ∧ (a ≤ f)) then (let i := (List.drop (Int.toNat a) (List.take (Int.toNat f) b)); if (((1 : Nat) + (List.length i)) ≤ (70368744177664 : Nat)) then (if (((List.length c) + (List.length ((42 : UInt8) :: i))) ≤ (70368744177664 : Nat)) then (rc b (c ++ ((42 : UInt8) :: i)) f) else none) else none) else none) else none) else if ((decide (d < 32)) = true) then (j ([] : List UInt8) 3) else if ((decide (d > 126)) = true) then (j ([] : List UInt8) 3) else let g := (wi (a + 1)); if ((0 ≤ g) ∧ (g ≤ (len b))) then (if ((0 ≤ a) ∧ (a ≤ g)) then (let l := (List.drop (Int.toNat a) (List.take (Int.toNat g) b)); if (((List.length c) + (List.length l)) ≤ (70368744177664 : Nat)) then (rc b (c ++ l) g) else none) else none) else none) else none) else m b c
def Agt {R : Type} (N : Nat) : Nat → Bhs R
 | 0 => fun _ _ _ _ _ => none
 | k + 1 => fun a b c d e => A7e N (fun a b c => Agt N k a b c d e) a b c d e
def Bht (Agt : A7d) (N k : Nat) : Aaj Anw := fun R x K => Agt N k x.1.1 x.1.2.1 x.1.2.2.1 (fun y0 y1 => K .ret (Aab A1a ((y0, y1, ()), (())))) (fun y0 y1 => K (.exit 0) (Aab A1b ((y0, y1, ()), (()))))
def Bhu (N k : Nat) : Aaj Anw := Bht @Agt N k
def Bpf : Aac := ⟨C6p, []⟩
def A7f : Aac := ⟨[Cd1, Ajl], []⟩
abbrev Cq6 (R : Type) := (List UInt8)->((List UInt8)->Int->Option R)->Option R
abbrev Ao9 := {R : Type} → Nat → Cq6 R
def Bpg (Agt : A7d) : Ao9 := fun {R} N c a => Agt N N c ([(34 : UInt8)]) 0 (fun d e => a d e) fun f b => if ((decide ((len f) > 100)) = true) then (a ([] : List UInt8) 2) else if (((List.length b) + (1 : Nat)) ≤ (70368744177664 : Nat)) then (a (b ++ [(34 : UInt8)]) 0) else none
def Aec : Ao9 := @Bpg @Agt
def Dad (N : Nat) : Abg Bpf [A7f] := fun R x C => Aec N x.1.1 (fun y0 y1 => C.1 ((y0, y1, ()), (())))
def Ayi (Aec : Ao9) (N : Nat) : Go.AX.Aai := Acb [true] [] false 1 0 Bpf [A7f] (fun R x C => Aec N x.1.1 (fun y0 y1 => C.1 ((y0, y1, ()), (()))))
def B4c (N : Nat) : Go.AX.Aai := Ayi @Aec N
def Dae (N : Nat) : List (Nat × Aci) := [(7, Aaa Anw (Bhu N N))]
def Cq7 (N : Nat) : List (Nat × Go.AX.Aai) := []
def Ciu : Code := Try.f98.body.getD .skip
def B2i : Aac := ⟨Ct5, []⟩
def Bhv : Aac := ⟨Ard, []⟩
abbrev C17 (R : Type) := Int->Int->Int->(Bool->Option R)->Option R
abbrev Agb := {R : Type} → Nat → C17 R
def Aay : Agb := fun {R} N a c d b => if ((decide (a ≥ c)) = true) then (b (decide (a ≤ d))) else b false
def C18 (N : Nat) : Abg B2i [Bhv] := fun R x C => Aay N x.1.1 x.1.2.1 x.1.2.2.1 (fun y0 => C.1 ((y0, ()), (())))
def Alw (Aay : Agb) (N : Nat) : Go.AX.Aai := Acb [true, true, true] [] false 3 0 B2i [Bhv] (fun R x C => Aay N x.1.1 x.1.2.1 x.1.2.2.1 (fun y0 => C.1 ((y0, ()), (()))))
def Bhw (N : Nat) : Go.AX.Aai := Alw @Aay N
def C19 (N : Nat) : List (Nat × Aci) := []
def Civ (N : Nat) : List (Nat × Go.AX.Aai) := []
def Aja : Aac := ⟨[Alh, Ap3, A76, Avp], [Asr, (33, .cells 73 [(.val .str), (.val .bool), Asp])]⟩
def Azr : Aac := ⟨Bbc, []⟩
def Azs : Aac := ⟨C04, A0v⟩
def Bug : Ab3 := .cons .ret Azr (.cons (.exit 2) Azs (.nil))
abbrev Bez (R : Type) := Int->Int->(List UInt8)->d5->d4->d1->Int->Int->(List UInt8)->Bool->d0->(Bool->Option R)->(Int->(List UInt8)->d5->d4->d1->Int->Int->Option R)->Option R
abbrev Buh (R : Type) := Int->Int->(List UInt8)->d5->d4->d1->Int->Int->(List UInt8)->Bool->d0->Option R
abbrev Aqr := {R : Type} → Nat → Nat → Bez R
def A34 (Aay : Agb) {R : Type} (N : Nat) (rc : Buh R) : Bez R := fun c a d e f g h i j l b m n => if ((decide (a < (len b))) = true) then (if (0 ≤ a ∧ a < len b) then (Aay N (b.getD a.toNat 0) (-2147483648) 2147483647 fun o => if ((!o) = true) then (m false) else rc c (wi (a + 1)) d e f g h i j l b) else none) else n c d e f g h i
def Adh {R : Type} (N : Nat) : Nat → Bez R
 | 0 => fun _ _ _ _ _ _ _ _ _ _ _ _ _ => none
 | k + 1 => fun a b c d e f g h i j l m n => A34 @Aay N (fun a b c d e f g h i j l => Adh N k a b c d e f g h i j l m n) a b c d e f g h i j l m n
def Atc (Adh : Aqr) (N k : Nat) : Aaj Aja := fun R x K => Adh N k x.1.2.1 x.1.2.2.2.1 x.2.1.1 x.2.1.2.1 x.2.1.2.2.1 x.2.1.2.2.2.1 x.2.1.2.2.2.2.1 x.2.1.2.2.2.2.2.1 x.2.2.1.1 x.2.2.1.2.1 x.2.2.1.2.2.1 (fun y0 => K .ret (Aab Azr ((y0, ()), (())))) (fun y0 y1 y2 y3 y4 y5 y6 => K (.exit 2) (Aab Azs (((), y0, ()), ((y1, y2, y3, y4, y5, y6, ()), ()))))
def Be0 (N k : Nat) : Aaj Aja := Atc @Adh N k
def Aj3 : Aac := ⟨C04, A0v⟩
def A1c : Aac := ⟨Bbc, []⟩
def A1d : Aac := ⟨Cve, A0v⟩
def Bw5 : Ab3 := .cons .ret A1c (.cons (.exit 0) A1d (.nil))
abbrev Bhx (R : Type) := Int->(List UInt8)->d5->d4->d1->Int->Int->(Bool->Option R)->((List UInt8)->d5->d4->d1->Int->Int->Option R)->Option R
abbrev Bw6 (R : Type) := Int->(List UInt8)->d5->d4->d1->Int->Int->Option R
abbrev Arq := {R : Type} → Nat → Nat → Bhx R
def A7g (Aec : Ao9) (Adh : Aqr) {R : Type} (N : Nat) (rc : Bw6 R) : Bhx R := fun a d b e f g h c l => if ((decide (a < (len b))) = true) then (if (0 ≤ a ∧ a < len b) then (let i := (b.getD a.toNat (([] : List UInt8), (false, ([] : List Int)))).1; let j := (b.getD a.toNat (([] : List UInt8), (false, ([] : List Int)))).2.2; if ((b.getD a.toNat (([] : List UInt8), (false, ([] : List Int)))).2.1 = true) then (Aec N i fun v m => if ((m != 0) = true) then (c false) else if ((decide ((len j) > 0)) = true) then (c false) else rc (wi (a + 1)) d b e f g h) else if ((!(i == ([] : List UInt8))) = true) then (c false) else if (((len j) == 0) = true) then (c false) else Adh N N a 0 d b e f g h i ((b.getD a.toNat (([] : List UInt8), (false, ([] : List Int)))).2.1) j (fun n => c n) fun o p q r s t u => rc (wi (o + 1)) p q r s t u) else none) else l d b e f g h
def Adn {R : Type} (N : Nat) : Nat → Bhx R
 | 0 => fun _ _ _ _ _ _ _ _ _ => none
 | k + 1 => fun a b c d e f g h i => A7g @Aec @Adh N (fun a b c d e f g => Adn N k a b c d e f g h i) a b c d e f g h i
def Aun (Adn : Arq) (N k : Nat) : Aaj Aj3 := fun R x K => Adn N k x.1.2.1 x.2.1.1 x.2.1.2.1 x.2.1.2.2.1 x.2.1.2.2.2.1 x.2.1.2.2.2.2.1 x.2.1.2.2.2.2.2.1 (fun y0 => K .ret (Aab A1c ((y0, ()), (())))) (fun y0 y1 y2 y3 y4 y5 => K (.exit 0) (Aab A1d (((), ()), ((y0, y1, y2, y3, y4, y5, ()), ()))))
def Bhy (N k : Nat) : Aaj Aj3 := Aun @Adn N k
def Ajb : Aac := ⟨[Alh, Bgg, (9, .one (.ptr 33)), Bcz], [Asr, (33, .cells 75 [Aa0, Aa0])]⟩
def Azt : Aac := ⟨Bbc, []⟩
def Azu : Aac := ⟨[Alh, Bgg], A0v⟩
def Bui : Ab3 := .cons .ret Azt (.cons (.exit 6) Azu (.nil))
abbrev Be1 (R : Type) := Int->Int->(List UInt8)->d5->d4->d1->Int->Int->Int->Int->(Bool->Option R)->(Int->(List UInt8)->d5->d4->d1->Int->Int->Option R)->Option R
abbrev Buj (R : Type) := Int->Int->(List UInt8)->d5->d4->d1->Int->Int->Int->Int->Option R
abbrev Aqs := {R : Type} → Nat → Nat → Be1 R
def A35 {R : Type} (N : Nat) (rc : Buj R) : Be1 R := fun c a d e f b g h i j l m => if ((decide (a < c)) = true) then (if (0 ≤ a ∧ a < len b) then (if (((b.getD a.toNat (0, 0)).1 == i) = true) then (l false) else rc c (wi (a + 1)) d e f b g h i j) else none) else m c d e f b g h
def Adi {R : Type} (N : Nat) : Nat → Be1 R
 | 0 => fun _ _ _ _ _ _ _ _ _ _ _ _ => none
 | k + 1 => fun a b c d e f g h i j l m => A35 N (fun a b c d e f g h i j => Adi N k a b c d e f g h i j l m) a b c d e f g h i j l m
def Atd (Adi : Aqs) (N k : Nat) : Aaj Ajb := fun R x K => Adi N k x.1.2.1 x.1.2.2.2.1 x.2.1.1 x.2.1.2.1 x.2.1.2.2.1 x.2.1.2.2.2.1 x.2.1.2.2.2.2.1 x.2.1.2.2.2.2.2.1 x.2.2.1.1 x.2.2.1.2.1 (fun y0 => K .ret (Aab Azt ((y0, ()), (())))) (fun y0 y1 y2 y3 y4 y5 y6 => K (.exit 6) (Aab Azu (((), y0, ()), ((y1, y2, y3, y4, y5, y6, ()), ()))))
def Be2 (N k : Nat) : Aaj Ajb := Atd @Adi N k
def Ajc : Aac := ⟨[Alh, Bgg], A0v⟩
def Azv : Aac := ⟨Bbc, []⟩
def Azw : Aac := ⟨Cve, A0v⟩
def Buk : Ab3 := .cons .ret Azv (.cons (.exit 4) Azw (.nil))
abbrev Be3 (R : Type) := Int->(List UInt8)->d5->d4->d1->Int->Int->(Bool->Option R)->((List UInt8)->d5->d4->d1->Int->Int->Option R)->Option R
abbrev Bul (R : Type) := Int->(List UInt8)->d5->d4->d1->Int->Int->Option R
abbrev Aqt := {R : Type} → Nat → Nat → Be3 R
def A36 (Aay : Agb) (Adi : Aqs) {R : Type} (N : Nat) (rc : Bul R) : Be3 R := fun a e f g b c h d l => if ((decide (a < (len b))) = true) then (if (0 ≤ a ∧ a < len b) then (let i := (b.getD a.toNat (0, 0)).1; let j := (b.getD a.toNat (0, 0)).2; Aay N i 1 199 fun m => if ((!m) = true) then (d false) else Aay N j 1 c fun n => if ((!n) = true) then (d false) else Adi N N a 0 e f g b c h i j (fun o => d o) fun p q r s t u v => rc (wi (p + 1)) q r s t u v) else none) else l e f g b c h
def Acw {R : Type} (N : Nat) : Nat → Be3 R
 | 0 => fun _ _ _ _ _ _ _ _ _ => none
 | k + 1 => fun a b c d e f g h i => A36 @Aay @Adi N (fun a b c d e f g => Acw N k a b c d e f g h i) a b c d e f g h i
def Ate (Acw : Aqt) (N k : Nat) : Aaj Ajc := fun R x K => Acw N k x.1.2.1 x.2.1.1 x.2.1.2.1 x.2.1.2.2.1 x.2.1.2.2.2.1 x.2.1.2.2.2.2.1 x.2.1.2.2.2.2.2.1 (fun y0 => K .ret (Aab Azv ((y0, ()), (())))) (fun y0 y1 y2 y3 y4 y5 => K (.exit 4) (Aab Azw (((), ()), ((y0, y1, y2, y3, y4, y5, ()), ()))))
def Be4 (N k : Nat) : Aaj Ajc := Ate @Acw N k
def Bph : Aac := ⟨A0u, []⟩
def A7h : Aac := ⟨Ard, []⟩
abbrev Cq8 (R : Type) := (List UInt8)->d5->d4->d1->Int->Int->(Bool->Option R)->Option R
abbrev Ayj := {R : Type} → Nat → Cq8 R
def Bpi (Adn : Arq) (Acw : Aqt) (Aec : Ao9) : Ayj := fun {R} N b c d e f g a => Adn N N 0 b c d e f g (fun h => a h) fun i j l m n o => Acw N N 0 i j l m n o (fun p => a p) fun q s t u v w => Aec N q fun x r => a (r == 0)
def Akl : Ayj := @Bpi @Adn @Acw @Aec
def Daf (N : Nat) : Abg Bph [A7h] := fun R x C => Akl N x.1.1.1 x.1.1.2.1 x.1.1.2.2.1 x.1.1.2.2.2.1 x.1.1.2.2.2.2.1 x.1.1.2.2.2.2.2.1 (fun y0 => C.1 ((y0, ()), (())))
def Bpj (Akl : Ayj) (N : Nat) : Go.AX.Aai := Acb [true] [] false 1 0 Bph [A7h] (fun R x C => Akl N x.1.1.1 x.1.1.2.1 x.1.1.2.2.1 x.1.1.2.2.2.1 x.1.1.2.2.2.2.1 x.1.1.2.2.2.2.2.1 (fun y0 => C.1 ((y0, ()), (()))))
def B4d (N : Nat) : Go.AX.Aai := Bpj @Akl N
def Dag (N : Nat) : List (Nat × Aci) := [(25, Aaa Aja (Be0 N N)), (5, Aaa Aj3 (Bhy N N)), (47, Aaa Ajb (Be2 N N)), (35, Aaa Ajc (Be4 N N))]
def Cq9 (N : Nat) : List (Nat × Go.AX.Aai) := [(97, B4c N), (98, Bhw N)]
def Agc : Code := Try.f83.body.getD .skip
def Ail : Aac := ⟨[Ajk, A5y, Ctt, (93, .one (.val .bool))], Cac⟩
def A37 : Aac := ⟨Bgf, []⟩
def A38 : Aac := ⟨Cls, A22⟩
def Bm0 : Ab3 := .cons .ret A37 (.cons .normal A38 (.nil))
abbrev B7t (R : Type) := Int->Bool->(List UInt8)->d5->d4->d1->Int->Int->Int->Int->Int->(Bool->Option R)->(Int->Int->Int->Option R)->Option R
abbrev Ajv := {R : Type} → Nat → B7t R
def A89 (Aay : Agb) : Ajv := fun {R} N d f q r s t g e h b c a i => if (f = true) then (Aay N b 1 e fun j => a j) else if ((d == 24) = true) then (Aay N b 1 g fun l => if (l = true) then (Aay N c 0 8 fun m => a m) else a false) else if ((d == 29) = true) then (Aay N b 1 e fun n => if (n = true) then (Aay N c 0 1000 fun o => a o) else a false) else if ((d == 30) = true) then (Aay N c 1 e fun p => a p) else i h b c
def Abz : Ajv := @A89 @Aay
def Aor (Abz : Ajv) (N : Nat) : Aaj Ail := fun R x K => Abz N x.1.2.2.1 x.1.2.2.2.1 x.2.1.1 x.2.1.2.1 x.2.1.2.2.1 x.2.1.2.2.2.1 x.2.1.2.2.2.2.1 x.2.1.2.2.2.2.2.1 x.2.2.1.1 x.2.2.1.2.1 x.2.2.1.2.2.1 (fun y0 => K .ret (Aab A37 ((y0, ()), (())))) (fun y0 y1 y2 => K .normal (Aab A38 (((), ()), ((y0, y1, y2, ()), ()))))
def Bm1 (N : Nat) : Aaj Ail := Aor @Abz N
def Aim : Aac := ⟨[Ajk, A5y, Ctt, (60, .one (.val .bool))], Cac⟩
def A39 : Aac := ⟨Bgf, []⟩
def A4a : Aac := ⟨Cls, A22⟩
def Bm2 : Ab3 := .cons .ret A39 (.cons .normal A4a (.nil))
abbrev B7u (R : Type) := Int->Bool->(List UInt8)->d5->d4->d1->Int->Int->Int->Int->Int->(Bool->Option R)->(Int->Int->Int->Option R)->Option R
abbrev Ajw := {R : Type} → Nat → B7u R
def A9a (Aay : Agb) (Abz : Ajv) : Ajw := fun {R} N a n f d g h e i j b l c m => if (n = true) then (Aay N b 0 (wi ((len d) - 1)) fun o => c o) else if ((a == 11) = true) then (Aay N b 1 e fun p => c p) else if ((a == 16) = true) then (Aay N b 1 17 fun q => c q) else if ((a == 17) = true) then (if ((b == 18) = true) then (c true) else c (b == 19)) else if ((a == 19) = true) then (Abz N a (a == 19) f d g h e i j b l (fun r => c r) fun s t u => m s t u) else if ((a == 20) = true) then (Abz N a (a == 20) f d g h e i j b l (fun v => c v) fun w x y => m w x y) else if ((a == 21) = true) then (Abz N a (a == 21) f d g h e i j b l (fun z => c z) fun A B C => m A B C) else if ((a == 22) = true) then (Abz N a (a == 22) f d g h e i j b l (fun D => c D) fun E F G => m E F G) else Abz N a (a == 27) f d g h e i j b l (fun H => c H) fun I J L => m I J L
def Acc : Ajw := @A9a @Aay @Abz
def Aos (Acc : Ajw) (N : Nat) : Aaj Aim := fun R x K => Acc N x.1.2.2.1 x.1.2.2.2.1 x.2.1.1 x.2.1.2.1 x.2.1.2.2.1 x.2.1.2.2.2.1 x.2.1.2.2.2.2.1 x.2.1.2.2.2.2.2.1 x.2.2.1.1 x.2.2.1.2.1 x.2.2.1.2.2.1 (fun y0 => K .ret (Aab A39 ((y0, ()), (())))) (fun y0 y1 y2 => K .normal (Aab A4a (((), ()), ((y0, y1, y2, ()), ()))))
def Bm3 (N : Nat) : Aaj Aim := Aos @Acc N
def Ain : Aac := ⟨[Ajk, A5y, Ctt, (53, .one (.val .bool))], Cac⟩
def A4b : Aac := ⟨Bgf, []⟩
def A4c : Aac := ⟨Cls, A22⟩
def Bm4 : Ab3 := .cons .ret A4b (.cons .normal A4c (.nil))
abbrev B7v (R : Type) := Int->Bool->(List UInt8)->d5->d4->d1->Int->Int->Int->Int->Int->(Bool->Option R)->(Int->Int->Int->Option R)->Option R
abbrev Ajx := {R : Type} → Nat → B7v R
def A9b (Aay : Agb) (Acc : Ajw) : Ajx := fun {R} N a n d e f g h i j b l c m => if (n = true) then (Aay N b 0 199 fun o => c o) else if ((a == 8) = true) then (Acc N a (a == 8) d e f g h i j b l (fun p => c p) fun q r s => m q r s) else if ((a == 9) = true) then (Acc N a (a == 9) d e f g h i j b l (fun t => c t) fun u v w => m u v w) else Acc N a (a == 10) d e f g h i j b l (fun x => c x) fun y z A => m y z A
def Acd : Ajx := @A9b @Aay @Acc
def Aot (Acd : Ajx) (N : Nat) : Aaj Ain := fun R x K => Acd N x.1.2.2.1 x.1.2.2.2.1 x.2.1.1 x.2.1.2.1 x.2.1.2.2.1 x.2.1.2.2.2.1 x.2.1.2.2.2.2.1 x.2.1.2.2.2.2.2.1 x.2.2.1.1 x.2.2.1.2.1 x.2.2.1.2.2.1 (fun y0 => K .ret (Aab A4b ((y0, ()), (())))) (fun y0 y1 y2 => K .normal (Aab A4c (((), ()), ((y0, y1, y2, ()), ()))))
def Bm5 (N : Nat) : Aaj Ain := Aot @Acd N
def Aio : Aac := ⟨[Ajk, A5y, Ctt, (43, .one (.val .bool))], Cac⟩
def A4d : Aac := ⟨Bgf, []⟩
def A4e : Aac := ⟨Cls, A22⟩
def Bm6 : Ab3 := .cons .ret A4d (.cons .normal A4e (.nil))
abbrev B7w (R : Type) := Int->Bool->(List UInt8)->d5->d4->d1->Int->Int->Int->Int->Int->(Bool->Option R)->(Int->Int->Int->Option R)->Option R
abbrev Ajy := {R : Type} → Nat → B7w R
def A9c (Aay : Agb) (Acd : Ajx) : Ajy := fun {R} N a n d e f g h i j b l c m => if (n = true) then (Aay N b 0 4000 fun o => c o) else if ((a == 5) = true) then (Acd N a (a == 5) d e f g h i j b l (fun p => c p) fun q r s => m q r s) else if ((a == 6) = true) then (Acd N a (a == 6) d e f g h i j b l (fun t => c t) fun u v w => m u v w) else Acd N a (a == 7) d e f g h i j b l (fun x => c x) fun y z A => m y z A
def Aa1 : Ajy := @A9c @Aay @Acd
def Aou (Aa1 : Ajy) (N : Nat) : Aaj Aio := fun R x K => Aa1 N x.1.2.2.1 x.1.2.2.2.1 x.2.1.1 x.2.1.2.1 x.2.1.2.2.1 x.2.1.2.2.2.1 x.2.1.2.2.2.2.1 x.2.1.2.2.2.2.2.1 x.2.2.1.1 x.2.2.1.2.1 x.2.2.1.2.2.1 (fun y0 => K .ret (Aab A4d ((y0, ()), (())))) (fun y0 y1 y2 => K .normal (Aab A4e (((), ()), ((y0, y1, y2, ()), ()))))
def Bm7 (N : Nat) : Aaj Aio := Aou @Aa1 N
def Aip : Aac := ⟨Cls, A22⟩
def A4f : Aac := ⟨Bgf, []⟩
def Bm8 : Ab3 := .cons .ret A4f (.nil)
abbrev B7x (R : Type) := Int->Int->Int->(Bool->Option R)->Option R
abbrev Ak8 := {R : Type} → Nat → B7x R
def Aaz : Ak8 := fun {R} N c a d b => b (a == 0)
def Aov (Aaz : Ak8) (N : Nat) : Aaj Aip := fun R x K => Aaz N x.2.1.1 x.2.1.2.1 x.2.1.2.2.1 (fun y0 => K .ret (Aab A4f ((y0, ()), (()))))
def Bm9 (N : Nat) : Aaj Aip := Aov @Aaz N
def Bhz : Aac := ⟨[Cib, (1, .agg Caa)], []⟩
def A1e : Aac := ⟨Ard, []⟩
abbrev Ciw (R : Type) := (List UInt8)->d5->d4->d1->Int->Int->Int->Int->Int->(Bool->Option R)->Option R
abbrev Auo := {R : Type} → Nat → Ciw R
def Azx (Aay : Agb) (Aa1 : Ajy) (Aaz : Ak8) : Auo := fun {R} N e f g h i j a d c b => Aay N a 1 30 fun l => if ((!l) = true) then (b false) else Aay N d (-2147483648) 2147483647 fun m => if ((!m) = true) then (b false) else Aay N c (-2147483648) 2147483647 fun n => if ((!n) = true) then (b false) else if ((a != 24) = true) then (if ((a != 29) = true) then (if ((a != 30) = true) then (if ((c != 0) = true) then (b false) else if ((a == 1) = true) then (b true) else if ((a == 2) = true) then (Aa1 N a (a == 2) e f g h i j a d c (fun o => b o) fun p q r => Aaz N p q r fun s => b s) else if ((a == 3) = true) then (Aa1 N a (a == 3) e f g h i j a d c (fun t => b t) fun u v w => Aaz N u v w fun x => b x) else if ((a == 4) = true) then (Aa1 N a (a == 4) e f g h i j a d c (fun y => b y) fun z A B => Aaz N z A B fun C => b C) else if ((a == 23) = true) then (Aa1 N a (a == 23) e f g h i j a d c (fun D => b D) fun E F G => Aaz N E F G fun H => b H) else if ((a == 18) = true) then (Aa1 N a (a == 18) e f g h i j a d c (fun I => b I) fun J L M => Aaz N J L M fun O => b O) else Aa1 N a (a == 28) e f g h i j a d c (fun P => b P) fun Q S T => Aaz N Q S T fun U => b U) else if ((a == 1) = true) then (b true) else if ((a == 2) = true) then (Aa1 N a (a == 2) e f g h i j a d c (fun V => b V) fun W X Y => Aaz N W X Y fun Z => b Z) else if ((a == 3) = true) then (Aa1 N a (a == 3) e f g h i j a d c (fun aa => b aa) fun ab ac ad => Aaz N ab ac ad fun ae => b ae) else if ((a == 4) = true) then (Aa1 N a (a == 4) e f g h i j a d c (fun af => b af) fun ag ah ai => Aaz N ag ah ai fun aj => b aj) else if ((a == 23) = true) then (Aa1 N a (a == 23) e f g h i j a d c (fun ak => b ak) fun al am an => Aaz N al am an fun ao => b ao) else if ((a == 18) = true) then (Aa1 N a (a == 18) e f g h i j a d c (fun ap => b ap) fun aq ar au => Aaz N aq ar au fun av => b av) else Aa1 N a (a == 28) e f g h i j a d c (fun aw => b aw) fun ax ay az => Aaz N ax ay az fun ba => b ba) else if ((a == 1) = true) then (b true) else if ((a == 2) = true) then (Aa1 N a (a == 2) e f g h i j a d c (fun bb => b bb) fun bc bd be => Aaz N bc bd be fun bf => b bf) else if ((a == 3) = true) then (Aa1 N a (a == 3) e f g h i j a d c (fun bg => b bg) fun bh bi bj => Aaz N bh bi bj fun bk => b bk) else if ((a == 4) = true) then (Aa1 N a (a == 4) e f g h i j a d c (fun bl => b bl) fun bm bn bo => Aaz N bm bn bo fun bp => b bp) else if ((a == 23) = true) then (Aa1 N a (a == 23) e f g h i j a d c (fun bq => b bq) fun br bs bt => Aaz N br bs bt fun bu => b bu) else if ((a == 18) = true) then (Aa1 N a (a == 18) e f g h i j a d c (fun bv => b bv) fun bw bx bz => Aaz N bw bx bz fun ca => b ca) else Aa1 N a (a == 28) e f g h i j a d c (fun cb => b cb) fun cc cd ce => Aaz N cc cd ce fun cf => b cf) else if ((a == 1) = true) then (b true) else if ((a == 2) = true) then (Aa1 N a (a == 2) e f g h i j a d c (fun cg => b cg) fun ch ci cj => Aaz N ch ci cj fun ck => b ck) else if ((a == 3) = true) then (Aa1 N a (a == 3) e f g h i j a d c (fun cl => b cl) fun cm cn co => Aaz N cm cn co fun cp => b cp) else if ((a == 4) = true) then (Aa1 N a (a == 4) e f g h i j a d c (fun cq => b cq) fun cr cs ct => Aaz N cr cs ct fun cu => b cu) else if ((a == 23) = true) then (Aa1 N a (a == 23) e f g h i j a d c (fun cv => b cv) fun cw cx cy => Aaz N cw cx cy fun cz => b cz) else if ((a == 18) = true) then (Aa1 N a (a == 18) e f g h i j a d c (fun da => b da) fun db dc dd => Aaz N db dc dd fun de => b de) else Aa1 N a (a == 28) e f g h i j a d c (fun df => b df) fun dg dh di => Aaz N dg dh di fun dj => b dj
def Agu : Auo := @Azx @Aay @Aa1 @Aaz
def C76 (N : Nat) : Abg Bhz [A1e] := fun R x C => Agu N x.1.1.1 x.1.1.2.1 x.1.1.2.2.1 x.1.1.2.2.2.1 x.1.1.2.2.2.2.1 x.1.1.2.2.2.2.2.1 x.1.2.1.1 x.1.2.1.2.1 x.1.2.1.2.2.1 (fun y0 => C.1 ((y0, ()), (())))
def Bh0 (Agu : Auo) (N : Nat) : Go.AX.Aai := Acb [true, true] [] false 2 0 Bhz [A1e] (fun R x C => Agu N x.1.1.1 x.1.1.2.1 x.1.1.2.2.1 x.1.1.2.2.2.1 x.1.1.2.2.2.2.1 x.1.1.2.2.2.2.2.1 x.1.2.1.1 x.1.2.1.2.1 x.1.2.1.2.2.1 (fun y0 => C.1 ((y0, ()), (()))))
def Bw7 (N : Nat) : Go.AX.Aai := Bh0 @Agu N
def C77 (N : Nat) : List (Nat × Aci) := [(68, Aaa Ail (Bm1 N)), (44, Aaa Aim (Bm3 N)), (36, Aaa Ain (Bm5 N)), (28, Aaa Aio (Bm7 N)), (82, Aaa Aip (Bm9 N))]
def Cix (N : Nat) : List (Nat × Go.AX.Aai) := [(98, Bhw N)]
def Amr : Aac := ⟨C04, A0v⟩
def Azy : Aac := ⟨Ch1, []⟩
def Azz : Aac := ⟨Cve, A0v⟩
def Bum : Ab3 := .cons .ret Azy (.cons (.exit 0) Azz (.nil))
abbrev Be5 (R : Type) := Int->(List UInt8)->d5->d4->d1->Int->Int->(Int->Option R)->((List UInt8)->d5->d4->d1->Int->Int->Option R)->Option R
abbrev Bun (R : Type) := Int->(List UInt8)->d5->d4->d1->Int->Int->Option R
abbrev A4g := {R : Type} → Nat → Nat → Be5 R
def Be6 (Agu : Auo) {R : Type} (N : Nat) (rc : Bun R) : Be5 R := fun b c d a e f g h i => if ((decide (b < (len a))) = true) then (if (0 ≤ b ∧ b < len a) then (Agu N c d a e f g ((a.getD b.toNat (0, (0, 0))).1) ((a.getD b.toNat (0, (0, 0))).2.1) ((a.getD b.toNat (0, (0, 0))).2.2) fun j => if ((!j) = true) then (h 60) else rc (wi (b + 1)) c d a e f g) else none) else i c d a e f g
def Agy {R : Type} (N : Nat) : Nat → Be5 R
 | 0 => fun _ _ _ _ _ _ _ _ _ => none
 | k + 1 => fun a b c d e f g h i => Be6 @Agu N (fun a b c d e f g => Agy N k a b c d e f g h i) a b c d e f g h i
def Be7 (Agy : A4g) (N k : Nat) : Aaj Amr := fun R x K => Agy N k x.1.2.1 x.2.1.1 x.2.1.2.1 x.2.1.2.2.1 x.2.1.2.2.2.1 x.2.1.2.2.2.2.1 x.2.1.2.2.2.2.2.1 (fun y0 => K .ret (Aab Azy ((y0, ()), (())))) (fun y0 y1 y2 y3 y4 y5 => K (.exit 0) (Aab Azz (((), ()), ((y0, y1, y2, y3, y4, y5, ()), ()))))
def Be8 (N k : Nat) : Aaj Amr := Be7 @Agy N k
def Akt : Code := Try.f84.body.getD .skip
def B0g : Code := Try.f99.body.getD .skip
def Bk2 : Aac := ⟨Ct2, []⟩
def A4h : Aac := ⟨Ard, []⟩
abbrev Cmb (R : Type) := Int->Int->Int->(Bool->Option R)->Option R
abbrev Ang := {R : Type} → Nat → Cmb R
def Abe : Ang := fun {R} N a c d b => if ((a != 20) = true) then (if ((a != 25) = true) then (if ((a != 26) = true) then (if ((a != 27) = true) then (if ((a != 29) = true) then (b (a != 30)) else b false) else b false) else b false) else b false) else b false
def Cmc (N : Nat) : Abg Bk2 [A4h] := fun R x C => Abe N x.1.1.1 x.1.1.2.1 x.1.1.2.2.1 (fun y0 => C.1 ((y0, ()), (())))
def Atf (Abe : Ang) (N : Nat) : Go.AX.Aai := Acb [true] [] false 1 0 Bk2 [A4h] (fun R x C => Abe N x.1.1.1 x.1.1.2.1 x.1.1.2.2.1 (fun y0 => C.1 ((y0, ()), (()))))
def Bk3 (N : Nat) : Go.AX.Aai := Atf @Abe N
def Cmd (N : Nat) : List (Nat × Aci) := []
def B0h (N : Nat) : List (Nat × Go.AX.Aai) := []
def Ams : Aac := ⟨[Alh, Ap3, Are, Asq, An6, Cu6, C6o], Cac⟩
def A9d : Aac := ⟨Bbc, []⟩
def A9e : Aac := ⟨C1m, A0v⟩
def Buo : Ab3 := .cons .ret A9d (.cons .normal A9e (.nil))
abbrev Ceh (R : Type) := Int->Int->Int->Int->Bool->(List UInt8)->d5->d4->d1->Int->Int->Int->Int->Int->(Bool->Option R)->(Int->Int->Int->Int->(List UInt8)->d5->d4->d1->Int->Int->Option R)->Option R
abbrev Aow := {R : Type} → Nat → Ceh R
def Be9 (Abe : Ang) : Aow := fun {R} N c d e a p f g b h i j n q r l m => Abe N n q r fun s => if (s = true) then (if (p = true) then (l false) else let o := (wi (a + 1)); if (0 ≤ o ∧ o < len b) then (if (((b.getD o.toNat (0, (0, 0))).1 == 24) = true) then (l false) else if ((a == 0) = true) then (if ((n != 24) = true) then (l false) else m c d e a f g b h i j) else m c d e a f g b h i j) else none) else if ((a == 0) = true) then (if ((n != 24) = true) then (l false) else m c d e a f g b h i j) else m c d e a f g b h i j
def Adj : Aow := @Be9 @Abe
def Aw7 (Adj : Aow) (N : Nat) : Aaj Ams := fun R x K => Adj N x.1.2.1 x.1.2.2.1 x.1.2.2.2.1 x.1.2.2.2.2.1 x.1.2.2.2.2.2.2.1 x.2.1.1 x.2.1.2.1 x.2.1.2.2.1 x.2.1.2.2.2.1 x.2.1.2.2.2.2.1 x.2.1.2.2.2.2.2.1 x.2.2.1.1 x.2.2.1.2.1 x.2.2.1.2.2.1 (fun y0 => K .ret (Aab A9d ((y0, ()), (())))) (fun y0 y1 y2 y3 y4 y5 y6 y7 y8 y9 => K .normal (Aab A9e (((), y0, y1, y2, y3, ()), ((y4, y5, y6, y7, y8, y9, ()), ()))))
def Bup (N : Nat) : Aaj Ams := Aw7 @Adj N
def Amt : Aac := ⟨[Alh, Ap3, Are, Asq, An6, Cu6], Cac⟩
def A9f : Aac := ⟨Bbc, []⟩
def A9g : Aac := ⟨C1m, A0v⟩
def Buq : Ab3 := .cons .ret A9f (.cons .normal A9g (.nil))
abbrev Cei (R : Type) := Int->Int->Int->Int->(List UInt8)->d5->d4->d1->Int->Int->Int->Int->Int->(Bool->Option R)->(Int->Int->Int->Int->(List UInt8)->d5->d4->d1->Int->Int->Option R)->Option R
abbrev Aox := {R : Type} → Nat → Cei R
def Bfa (Adj : Aow) : Aox := fun {R} N h p q f i j a l m n c d g e o => let b := (wi (f + 1)); if ((c == 24) = true) then (let t := (wi (h + 1)); if ((d != t) = true) then (e false) else Adj N t p q f (decide (b ≥ (len a))) i j a l m n c d g (fun u => e u) fun v w x y z A B C D E => o v w x y z A B C D E) else if ((c == 29) = true) then (Adj N h p g f (decide (b ≥ (len a))) i j a l m n c d g (fun F => e F) fun G H I J L M O P Q S => o G H I J L M O P Q S) else if ((c == 19) = true) then (let r := (if (d > p) then d else p); if ((decide (b ≥ (len a))) = true) then (e false) else if (0 ≤ b ∧ b < len a) then (let s := (a.getD b.toNat (0, (0, 0))).1; if ((s != 18) = true) then (if (0 ≤ b ∧ b < len a) then (if ((s != 28) = true) then (if (0 ≤ b ∧ b < len a) then (if ((s != 19) = true) then (e false) else Adj N h r q f (decide (b ≥ (len a))) i j a l m n c d g (fun T => e T) fun U V W X Y Z aa ab ac ad => o U V W X Y Z aa ab ac ad) else none) else Adj N h r q f (decide (b ≥ (len a))) i j a l m n c d g (fun ae => e ae) fun af ag ah ai aj ak al am an ao => o af ag ah ai aj ak al am an ao) else none) else Adj N h r q f (decide (b ≥ (len a))) i j a l m n c d g (fun ap => e ap) fun aq ar au av aw ax ay az ba bb => o aq ar au av aw ax ay az ba bb) else none) else Adj N h p q f (decide (b ≥ (len a))) i j a l m n c d g (fun bc => e bc) fun bd be bf bg bh bi bj bk bl bm => o bd be bf bg bh bi bj bk bl bm
def Ae0 : Aox := @Bfa @Adj
def Aw8 (Ae0 : Aox) (N : Nat) : Aaj Amt := fun R x K => Ae0 N x.1.2.1 x.1.2.2.1 x.1.2.2.2.1 x.1.2.2.2.2.1 x.2.1.1 x.2.1.2.1 x.2.1.2.2.1 x.2.1.2.2.2.1 x.2.1.2.2.2.2.1 x.2.1.2.2.2.2.2.1 x.2.2.1.1 x.2.2.1.2.1 x.2.2.1.2.2.1 (fun y0 => K .ret (Aab A9f ((y0, ()), (())))) (fun y0 y1 y2 y3 y4 y5 y6 y7 y8 y9 => K .normal (Aab A9g (((), y0, y1, y2, y3, ()), ((y4, y5, y6, y7, y8, y9, ()), ()))))
def Bur (N : Nat) : Aaj Amt := Aw8 @Ae0 N
def Ak9 : Aac := ⟨C1m, A0v⟩
def A1f : Aac := ⟨Bbc, []⟩
def A1g : Aac := ⟨[Alh, Ap3, Are, Asq], A0v⟩
def Bw8 : Ab3 := .cons .ret A1f (.cons (.exit 0) A1g (.nil))
abbrev Bh1 (R : Type) := Int->Int->Int->Int->(List UInt8)->d5->d4->d1->Int->Int->(Bool->Option R)->(Int->Int->Int->(List UInt8)->d5->d4->d1->Int->Int->Option R)->Option R
abbrev Bw9 (R : Type) := Int->Int->Int->Int->(List UInt8)->d5->d4->d1->Int->Int->Option R
abbrev Aup := {R : Type} → Nat → Nat → Bh1 R
def Bh2 (Ae0 : Aox) {R : Type} (N : Nat) (rc : Bw9 R) : Bh1 R := fun d e c a f g b h i j l p => if ((decide (a < (len b))) = true) then (if (0 ≤ a ∧ a < len b) then (let m := (b.getD a.toNat (0, (0, 0))).1; let n := (b.getD a.toNat (0, (0, 0))).2.1; let o := (b.getD a.toNat (0, (0, 0))).2.2; if ((!((decide (c > 0)) == (m == 30))) = true) then (l false) else if ((decide (c > 0)) = true) then (Ae0 N d e (wi (c - 1)) a f g b h i j m n o (fun q => l q) fun r s t u v w x y z A => rc r s t (wi (u + 1)) v w x y z A) else Ae0 N d e c a f g b h i j m n o (fun B => l B) fun C D E F G H I J L M => rc C D E (wi (F + 1)) G H I J L M) else none) else p d e c f g b h i j
def Aeo {R : Type} (N : Nat) : Nat → Bh1 R
 | 0 => fun _ _ _ _ _ _ _ _ _ _ _ _ => none
 | k + 1 => fun a b c d e f g h i j l m => Bh2 @Ae0 N (fun a b c d e f g h i j => Aeo N k a b c d e f g h i j l m) a b c d e f g h i j l m
def Az0 (Aeo : Aup) (N k : Nat) : Aaj Ak9 := fun R x K => Aeo N k x.1.2.1 x.1.2.2.1 x.1.2.2.2.1 x.1.2.2.2.2.1 x.2.1.1 x.2.1.2.1 x.2.1.2.2.1 x.2.1.2.2.2.1 x.2.1.2.2.2.2.1 x.2.1.2.2.2.2.2.1 (fun y0 => K .ret (Aab A1f ((y0, ()), (())))) (fun y0 y1 y2 y3 y4 y5 y6 y7 y8 => K (.exit 0) (Aab A1g (((), y0, y1, y2, ()), ((y3, y4, y5, y6, y7, y8, ()), ()))))
def Bh3 (N k : Nat) : Aaj Ak9 := Az0 @Aeo N k
def Bpk : Aac := ⟨A0u, []⟩
def A7i : Aac := ⟨Ard, []⟩
abbrev Cra (R : Type) := (List UInt8)->d5->d4->d1->Int->Int->(Bool->Option R)->Option R
abbrev Ayk := {R : Type} → Nat → Cra R
def Bpl (Aeo : Aup) : Ayk := fun {R} N b c d e f g a => Aeo N N 0 0 0 0 b c d e f g (fun h => a h) fun i j l o p q r m n => if ((l == 0) = true) then (if ((i == m) = true) then (a (j == n)) else a false) else a false
def Ajz : Ayk := @Bpl @Aeo
def Dah (N : Nat) : Abg Bpk [A7i] := fun R x C => Ajz N x.1.1.1 x.1.1.2.1 x.1.1.2.2.1 x.1.1.2.2.2.1 x.1.1.2.2.2.2.1 x.1.1.2.2.2.2.2.1 (fun y0 => C.1 ((y0, ()), (())))
def Bpm (Ajz : Ayk) (N : Nat) : Go.AX.Aai := Acb [true] [] false 1 0 Bpk [A7i] (fun R x C => Ajz N x.1.1.1 x.1.1.2.1 x.1.1.2.2.1 x.1.1.2.2.2.1 x.1.1.2.2.2.2.1 x.1.1.2.2.2.2.2.1 (fun y0 => C.1 ((y0, ()), (()))))
def B4e (N : Nat) : Go.AX.Aai := Bpm @Ajz N
def Dai (N : Nat) : List (Nat × Aci) := [(44, Aaa Ams (Bup N)), (20, Aaa Amt (Bur N)), (7, Aaa Ak9 (Bh3 N N))]
def Crb (N : Nat) : List (Nat × Go.AX.Aai) := [(99, Bk3 N)]
def Afm : Code := Try.f85.body.getD .skip
def Ajd : Aac := ⟨[Alh, Cvc, Cvd, Asq], B17⟩
def Az1 : Aac := ⟨[Alh, Cvc, Cvd], B17⟩
def Bus : Ab3 := .cons (.exit 0) Az1 (.nil)
abbrev Bfb (R : Type) := Int->(List UInt8)->d5->d4->d1->Int->Int->d0->d0->d0->d0->((List UInt8)->d5->d4->d1->Int->Int->d0->d0->d0->d0->Option R)->Option R
abbrev But (R : Type) := Int->(List UInt8)->d5->d4->d1->Int->Int->d0->d0->d0->d0->Option R
abbrev Aqu := {R : Type} → Nat → Nat → Bfb R
def A4i {R : Type} (N : Nat) (rc : But R) : Bfb R := fun a d e f g h b i j c l m => if ((decide (a ≤ b)) = true) then (if (0 ≤ a ∧ a < len c) then (rc (wi (a + 1)) d e f g h b i j (c.set a.toNat (-1)) l) else none) else m d e f g h b i j c l
def Adk {R : Type} (N : Nat) : Nat → Bfb R
 | 0 => fun _ _ _ _ _ _ _ _ _ _ _ _ => none
 | k + 1 => fun a b c d e f g h i j l m => A4i N (fun a b c d e f g h i j l => Adk N k a b c d e f g h i j l m) a b c d e f g h i j l m
def Atg (Adk : Aqu) (N k : Nat) : Aaj Ajd := fun R x K => Adk N k x.1.2.2.2.1 x.2.1.1 x.2.1.2.1 x.2.1.2.2.1 x.2.1.2.2.2.1 x.2.1.2.2.2.2.1 x.2.1.2.2.2.2.2.1 x.2.2.2.2.1 x.2.2.2.2.2.1 x.2.2.2.2.2.2.1 x.2.2.2.2.2.2.2.1 (fun y0 y1 y2 y3 y4 y5 y6 y7 y8 y9 => K (.exit 0) (Aab Az1 (((), (), (), ()), ((y0, y1, y2, y3, y4, y5, ()), ((), (), ()), ((), (), ()), y6, y7, y8, y9, ()))))
def Bfc (N k : Nat) : Aaj Ajd := Atg @Adk N k
def Akm : Aac := ⟨C1k, B17⟩
def A6d : Aac := ⟨C02, C1j⟩
def A6e : Aac := ⟨C1k, B17⟩
def Bqz : Ab3 := .cons .ret A6d (.cons .normal A6e (.nil))
abbrev Car (R : Type) := Int->Int->(List UInt8)->d5->d4->d1->Int->Int->d0->d0->d0->d0->(Bool->d0->d0->Option R)->(Int->Int->(List UInt8)->d5->d4->d1->Int->Int->d0->d0->d0->d0->Option R)->Option R
abbrev Ano := {R : Type} → Nat → Car R
def Ado : Ano := fun {R} N e a g h b i j l m n c f p o => if (0 ≤ a ∧ a < len f) then (if (0 ≤ a ∧ a < len b) then (if (((b.getD a.toNat (0, (0, 0))).1 == 19) = true) then (if (0 ≤ a ∧ a < len b) then (let d := (b.getD a.toNat (0, (0, 0))).2.1; if (0 ≤ d ∧ d < len c) then (if ((decide ((c.getD d.toNat 0) ≥ 0)) = true) then (p false c (f.set a.toNat e)) else if (0 ≤ a ∧ a < len b) then (if (0 ≤ d ∧ d < len c) then (o e a g h b i j l m n (c.set d.toNat a) (f.set a.toNat e)) else none) else none) else none) else none) else o e a g h b i j l m n c (f.set a.toNat e)) else none) else none
def Ar7 (Ado : Ano) (N : Nat) : Aaj Akm := fun R x K => Ado N x.1.2.2.2.1 x.1.2.2.2.2.1 x.2.1.1 x.2.1.2.1 x.2.1.2.2.1 x.2.1.2.2.2.1 x.2.1.2.2.2.2.1 x.2.1.2.2.2.2.2.1 x.2.2.2.2.1 x.2.2.2.2.2.1 x.2.2.2.2.2.2.1 x.2.2.2.2.2.2.2.1 (fun y0 y1 y2 => K .ret (Aab A6d (((), y0, ()), (((), (), ()), y1, y2, ())))) (fun y0 y1 y2 y3 y4 y5 y6 y7 y8 y9 y10 y11 => K .normal (Aab A6e (((), (), (), y0, y1, ()), ((y2, y3, y4, y5, y6, y7, ()), ((), (), ()), ((), (), ()), y8, y9, y10, y11, ()))))
def Bq0 (N : Nat) : Aaj Akm := Ar7 @Ado N
def Aic : Aac := ⟨C1k, B17⟩
def Axw : Aac := ⟨C02, C1j⟩
def Axx : Aac := ⟨[Alh, Cvc, Cvd], B17⟩
def Bq1 : Ab3 := .cons .ret Axw (.cons (.exit 2) Axx (.nil))
abbrev Bbx (R : Type) := Int->Int->(List UInt8)->d5->d4->d1->Int->Int->d0->d0->d0->d0->(Bool->d0->d0->Option R)->((List UInt8)->d5->d4->d1->Int->Int->d0->d0->d0->d0->Option R)->Option R
abbrev Bq2 (R : Type) := Int->Int->(List UInt8)->d5->d4->d1->Int->Int->d0->d0->d0->d0->Option R
abbrev Ap0 := {R : Type} → Nat → Nat → Bbx R
def Bby (Ado : Ano) {R : Type} (N : Nat) (rc : Bq2 R) : Bbx R := fun m a c d b e f g h i j l n o => if ((decide (a < (len b))) = true) then (if (0 ≤ a ∧ a < len b) then (if (((b.getD a.toNat (0, (0, 0))).1 == 24) = true) then (Ado N (wi (m + 1)) a c d b e f g h i j l (fun p q r => n p q r) fun s t u v w x y z A B C D => rc s (wi (t + 1)) u v w x y z A B C D) else Ado N m a c d b e f g h i j l (fun E F G => n E F G) fun H I J L M O P Q S T U V => rc H (wi (I + 1)) J L M O P Q S T U V) else none) else o c d b e f g h i j l
def Acx {R : Type} (N : Nat) : Nat → Bbx R
 | 0 => fun _ _ _ _ _ _ _ _ _ _ _ _ _ _ => none
 | k + 1 => fun a b c d e f g h i j l m n o => Bby @Ado N (fun a b c d e f g h i j l m => Acx N k a b c d e f g h i j l m n o) a b c d e f g h i j l m n o
def Ar8 (Acx : Ap0) (N k : Nat) : Aaj Aic := fun R x K => Acx N k x.1.2.2.2.1 x.1.2.2.2.2.1 x.2.1.1 x.2.1.2.1 x.2.1.2.2.1 x.2.1.2.2.2.1 x.2.1.2.2.2.2.1 x.2.1.2.2.2.2.2.1 x.2.2.2.2.1 x.2.2.2.2.2.1 x.2.2.2.2.2.2.1 x.2.2.2.2.2.2.2.1 (fun y0 y1 y2 => K .ret (Aab Axw (((), y0, ()), (((), (), ()), y1, y2, ())))) (fun y0 y1 y2 y3 y4 y5 y6 y7 y8 y9 => K (.exit 2) (Aab Axx (((), (), (), ()), ((y0, y1, y2, y3, y4, y5, ()), ((), (), ()), ((), (), ()), y6, y7, y8, y9, ()))))
def Bbz (N k : Nat) : Aaj Aic := Ar8 @Acx N k
def A5j : Code := Try.f33.body.getD .skip
def Aqv : Aac := ⟨[Alh, Are, Cvf], A22⟩
def A9h : Aac := ⟨Ch1, []⟩
def A9i : Aac := ⟨[], []⟩
def Buu : Ab3 := .cons .ret A9h (.cons .normal A9i (.nil))
abbrev Cej (R : Type) := Int->Bool->Int->Int->Int->(Int->Option R)->(Option R)->Option R
abbrev Aw9 := {R : Type} → Nat → Cej R
def Af2 : Aw9 := fun {R} N b c g d e a f => if (c = true) then (a d) else if ((b == 30) = true) then (a e) else f
def Bfd (Af2 : Aw9) (N : Nat) : Aaj Aqv := fun R x K => Af2 N x.1.2.1 x.1.2.2.1 x.2.1.1 x.2.1.2.1 x.2.1.2.2.1 (fun y0 => K .ret (Aab A9h ((y0, ()), (())))) (K .normal (Aab A9i ((()), (()))))
def Buv (N : Nat) : Aaj Aqv := Bfd @Af2 N
def Bpn : Aac := ⟨Ct2, []⟩
def A7j : Aac := ⟨Alu, []⟩
abbrev Crc (R : Type) := Int->Int->Int->(Int->Option R)->Option R
abbrev Al2 := {R : Type} → Nat → Crc R
def Bpo (Af2 : Aw9) : Al2 := fun {R} N a c d b => if ((a == 20) = true) then (Af2 N a (a == 20) a c d (fun e => b e) (b 0)) else if ((a == 21) = true) then (Af2 N a (a == 21) a c d (fun f => b f) (b 0)) else if ((a == 22) = true) then (Af2 N a (a == 22) a c d (fun g => b g) (b 0)) else if ((a == 27) = true) then (Af2 N a (a == 27) a c d (fun h => b h) (b 0)) else Af2 N a (a == 29) a c d (fun i => b i) (b 0)
def Ab9 : Al2 := @Bpo @Af2
def Daj (N : Nat) : Abg Bpn [A7j] := fun R x C => Ab9 N x.1.1.1 x.1.1.2.1 x.1.1.2.2.1 (fun y0 => C.1 ((y0, ()), (())))
def Ash (Ab9 : Al2) (N : Nat) : Go.AX.Aai := Acb [true] [] false 1 0 Bpn [A7j] (fun R x C => Ab9 N x.1.1.1 x.1.1.2.1 x.1.1.2.2.1 (fun y0 => C.1 ((y0, ()), (()))))
def Bpp (N : Nat) : Go.AX.Aai := Ash @Ab9 N
def Dak (N : Nat) : List (Nat × Aci) := [(14, Aaa Aqv (Buv N))]
def Crd (N : Nat) : List (Nat × Go.AX.Aai) := []
def Aid : Aac := ⟨[Alh, Cvc, Cvd, Bgg], B17⟩
def Axy : Aac := ⟨C02, C1j⟩
def Axz : Aac := ⟨[Ajk, A76], [(32, .cells 111 [(.slf 34), (.slf 35)]), (33, .cells 111 [(.slf 36), (.slf 37)]), Bbd, A77, Bbe, Bjz]⟩
def Bq3 : Ab3 := .cons .ret Axy (.cons (.exit 4) Axz (.nil))
abbrev Bb0 (R : Type) := Int->(List UInt8)->d5->d4->d1->Int->Int->d0->d0->d0->d0->(Bool->d0->d0->Option R)->(d0->d0->d0->d0->Option R)->Option R
abbrev Bq4 (R : Type) := Int->(List UInt8)->d5->d4->d1->Int->Int->d0->d0->d0->d0->Option R
abbrev Ap1 := {R : Type} → Nat → Nat → Bb0 R
def Bb1 (Ab9 : Al2) {R : Type} (N : Nat) (rc : Bq4 R) : Bb0 R := fun a i j d l m n g h c b o p => if ((decide (a < (len d))) = true) then (if (0 ≤ a ∧ a < len d) then (Ab9 N ((d.getD a.toNat (0, (0, 0))).1) ((d.getD a.toNat (0, (0, 0))).2.1) ((d.getD a.toNat (0, (0, 0))).2.2) fun e => if ((decide (e > 0)) = true) then (if (0 ≤ e ∧ e < len c) then (let f := (c.getD e.toNat 0); if ((decide (f < 0)) = true) then (o false c b) else if (0 ≤ e ∧ e < len c) then (if (0 ≤ f ∧ f < len b) then (if (0 ≤ a ∧ a < len b) then (if (((b.getD f.toNat 0) != (b.getD a.toNat 0)) = true) then (o false c b) else rc (wi (a + 1)) i j d l m n g h c b) else none) else none) else none) else none) else rc (wi (a + 1)) i j d l m n g h c b) else none) else p g h c b
def Acj {R : Type} (N : Nat) : Nat → Bb0 R
 | 0 => fun _ _ _ _ _ _ _ _ _ _ _ _ _ => none
 | k + 1 => fun a b c d e f g h i j l m n => Bb1 @Ab9 N (fun a b c d e f g h i j l => Acj N k a b c d e f g h i j l m n) a b c d e f g h i j l m n
def Ar9 (Acj : Ap1) (N k : Nat) : Aaj Aid := fun R x K => Acj N k x.1.2.2.2.1 x.2.1.1 x.2.1.2.1 x.2.1.2.2.1 x.2.1.2.2.2.1 x.2.1.2.2.2.2.1 x.2.1.2.2.2.2.2.1 x.2.2.2.2.1 x.2.2.2.2.2.1 x.2.2.2.2.2.2.1 x.2.2.2.2.2.2.2.1 (fun y0 y1 y2 => K .ret (Aab Axy (((), y0, ()), (((), (), ()), y1, y2, ())))) (fun y0 y1 y2 y3 => K (.exit 4) (Aab Axz (((), (), ()), (((), (), ()), ((), (), ()), y0, y1, y2, y3, ()))))
def Bb2 (N k : Nat) : Aaj Aid := Ar9 @Acj N k
def Bk4 : Aac := ⟨A0u, []⟩
def A4j : Aac := ⟨[(0, .agg [(.slf 32), (.slf 33)]), (1, .one (.val .bool))], Ch5⟩
abbrev Cme (R : Type) := (List UInt8)->d5->d4->d1->Int->Int->(Bool->d0->d0->Option R)->Option R
abbrev Awe := {R : Type} → Nat → Cme R
def Bk5 (Adk : Aqu) (Acx : Ap0) (Acj : Ap1) : Awe := fun {R} N e f a g h d c => let b := (wi (d + 1)); if ((0 ≤ b) ∧ ((b ≤ b) ∧ ((b * 8) ≤ 70368744177664))) then (if ((0 ≤ (len a)) ∧ (((len a) ≤ (len a)) ∧ (((len a) * 8) ≤ 70368744177664))) then (Adk N N 0 e f a g h d ([] : List Int) ([] : List Int) (List.replicate (Int.toNat b) 0) (List.replicate (Int.toNat (len a)) 0) fun i j l m n o p q r s => Acx N N 0 0 i j l m n o p q r s (fun t u v => c t u v) fun w x y z A B C D E F => Acj N N 0 w x y z A B C D E F (fun G H I => c G H I) fun M O J L => c true J L) else none) else none
def Aiq : Awe := @Bk5 @Adk @Acx @Acj
def C80 (N : Nat) : Abg Bk4 [A4j] := fun R x C => Aiq N x.1.1.1 x.1.1.2.1 x.1.1.2.2.1 x.1.1.2.2.2.1 x.1.1.2.2.2.2.1 x.1.1.2.2.2.2.2.1 (fun y0 y1 y2 => C.1 ((((), (), ()), y0, ()), (y1, y2, ())))
def Bk6 (Aiq : Awe) (N : Nat) : Go.AX.Aai := Acb [true] [] false 1 0 Bk4 [A4j] (fun R x C => Aiq N x.1.1.1 x.1.1.2.1 x.1.1.2.2.1 x.1.1.2.2.2.1 x.1.1.2.2.2.2.1 x.1.1.2.2.2.2.2.1 (fun y0 y1 y2 => C.1 ((((), (), ()), y0, ()), (y1, y2, ()))))
def B0i (N : Nat) : Go.AX.Aai := Bk6 @Aiq N
def C81 (N : Nat) : List (Nat × Aci) := [(7, Aaa Ajd (Bfc N N)), (24, Aaa Akm (Bq0 N)), (17, Aaa Aic (Bbz N N)), (37, Aaa Aid (Bb2 N N))]
def Cmf (N : Nat) : List (Nat × Go.AX.Aai) := [(33, Bpp N)]
def Axa : Code := Try.f86.body.getD .skip
def Am4 : Code := Try.f100.body.getD .skip
def Amu : Aac := ⟨[Ajl, Ajk, An6, (43, .one (.val .bool))], A22⟩
def A9j : Aac := ⟨Ctu, []⟩
def A9k : Aac := ⟨Ctv, []⟩
def Buw : Ab3 := .cons .ret A9j (.cons .normal A9k (.nil))
abbrev Cek (R : Type) := Int->Int->Bool->Int->Int->Int->(Int->Option R)->(Int->Option R)->Option R
abbrev Aqw := {R : Type} → Nat → Cek R
def Ae1 : Aqw := fun {R} N b c d h e f a g => if (d = true) then (a (wi (e + 1))) else if ((c == 24) = true) then (a (wi (2 + f))) else g b
def Axb (Ae1 : Aqw) (N : Nat) : Aaj Amu := fun R x K => Ae1 N x.1.1 x.1.2.2.1 x.1.2.2.2.1 x.2.1.1 x.2.1.2.1 x.2.1.2.2.1 (fun y0 => K .ret (Aab A9j ((y0, ()), (())))) (fun y0 => K .normal (Aab A9k ((y0, ()), (()))))
def Bux (N : Nat) : Aaj Amu := Axb @Ae1 N
def Amv : Aac := ⟨[Ajl, Ajk, An6, (18, .one (.val .bool))], A22⟩
def A9l : Aac := ⟨Ctu, []⟩
def A9m : Aac := ⟨Ctv, []⟩
def Buy : Ab3 := .cons .ret A9l (.cons .normal A9m (.nil))
abbrev Cel (R : Type) := Int->Int->Bool->Int->Int->Int->(Int->Option R)->(Int->Option R)->Option R
abbrev Aoy := {R : Type} → Nat → Cel R
def Bfe (Ae1 : Aqw) : Aoy := fun {R} N c a h e d f b g => if (h = true) then (b (wi (c - 1))) else if ((a == 13) = true) then (b (wi (c - 2))) else if ((a == 15) = true) then (b (wi (c - 3))) else if ((a == 18) = true) then (b d) else if ((a == 23) = true) then (Ae1 N c a (a == 23) e d f (fun i => b i) fun j => g j) else Ae1 N c a (a == 28) e d f (fun l => b l) fun m => g m
def Acy : Aoy := @Bfe @Ae1
def Axc (Acy : Aoy) (N : Nat) : Aaj Amv := fun R x K => Acy N x.1.1 x.1.2.2.1 x.1.2.2.2.1 x.2.1.1 x.2.1.2.1 x.2.1.2.2.1 (fun y0 => K .ret (Aab A9l ((y0, ()), (())))) (fun y0 => K .normal (Aab A9m ((y0, ()), (()))))
def Buz (N : Nat) : Aaj Amv := Axc @Acy N
def Amw : Aac := ⟨[Ajl, Ajk, An6, C6n], A22⟩
def A9n : Aac := ⟨Ctu, []⟩
def A9o : Aac := ⟨Ctv, []⟩
def Bu0 : Ab3 := .cons .ret A9n (.cons .normal A9o (.nil))
abbrev Cem (R : Type) := Int->Int->Bool->Int->Int->Int->(Int->Option R)->(Int->Option R)->Option R
abbrev Aoz := {R : Type} → Nat → Cem R
def Bff (Acy : Aoy) : Aoz := fun {R} N b a h d e f c g => if (h = true) then (c (wi (b + 1))) else if ((a == 3) = true) then (Acy N b a (a == 3) d e f (fun i => c i) fun j => g j) else if ((a == 6) = true) then (Acy N b a (a == 6) d e f (fun l => c l) fun m => g m) else if ((a == 9) = true) then (Acy N b a (a == 9) d e f (fun n => c n) fun o => g o) else if ((a == 16) = true) then (Acy N b a (a == 16) d e f (fun p => c p) fun q => g q) else if ((a == 14) = true) then (Acy N b a (a == 14) d e f (fun r => c r) fun s => g s) else if ((a == 21) = true) then (Acy N b a (a == 21) d e f (fun t => c t) fun u => g u) else if ((a == 22) = true) then (Acy N b a (a == 22) d e f (fun v => c v) fun w => g w) else if ((a == 29) = true) then (Acy N b a (a == 29) d e f (fun x => c x) fun y => g y) else if ((a == 25) = true) then (Acy N b a (a == 25) d e f (fun z => c z) fun A => g A) else Acy N b a (a == 27) d e f (fun B => c B) fun C => g C
def Adl : Aoz := @Bff @Acy
def Axd (Adl : Aoz) (N : Nat) : Aaj Amw := fun R x K => Adl N x.1.1 x.1.2.2.1 x.1.2.2.2.1 x.2.1.1 x.2.1.2.1 x.2.1.2.2.1 (fun y0 => K .ret (Aab A9n ((y0, ()), (())))) (fun y0 => K .normal (Aab A9o ((y0, ()), (()))))
def Bu1 (N : Nat) : Aaj Amw := Axd @Adl N
def Bpq : Aac := ⟨[Bwg, Ajl], []⟩
def A7k : Aac := ⟨Alu, []⟩
abbrev Cre (R : Type) := Int->Int->Int->Int->(Int->Option R)->Option R
abbrev Ayl := {R : Type} → Nat → Cre R
def Bpr (Adl : Aoz) : Ayl := fun {R} N a c d e b => if ((a == 1) = true) then (Adl N e a (a == 1) a c d (fun f => b f) fun g => b g) else if ((a == 2) = true) then (Adl N e a (a == 2) a c d (fun h => b h) fun i => b i) else if ((a == 4) = true) then (Adl N e a (a == 4) a c d (fun j => b j) fun l => b l) else if ((a == 5) = true) then (Adl N e a (a == 5) a c d (fun m => b m) fun n => b n) else if ((a == 7) = true) then (Adl N e a (a == 7) a c d (fun o => b o) fun p => b p) else if ((a == 8) = true) then (Adl N e a (a == 8) a c d (fun q => b q) fun r => b r) else if ((a == 10) = true) then (Adl N e a (a == 10) a c d (fun s => b s) fun t => b t) else Adl N e a (a == 11) a c d (fun u => b u) fun v => b v
def Ai5 : Ayl := @Bpr @Adl
def Dal (N : Nat) : Abg Bpq [A7k] := fun R x C => Ai5 N x.1.1.1 x.1.1.2.1 x.1.1.2.2.1 x.1.2.1 (fun y0 => C.1 ((y0, ()), (())))
def Bps (Ai5 : Ayl) (N : Nat) : Go.AX.Aai := Acb [true, true] [] false 2 0 Bpq [A7k] (fun R x C => Ai5 N x.1.1.1 x.1.1.2.1 x.1.1.2.2.1 x.1.2.1 (fun y0 => C.1 ((y0, ()), (()))))
def B4f (N : Nat) : Go.AX.Aai := Bps @Ai5 N
def Dam (N : Nat) : List (Nat × Aci) := [(60, Aaa Amu (Bux N)), (42, Aaa Amv (Buz N)), (20, Aaa Amw (Bu1 N))]
def Crf (N : Nat) : List (Nat × Go.AX.Aai) := []
def Asi : Code := Try.f101.body.getD .skip
def Ao0 : Aac := ⟨[Are, (16, .one (.val .bool))], []⟩
def A9p : Aac := ⟨Ch1, []⟩
def A9q : Aac := ⟨[], []⟩
def Bu2 : Ab3 := .cons .ret A9p (.cons .normal A9q (.nil))
abbrev Cen (R : Type) := Int->Bool->(Int->Option R)->(Option R)->Option R
abbrev Ath := {R : Type} → Nat → Cen R
def Afn : Ath := fun {R} N b c a d => if (c = true) then (a 2) else if ((b == 15) = true) then (a 3) else d
def A4k (Afn : Ath) (N : Nat) : Aaj Ao0 := fun R x K => Afn N x.1.1 x.1.2.1 (fun y0 => K .ret (Aab A9p ((y0, ()), (())))) (K .normal (Aab A9q ((()), (()))))
def Bu3 (N : Nat) : Aaj Ao0 := A4k @Afn N
def Ao1 : Aac := ⟨[Are, Cvf], []⟩
def A9r : Aac := ⟨Ch1, []⟩
def A9s : Aac := ⟨[], []⟩
def Bu4 : Ab3 := .cons .ret A9r (.cons .normal A9s (.nil))
abbrev Ceo (R : Type) := Int->Bool->(Int->Option R)->(Option R)->Option R
abbrev Aqx := {R : Type} → Nat → Ceo R
def Bfg (Afn : Ath) : Aqx := fun {R} N a d b c => if (d = true) then (b 1) else if ((a == 16) = true) then (Afn N a (a == 16) (fun e => b e) c) else if ((a == 14) = true) then (Afn N a (a == 14) (fun f => b f) c) else Afn N a (a == 13) (fun g => b g) c
def Adw : Aqx := @Bfg @Afn
def A4l (Adw : Aqx) (N : Nat) : Aaj Ao1 := fun R x K => Adw N x.1.1 x.1.2.1 (fun y0 => K .ret (Aab A9r ((y0, ()), (())))) (K .normal (Aab A9s ((()), (()))))
def Bu5 (N : Nat) : Aaj Ao1 := A4l @Adw N
def Bpt : Aac := ⟨Ct2, []⟩
def A7l : Aac := ⟨Alu, []⟩
abbrev Crg (R : Type) := Int->Int->Int->(Int->Option R)->Option R
abbrev Aym := {R : Type} → Nat → Crg R
def Bpu (Adw : Aqx) : Aym := fun {R} N a n o b => if ((a == 3) = true) then (Adw N a (a == 3) (fun c => b c) (b 0)) else if ((a == 6) = true) then (Adw N a (a == 6) (fun d => b d) (b 0)) else if ((a == 9) = true) then (Adw N a (a == 9) (fun e => b e) (b 0)) else if ((a == 12) = true) then (Adw N a (a == 12) (fun f => b f) (b 0)) else if ((a == 17) = true) then (Adw N a (a == 17) (fun g => b g) (b 0)) else if ((a == 21) = true) then (Adw N a (a == 21) (fun h => b h) (b 0)) else if ((a == 22) = true) then (Adw N a (a == 22) (fun i => b i) (b 0)) else if ((a == 29) = true) then (Adw N a (a == 29) (fun j => b j) (b 0)) else if ((a == 25) = true) then (Adw N a (a == 25) (fun l => b l) (b 0)) else Adw N a (a == 27) (fun m => b m) (b 0)
def Ahp : Aym := @Bpu @Adw
def Dan (N : Nat) : Abg Bpt [A7l] := fun R x C => Ahp N x.1.1.1 x.1.1.2.1 x.1.1.2.2.1 (fun y0 => C.1 ((y0, ()), (())))
def Bpv (Ahp : Aym) (N : Nat) : Go.AX.Aai := Acb [true] [] false 1 0 Bpt [A7l] (fun R x C => Ahp N x.1.1.1 x.1.1.2.1 x.1.1.2.2.1 (fun y0 => C.1 ((y0, ()), (()))))
def B4g (N : Nat) : Go.AX.Aai := Bpv @Ahp N
def Dao (N : Nat) : List (Nat × Aci) := [(32, Aaa Ao0 (Bu3 N)), (24, Aaa Ao1 (Bu5 N))]
def Crh (N : Nat) : List (Nat × Go.AX.Aai) := []
def A5k : Code := Try.f102.body.getD .skip
def Arr : Aac := ⟨[Ajl, Ajk, An6, C6n], A22⟩
def Bb3 : Aac := ⟨Bgf, []⟩
def Bb4 : Aac := ⟨[], []⟩
def Bxa : Ab3 := .cons .ret Bb3 (.cons .normal Bb4 (.nil))
abbrev Ciy (R : Type) := Int->Int->Bool->Int->Int->Int->(Bool->Option R)->(Option R)->Option R
abbrev Auq := {R : Type} → Nat → Ciy R
def Bh4 (Aay : Agb) : Auq := fun {R} N c d e i a j b f => if (e = true) then (Aay N a 2 (wi (c - 1)) fun g => b g) else if ((d == 4) = true) then (b (decide (a ≥ 2))) else if ((d == 23) = true) then (Aay N a 2 (wi (c - 3)) fun h => b h) else if ((d == 18) = true) then (b (decide (a ≤ (wi ((wi (c + 2000)) + 2))))) else f
def Aje : Auq := @Bh4 @Aay
def Bh5 (Aje : Auq) (N : Nat) : Aaj Arr := fun R x K => Aje N x.1.1 x.1.2.2.1 x.1.2.2.2.1 x.2.1.1 x.2.1.2.1 x.2.1.2.2.1 (fun y0 => K .ret (Aab Bb3 ((y0, ()), (())))) (K .normal (Aab Bb4 ((()), (()))))
def Bxb (N : Nat) : Aaj Arr := Bh5 @Aje N
def Bpw : Aac := ⟨[Bwg, Ajl], []⟩
def A7m : Aac := ⟨Ard, []⟩
abbrev Cri (R : Type) := Int->Int->Int->Int->(Bool->Option R)->Option R
abbrev Ayn := {R : Type} → Nat → Cri R
def Bpx (Aje : Auq) : Ayn := fun {R} N a c d e b => if ((a == 2) = true) then (Aje N e a (a == 2) a c d (fun f => b f) (b true)) else Aje N e a (a == 3) a c d (fun g => b g) (b true)
def Ahq : Ayn := @Bpx @Aje
def Dap (N : Nat) : Abg Bpw [A7m] := fun R x C => Ahq N x.1.1.1 x.1.1.2.1 x.1.1.2.2.1 x.1.2.1 (fun y0 => C.1 ((y0, ()), (())))
def Bpy (Ahq : Ayn) (N : Nat) : Go.AX.Aai := Acb [true, true] [] false 2 0 Bpw [A7m] (fun R x C => Ahq N x.1.1.1 x.1.1.2.1 x.1.1.2.2.1 x.1.2.1 (fun y0 => C.1 ((y0, ()), (()))))
def B4h (N : Nat) : Go.AX.Aai := Bpy @Ahq N
def Daq (N : Nat) : List (Nat × Aci) := [(8, Aaa Arr (Bxb N))]
def Crj (N : Nat) : List (Nat × Go.AX.Aai) := [(98, Bhw N)]
def Avh : Code := Try.f103.body.getD .skip
def Anx : Aac := ⟨B99, []⟩
def A1h : Aac := ⟨B99, []⟩
def Bxc : Ab3 := .cons (.exit 0) A1h (.nil)
abbrev Bh6 (R : Type) := d4->Int->(d4->Int->Option R)->Option R
abbrev Bxd (R : Type) := d4->Int->Option R
abbrev A7n := {R : Type} → Nat → Nat → Bh6 R
def Bh7 {R : Type} (N : Nat) (rc : Bxd R) : Bh6 R := fun b a c => if ((decide (a < (len b))) = true) then (if (0 ≤ a ∧ a < len b) then (if (((b.getD a.toNat (0, (0, 0))).1 == 19) = true) then (rc b (wi (a + 1))) else c b a) else none) else c b a
def Ahj {R : Type} (N : Nat) : Nat → Bh6 R
 | 0 => fun _ _ _ => none
 | k + 1 => fun a b c => Bh7 N (fun a b => Ahj N k a b c) a b c
def Bh8 (Ahj : A7n) (N k : Nat) : Aaj Anx := fun R x K => Ahj N k x.1.1 x.1.2.1 (fun y0 y1 => K (.exit 0) (Aab A1h ((y0, y1, ()), (()))))
def Bh9 (N k : Nat) : Aaj Anx := Bh8 @Ahj N k
def Bpz : Aac := ⟨B99, []⟩
def A7o : Aac := ⟨Ard, []⟩
abbrev Crk (R : Type) := d4->Int->(Bool->Option R)->Option R
abbrev Ayo := {R : Type} → Nat → Crk R
def Bp0 (Ahj : A7n) : Ayo := fun {R} N d e c => Ahj N N d e fun b a => if ((decide (a < (len b))) = true) then (if (0 ≤ a ∧ a < len b) then (c ((b.getD a.toNat (0, (0, 0))).1 == 28)) else none) else c false
def Agn : Ayo := @Bp0 @Ahj
def Dar (N : Nat) : Abg Bpz [A7o] := fun R x C => Agn N x.1.1 x.1.2.1 (fun y0 => C.1 ((y0, ()), (())))
def Bp1 (Agn : Ayo) (N : Nat) : Go.AX.Aai := Acb [true, true] [] false 2 0 Bpz [A7o] (fun R x C => Agn N x.1.1 x.1.2.1 (fun y0 => C.1 ((y0, ()), (()))))
def B4i (N : Nat) : Go.AX.Aai := Bp1 @Agn N
def Das (N : Nat) : List (Nat × Aci) := [(3, Aaa Anx (Bh9 N N))]
def Crl (N : Nat) : List (Nat × Go.AX.Aai) := []
def Apl : Aac := ⟨[Ajk, A5y, Asq, (6, .one (.val .bool)), Avp], [Asr, (33, .cells 111 [Asp, Asp])]⟩
def A4m : Aac := ⟨Bgf, []⟩
def A4n : Aac := ⟨[], []⟩
def B0j : Ab3 := .cons .ret A4m (.cons (.exit 0) A4n (.nil))
abbrev Bk7 (R : Type) := Int->Bool->Int->(List UInt8)->d5->d4->d1->Int->Int->d0->d0->(Bool->Option R)->(Option R)->Option R
abbrev Ati (R : Type) := Int->Bool->Int->(List UInt8)->d5->d4->d1->Int->Int->d0->d0->Option R
abbrev Bav := {R : Type} → Nat → Nat → Bk7 R
def Bk8 (Ai5 : Ayl) (Ahp : Aym) (Aay : Agb) (Ahq : Ayn) (Ab9 : Al2) (Agn : Ayo) (Abe : Ang) {R : Type} (N : Nat) (rc : Ati R) : Bk7 R := fun q o d f g b h i j c l p y => if ((decide (d < (len b))) = true) then (if (0 ≤ d ∧ d < len b) then (let a := (b.getD d.toNat (0, (0, 0))).1; let n := (b.getD d.toNat (0, (0, 0))).2.1; let m := (b.getD d.toNat (0, (0, 0))).2.2; if ((a == 24) = true) then (rc (wi (2 + m)) true (wi (d + 1)) f g b h i j c l) else Ai5 N a n m q fun e => if ((a == 18) = true) then (let x := (wi (d - 1)); if (0 ≤ x ∧ x < len b) then (Ahp N a n m fun z => if ((decide ((wi (q - z)) < 2)) = true) then (p false) else Aay N e 2 4000 fun A => if ((!A) = true) then (p false) else if ((!((b.getD x.toNat (0, (0, 0))).1 == 19)) = true) then (Ahq N a n m q fun B => if ((!B) = true) then (p false) else if ((a == 28) = true) then (if (o = true) then (p false) else Ab9 N a n m fun r => if ((decide (r > 0)) = true) then (if (0 ≤ r ∧ r < len c) then (Agn N b (c.getD r.toNat 0) fun C => if ((!(C == (a == 27))) = true) then (p false) else if ((a != 19) = true) then (Abe N a n m fun D => rc e D (wi (d + 1)) f g b h i j c l) else rc e o (wi (d + 1)) f g b h i j c l) else none) else if ((a != 19) = true) then (Abe N a n m fun E => rc e E (wi (d + 1)) f g b h i j c l) else rc e o (wi (d + 1)) f g b h i j c l) else Ab9 N a n m fun s => if ((decide (s > 0)) = true) then (if (0 ≤ s ∧ s < len c) then (Agn N b (c.getD s.toNat 0) fun F => if ((!(F == (a == 27))) = true) then (p false) else if ((a != 19) = true) then (Abe N a n m fun G => rc e G (wi (d + 1)) f g b h i j c l) else rc e o (wi (d + 1)) f g b h i j c l) else none) else if ((a != 19) = true) then (Abe N a n m fun H => rc e H (wi (d + 1)) f g b h i j c l) else rc e o (wi (d + 1)) f g b h i j c l) else if ((a == 28) = true) then (if (o = true) then (p false) else Ab9 N a n m fun t => if ((decide (t > 0)) = true) then (if (0 ≤ t ∧ t < len c) then (Agn N b (c.getD t.toNat 0) fun I => if ((!(I == (a == 27))) = true) then (p false) else if ((a != 19) = true) then (Abe N a n m fun J => rc e J (wi (d + 1)) f g b h i j c l) else rc e o (wi (d + 1)) f g b h i j c l) else none) else if ((a != 19) = true) then (Abe N a n m fun L => rc e L (wi (d + 1)) f g b h i j c l) else rc e o (wi (d + 1)) f g b h i j c l) else Ab9 N a n m fun u => if ((decide (u > 0)) = true) then (if (0 ≤ u ∧ u < len c) then (Agn N b (c.getD u.toNat 0) fun M => if ((!(M == (a == 27))) = true) then (p false) else if ((a != 19) = true) then (Abe N a n m fun O => rc e O (wi (d + 1)) f g b h i j c l) else rc e o (wi (d + 1)) f g b h i j c l) else none) else if ((a != 19) = true) then (Abe N a n m fun P => rc e P (wi (d + 1)) f g b h i j c l) else rc e o (wi (d + 1)) f g b h i j c l) else none) else Ahp N a n m fun Q => if ((decide ((wi (q - Q)) < 2)) = true) then (p false) else Aay N e 2 4000 fun S => if ((!S) = true) then (p false) else Ahq N a n m q fun T => if ((!T) = true) then (p false) else if ((a == 28) = true) then (if (o = true) then (p false) else Ab9 N a n m fun v => if ((decide (v > 0)) = true) then (if (0 ≤ v ∧ v < len c) then (Agn N b (c.getD v.toNat 0) fun U => if ((!(U == (a == 27))) = true) then (p false) else if ((a != 19) = true) then (Abe N a n m fun V => rc e V (wi (d + 1)) f g b h i j c l) else rc e o (wi (d + 1)) f g b h i j c l) else none) else if ((a != 19) = true) then (Abe N a n m fun W => rc e W (wi (d + 1)) f g b h i j c l) else rc e o (wi (d + 1)) f g b h i j c l) else Ab9 N a n m fun w => if ((decide (w > 0)) = true) then (if (0 ≤ w ∧ w < len c) then (Agn N b (c.getD w.toNat 0) fun X => if ((!(X == (a == 27))) = true) then (p false) else if ((a != 19) = true) then (Abe N a n m fun Y => rc e Y (wi (d + 1)) f g b h i j c l) else rc e o (wi (d + 1)) f g b h i j c l) else none) else if ((a != 19) = true) then (Abe N a n m fun Z => rc e Z (wi (d + 1)) f g b h i j c l) else rc e o (wi (d + 1)) f g b h i j c l) else none) else y
def Ahd {R : Type} (N : Nat) : Nat → Bk7 R
 | 0 => fun _ _ _ _ _ _ _ _ _ _ _ _ _ => none
 | k + 1 => fun a b c d e f g h i j l m n => Bk8 @Ai5 @Ahp @Aay @Ahq @Ab9 @Agn @Abe N (fun a b c d e f g h i j l => Ahd N k a b c d e f g h i j l m n) a b c d e f g h i j l m n
def Bk9 (Ahd : Bav) (N k : Nat) : Aaj Apl := fun R x K => Ahd N k x.1.2.2.1 x.1.2.2.2.1 x.1.2.2.2.2.1 x.2.1.1 x.2.1.2.1 x.2.1.2.2.1 x.2.1.2.2.2.1 x.2.1.2.2.2.2.1 x.2.1.2.2.2.2.2.1 x.2.2.1.1 x.2.2.1.2.1 (fun y0 => K .ret (Aab A4m ((y0, ()), (())))) (K (.exit 0) (Aab A4n ((()), (()))))
def Bla (N k : Nat) : Aaj Apl := Bk9 @Ahd N k
def Bu6 : Aac := ⟨[Cib, (1, .agg [Asp, Asp])], []⟩
def Baw : Aac := ⟨Ard, []⟩
abbrev Cv6 (R : Type) := (List UInt8)->d5->d4->d1->Int->Int->d0->d0->(Bool->Option R)->Option R
abbrev A2g := {R : Type} → Nat → Cv6 R
def Bu7 (Ahd : Bav) : A2g := fun {R} N b c d e f g h i a => Ahd N N 0 false 0 b c d e f g h i (fun j => a j) (a true)
def Alx : A2g := @Bu7 @Ahd
def Dbp (N : Nat) : Abg Bu6 [Baw] := fun R x C => Alx N x.1.1.1 x.1.1.2.1 x.1.1.2.2.1 x.1.1.2.2.2.1 x.1.1.2.2.2.2.1 x.1.1.2.2.2.2.2.1 x.1.2.1.1 x.1.2.1.2.1 (fun y0 => C.1 ((y0, ()), (())))
def Bu8 (Alx : A2g) (N : Nat) : Go.AX.Aai := Acb [true, true] [] false 2 0 Bu6 [Baw] (fun R x C => Alx N x.1.1.1 x.1.1.2.1 x.1.1.2.2.1 x.1.1.2.2.2.1 x.1.1.2.2.2.2.1 x.1.1.2.2.2.2.2.1 x.1.2.1.1 x.1.2.1.2.1 (fun y0 => C.1 ((y0, ()), (()))))
def B7y (N : Nat) : Go.AX.Aai := Bu8 @Alx N
def Dbq (N : Nat) : List (Nat × Aci) := [(7, Aaa Apl (Bla N N))]
def Cv7 (N : Nat) : List (Nat × Go.AX.Aai) := [(100, B4f N), (101, B4g N), (98, Bhw N), (102, B4h N), (33, Bpp N), (103, B4i N), (99, Bk3 N)]
def Bp2 : Aac := ⟨A0u, []⟩
def A7p : Aac := ⟨Alu, []⟩
abbrev Crm (R : Type) := (List UInt8)->d5->d4->d1->Int->Int->(Int->Option R)->Option R
abbrev Am5 := {R : Type} → Nat → Crm R
def Bp3 (Aib : Aum) (Akl : Ayj) (Agy : A4g) (Ajz : Ayk) (Aiq : Awe) (Alx : A2g) : Am5 := fun {R} N d e f g b c a => Aib N d e f g b c fun o => if (o = true) then (a 2) else if ((decide (b < 0)) = true) then (a 60) else if ((decide (c < 0)) = true) then (a 60) else Akl N d e f g b c fun p => if ((!p) = true) then (a 60) else Agy N N 0 d e f g b c (fun q => a q) fun h i j l m n => Ajz N h i j l m n fun r => if ((!r) = true) then (a 60) else Aiq N h i j l m n fun s t u => if ((!s) = true) then (a 60) else Alx N h i j l m n t u fun v => if ((!v) = true) then (a 61) else a 0
def Adc : Am5 := @Bp3 @Aib @Akl @Agy @Ajz @Aiq @Alx
def Dat (N : Nat) : Abg Bp2 [A7p] := fun R x C => Adc N x.1.1.1 x.1.1.2.1 x.1.1.2.2.1 x.1.1.2.2.2.1 x.1.1.2.2.2.2.1 x.1.1.2.2.2.2.2.1 (fun y0 => C.1 ((y0, ()), (())))
def Avi (Adc : Am5) (N : Nat) : Go.AX.Aai := Acb [true] [] false 1 0 Bp2 [A7p] (fun R x C => Adc N x.1.1.1 x.1.1.2.1 x.1.1.2.2.1 x.1.1.2.2.2.1 x.1.1.2.2.2.2.1 x.1.1.2.2.2.2.2.1 (fun y0 => C.1 ((y0, ()), (()))))
def Bp4 (N : Nat) : Go.AX.Aai := Avi @Adc N
def Dau (N : Nat) : List (Nat × Aci) := [(13, Aaa Amr (Be8 N N))]
def Crn (N : Nat) : List (Nat × Go.AX.Aai) := [(81, Bw2 N), (82, B4d N), (83, Bw7 N), (84, B4e N), (85, B0i N), (86, B7y N)]
def Air : Code := Try.f17.body.getD .skip
def B4j : Code := Try.f49.body.getD .skip
def Ae5 : Code := Try.f69.body.getD .skip
def Aiw : Aac := ⟨[Alh, A5y, Are, Clp, An6], C1t⟩
def A4o : Aac := ⟨[Alh, A5y, Are, Clp, An6], C1t⟩
def B0k : Ab3 := .cons (.exit 2) A4o (.nil)
abbrev Blb (R : Type) := Int->Int->(List UInt8)->d5->d4->d1->Int->Int->Int->Int->Int->d0->d0->d0->(Int->Int->(List UInt8)->d5->d4->d1->Int->Int->Int->Int->Int->d0->d0->d0->Option R)->Option R
abbrev B0l (R : Type) := Int->Int->(List UInt8)->d5->d4->d1->Int->Int->Int->Int->Int->d0->d0->d0->Option R
abbrev Apm := {R : Type} → Nat → Nat → Blb R
def Blc {R : Type} (N : Nat) (rc : B0l R) : Blb R := fun c a d e b f g h i j l m n o p => if (0 ≤ a ∧ a < len b) then (if (((b.getD a.toNat (0, (0, 0))).1 == 19) = true) then (rc c (wi (a + 1)) d e b f g h i j l m n o) else p c a d e b f g h i j l m n o) else none
def Ade {R : Type} (N : Nat) : Nat → Blb R
 | 0 => fun _ _ _ _ _ _ _ _ _ _ _ _ _ _ _ => none
 | k + 1 => fun a b c d e f g h i j l m n o p => Blc N (fun a b c d e f g h i j l m n o => Ade N k a b c d e f g h i j l m n o p) a b c d e f g h i j l m n o p
def Aq4 (Ade : Apm) (N k : Nat) : Aaj Aiw := fun R x K => Ade N k x.1.2.2.1 x.1.2.2.2.2.1 x.2.1.1 x.2.1.2.1 x.2.1.2.2.1 x.2.1.2.2.2.1 x.2.1.2.2.2.2.1 x.2.1.2.2.2.2.2.1 x.2.2.2.1.1 x.2.2.2.1.2.1 x.2.2.2.1.2.2.1 x.2.2.2.2.1 x.2.2.2.2.2.1 x.2.2.2.2.2.2.1 (fun y0 y1 y2 y3 y4 y5 y6 y7 y8 y9 y10 y11 y12 y13 => K (.exit 2) (Aab A4o (((), (), y0, (), y1, ()), ((y2, y3, y4, y5, y6, y7, ()), ((), (), (), ()), (y8, y9, y10, ()), y11, y12, y13, ()))))
def Bld (N k : Nat) : Aaj Aiw := Aq4 @Ade N k
def Aku : Aac := ⟨[Alh, A5y, Are, Avp], Cad⟩
def Bfh : Aac := ⟨C1a, Cad⟩
def B0m : Ab3 := .cons .normal Bfh (.nil)
abbrev Cmg (R : Type) := Int->Int->(List UInt8)->d5->d4->d1->Int->Int->d0->d0->d0->(Int->(List UInt8)->d5->d4->d1->Int->Int->d0->d0->d0->Option R)->Option R
abbrev Anh := {R : Type} → Nat → Cmg R
def Adf : Anh := fun {R} N c a d e f g h i b j l m => if ((((List.length b) + (List.length (a :: ([] : List Int)))) * (8 : Nat)) ≤ (70368744177664 : Nat)) then (m c d e f g h i (b ++ (a :: ([] : List Int))) j l) else none
def Aq5 (Adf : Anh) (N : Nat) : Aaj Aku := fun R x K => Adf N x.1.2.2.1 x.1.2.2.2.1 x.2.1.1 x.2.1.2.1 x.2.1.2.2.1 x.2.1.2.2.2.1 x.2.1.2.2.2.2.1 x.2.1.2.2.2.2.2.1 x.2.2.2.1 x.2.2.2.2.1 x.2.2.2.2.2.1 (fun y0 y1 y2 y3 y4 y5 y6 y7 y8 y9 => K .normal (Aab Bfh (((), (), y0, ()), ((y1, y2, y3, y4, y5, y6, ()), ((), (), (), ()), y7, y8, y9, ()))))
def B0n (N : Nat) : Aaj Aku := Aq5 @Adf N
def Akv : Aac := ⟨[Alh, A5y, Are, Clp], C1t⟩
def Bfi : Aac := ⟨C1a, Cad⟩
def B0o : Ab3 := .cons .normal Bfi (.nil)
abbrev Cmh (R : Type) := Int->(List UInt8)->d5->d4->d1->Int->Int->Int->Int->Int->d0->d0->d0->(Int->(List UInt8)->d5->d4->d1->Int->Int->d0->d0->d0->Option R)->Option R
abbrev Amd := {R : Type} → Nat → Cmh R
def Ble (Abi : Aiv) (Aaw : Aek) (Adf : Anh) : Amd := fun {R} N a b c d e f g m n X h i j l => Abi N n fun o => Aaw N m fun p => if (p = true) then (Adf N a 0 b c d e f g h i j fun q r s t u v w x y z => l q r s t u v w x y z) else if ((m == 19) = true) then (Adf N a 0 b c d e f g h i j fun A B C D E F G H I J => l A B C D E F G H I J) else Adf N a o b c d e f g h i j fun L M O P Q S T U V W => l L M O P Q S T U V W
def Adq : Amd := @Ble @Abi @Aaw @Adf
def Aq6 (Adq : Amd) (N : Nat) : Aaj Akv := fun R x K => Adq N x.1.2.2.1 x.2.1.1 x.2.1.2.1 x.2.1.2.2.1 x.2.1.2.2.2.1 x.2.1.2.2.2.2.1 x.2.1.2.2.2.2.2.1 x.2.2.2.1.1 x.2.2.2.1.2.1 x.2.2.2.1.2.2.1 x.2.2.2.2.1 x.2.2.2.2.2.1 x.2.2.2.2.2.2.1 (fun y0 y1 y2 y3 y4 y5 y6 y7 y8 y9 => K .normal (Aab Bfi (((), (), y0, ()), ((y1, y2, y3, y4, y5, y6, ()), ((), (), (), ()), y7, y8, y9, ()))))
def B0p (N : Nat) : Aaj Akv := Aq6 @Adq N
def Aj4 : Aac := ⟨C1a, Cad⟩
def A7q : Aac := ⟨[Alh, A5y], Cad⟩
def B4k : Ab3 := .cons (.exit 0) A7q (.nil)
abbrev Bp5 (R : Type) := Int->(List UInt8)->d5->d4->d1->Int->Int->d0->d0->d0->((List UInt8)->d5->d4->d1->Int->Int->d0->d0->d0->Option R)->Option R
abbrev B4l (R : Type) := Int->(List UInt8)->d5->d4->d1->Int->Int->d0->d0->d0->Option R
abbrev Aqf := {R : Type} → Nat → Nat → Bp5 R
def Bp6 (Ade : Apm) (Adq : Amd) {R : Type} (N : Nat) (rc : B4l R) : Bp5 R := fun a d e b f g h i j l q => if ((decide (a < (len b))) = true) then (if (0 ≤ a ∧ a < len b) then (let m := (b.getD a.toNat (0, (0, 0))).1; let n := (b.getD a.toNat (0, (0, 0))).2.1; let o := (b.getD a.toNat (0, (0, 0))).2.2; if ((m == 19) = true) then (Ade N N a a d e b f g h m n o i j l fun r s t u v w x y z c A B C p => if (0 ≤ c ∧ c < len p) then (Adq N r t u v w x y z c A B C (p.set c.toNat s) fun D E F G H I J L M O => rc (wi (D + 1)) E F G H I J L M O) else none) else Adq N a d e b f g h m n o i j l fun P Q S T U V W X Y Z => rc (wi (P + 1)) Q S T U V W X Y Z) else none) else q d e b f g h i j l
def Ad8 {R : Type} (N : Nat) : Nat → Bp5 R
 | 0 => fun _ _ _ _ _ _ _ _ _ _ _ => none
 | k + 1 => fun a b c d e f g h i j l => Bp6 @Ade @Adq N (fun a b c d e f g h i j => Ad8 N k a b c d e f g h i j l) a b c d e f g h i j l
def Asj (Ad8 : Aqf) (N k : Nat) : Aaj Aj4 := fun R x K => Ad8 N k x.1.2.2.1 x.2.1.1 x.2.1.2.1 x.2.1.2.2.1 x.2.1.2.2.2.1 x.2.1.2.2.2.2.1 x.2.1.2.2.2.2.2.1 x.2.2.2.1 x.2.2.2.2.1 x.2.2.2.2.2.1 (fun y0 y1 y2 y3 y4 y5 y6 y7 y8 => K (.exit 0) (Aab A7q (((), (), ()), ((y0, y1, y2, y3, y4, y5, ()), ((), (), (), ()), y6, y7, y8, ()))))
def Bp7 (N k : Nat) : Aaj Aj4 := Asj @Ad8 N k
def Aqy : Code := Try.f93.body.getD .skip
def Ala : Aac := ⟨[Bge, Byh, Are, Asq], C1n⟩
def Av1 : Aac := ⟨[Bge, Are], C1n⟩
def Bna : Ab3 := .cons (.exit 0) Av1 (.nil)
abbrev A9t (R : Type) := d4->Int->Int->d0->d0->d0->d0->(Int->d0->d0->d0->d0->Option R)->Option R
abbrev Bnb (R : Type) := d4->Int->Int->d0->d0->d0->d0->Option R
abbrev Az2 := {R : Type} → Nat → Nat → A9t R
def A9u (Abt : Aj0) (Abu : Aj1) {R : Type} (N : Nat) (rc : Bnb R) : A9t R := fun b c a d f g e i => if ((decide (a < (len b))) = true) then (if ((((List.length e) + (List.length (c :: ([] : List Int)))) * (8 : Nat)) ≤ (70368744177664 : Nat)) then (if (0 ≤ a ∧ a < len b) then (let h := (b.getD a.toNat (0, (0, 0))).1; if ((h != 19) = true) then (if (0 ≤ a ∧ a < len d) then (Abt N (d.getD a.toNat 0) fun j => if (0 ≤ a ∧ a < len b) then (Abu N h fun l => rc b (wi (c + (wi ((wi (1 + j)) + l)))) (wi (a + 1)) d f g (e ++ (c :: ([] : List Int)))) else none) else none) else rc b c (wi (a + 1)) d f g (e ++ (c :: ([] : List Int)))) else none) else none) else i c d f g e
def Aft {R : Type} (N : Nat) : Nat → A9t R
 | 0 => fun _ _ _ _ _ _ _ _ => none
 | k + 1 => fun a b c d e f g h => A9u @Abt @Abu N (fun a b c d e f g => Aft N k a b c d e f g h) a b c d e f g h
def A9v (Aft : Az2) (N k : Nat) : Aaj Ala := fun R x K => Aft N k x.1.2.1 x.1.2.2.1 x.1.2.2.2.1 x.2.2.1 x.2.2.2.1 x.2.2.2.2.1 x.2.2.2.2.2.1 (fun y0 y1 y2 y3 y4 => K (.exit 0) (Aab Av1 (((), y0, ()), (((), (), (), ()), y1, y2, y3, y4, ()))))
def A9w (N k : Nat) : Aaj Ala := A9v @Aft N k
def Bfj : Aac := ⟨[Bge, Byh], Ct6⟩
def Az3 : Aac := ⟨[], C1n⟩
abbrev Cep (R : Type) := d4->d0->d0->d0->(d0->d0->d0->d0->Option R)->Option R
abbrev Ajf := {R : Type} → Nat → Cep R
def Bfk (Aft : Az2) : Ajf := fun {R} N c d e f g => Aft N N c 0 0 d e f ([] : List Int) fun a h i j b => if ((((List.length b) + (List.length (a :: ([] : List Int)))) * (8 : Nat)) ≤ (70368744177664 : Nat)) then (g h i j (b ++ (a :: ([] : List Int)))) else none
def Abp : Ajf := @Bfk @Aft
def C6u (N : Nat) : Abg Bfj [Az3] := fun R x C => Abp N x.1.2.1 x.2.2.1 x.2.2.2.1 x.2.2.2.2.1 (fun y0 y1 y2 y3 => C.1 ((()), (((), (), (), ()), y0, y1, y2, y3, ())))
def Ao2 (Abp : Ajf) (N : Nat) : Go.AX.Aai := Acb [false, true] (List.replicate 32 true) true 2 4 Bfj [Az3] (fun R x C => Abp N x.1.2.1 x.2.2.1 x.2.2.2.1 x.2.2.2.2.1 (fun y0 y1 y2 y3 => C.1 ((()), (((), (), (), ()), y0, y1, y2, y3, ()))))
def Bu9 (N : Nat) : Go.AX.Aai := Ao2 @Abp N
def C6v (N : Nat) : List (Nat × Aci) := [(7, Aaa Ala (A9w N N))]
def Ceq (N : Nat) : List (Nat × Go.AX.Aai) := [(39, Bap N), (40, Baq N)]
def Bf0 : Code := Try.f70.body.getD .skip
def A2h : Aac := ⟨[Bge, Ajl, Bcy], Ct6⟩
def Ast : Aac := ⟨Alu, Ct6⟩
abbrev B0q (R : Type) := Int->Int->d0->d0->d0->(Int->d0->d0->d0->Option R)->Option R
abbrev Aea := {R : Type} → Nat → B0q R
def Aap : Aea := fun {R} N f b g a c h => if (0 ≤ b ∧ b < len c) then (let d := (c.getD b.toNat 0); if (0 ≤ d ∧ d < len a) then (let e := (wi (f + 1)); if (0 ≤ e ∧ e < len a) then (h (wi ((a.getD d.toNat 0) - (a.getD e.toNat 0))) g a c) else none) else none) else none
def B0r (N : Nat) : Abg A2h [Ast] := fun R x C => Aap N x.1.2.1 x.1.2.2.1 x.2.2.1 x.2.2.2.1 x.2.2.2.2.1 (fun y0 y1 y2 y3 => C.1 ((y0, ()), (((), (), (), ()), y1, y2, y3, ())))
def Af8 (Aap : Aea) (N : Nat) : Go.AX.Aai := Acb [false, true, true] (List.replicate 32 true) true 3 4 A2h [Ast] (fun R x C => Aap N x.1.2.1 x.1.2.2.1 x.2.2.1 x.2.2.2.1 x.2.2.2.2.1 (fun y0 y1 y2 y3 => C.1 ((y0, ()), (((), (), (), ()), y1, y2, y3, ()))))
def A2i (N : Nat) : Go.AX.Aai := Af8 @Aap N
def B0s (N : Nat) : List (Nat × Aci) := []
def Bf1 (N : Nat) : List (Nat × Go.AX.Aai) := []
def Aix : Aac := ⟨[Alh, A5y, Byi, Cvh, Bcz], [Asr, Ct0, Bbd, A77, Bbe, Bjz]⟩
def A4p : Aac := ⟨[Alh, A5y, Byi, Cvh], [Asr, Ct0, Bbd, A77, Bbe, Bjz]⟩
def B0t : Ab3 := .cons (.exit 6) A4p (.nil)
abbrev Blf (R : Type) := Bool->Int->(List UInt8)->d5->d4->d1->Int->Int->d0->d0->d0->d0->(Bool->(List UInt8)->d5->d4->d1->Int->Int->d0->d0->d0->d0->Option R)->Option R
abbrev B0u (R : Type) := Bool->Int->(List UInt8)->d5->d4->d1->Int->Int->d0->d0->d0->d0->Option R
abbrev Apn := {R : Type} → Nat → Nat → Blf R
def Blg (Aaw : Aek) (Aap : Aea) (Abi : Aiv) {R : Type} (N : Nat) (rc : B0u R) : Blf R := fun j a d e b f g h c l m n r => if ((decide (a < (len b))) = true) then (if (0 ≤ a ∧ a < len b) then (Aaw N ((b.getD a.toNat (0, (0, 0))).1) fun s => if ((!s) = true) then (rc j (wi (a + 1)) d e b f g h c l m n) else if (0 ≤ a ∧ a < len b) then (Aap N a ((b.getD a.toNat (0, (0, 0))).2.1) l m n fun t i o p => Abi N t fun q => if (0 ≤ a ∧ a < len i) then (if ((decide (q > (i.getD a.toNat 0))) = true) then (if (0 ≤ a ∧ a < len c) then (rc true (wi (a + 1)) d e b f g h (c.set a.toNat q) i o p) else none) else rc j (wi (a + 1)) d e b f g h c i o p) else none) else none) else none) else r j d e b f g h c l m n
def Adg {R : Type} (N : Nat) : Nat → Blf R
 | 0 => fun _ _ _ _ _ _ _ _ _ _ _ _ _ => none
 | k + 1 => fun a b c d e f g h i j l m n => Blg @Aaw @Aap @Abi N (fun a b c d e f g h i j l m => Adg N k a b c d e f g h i j l m n) a b c d e f g h i j l m n
def Aq7 (Adg : Apn) (N k : Nat) : Aaj Aix := fun R x K => Adg N k x.1.2.2.2.1 x.1.2.2.2.2.1 x.2.1.1 x.2.1.2.1 x.2.1.2.2.1 x.2.1.2.2.2.1 x.2.1.2.2.2.2.1 x.2.1.2.2.2.2.2.1 x.2.2.2.1 x.2.2.2.2.1 x.2.2.2.2.2.1 x.2.2.2.2.2.2.1 (fun y0 y1 y2 y3 y4 y5 y6 y7 y8 y9 y10 => K (.exit 6) (Aab A4p (((), (), (), y0, ()), ((y1, y2, y3, y4, y5, y6, ()), ((), (), (), ()), y7, y8, y9, y10, ()))))
def Blh (N k : Nat) : Aaj Aix := Aq7 @Adg N k
def Aiy : Aac := ⟨[Alh, A5y], Cad⟩
def A4q : Aac := ⟨[Ajk], C1l⟩
def B0v : Ab3 := .cons .ret A4q (.nil)
abbrev Bli (R : Type) := (List UInt8)->d5->d4->d1->Int->Int->d0->d0->d0->(d0->d0->d0->Option R)->Option R
abbrev B0w (R : Type) := (List UInt8)->d5->d4->d1->Int->Int->d0->d0->d0->Option R
abbrev Apo := {R : Type} → Nat → Nat → Bli R
def Blj (Adg : Apn) (Abp : Ajf) {R : Type} (N : Nat) (rc : B0w R) : Bli R := fun e f g h i j a l m n => if (((List.length a) * (8 : Nat)) ≤ (70368744177664 : Nat)) then (Adg N N false 0 e f g h i j a a l m fun o p q b r s t u v c d => if ((!o) = true) then (n v c d) else Abp N b u c d fun w z x y => rc p q b r s t w y x) else none
def Acz {R : Type} (N : Nat) : Nat → Bli R
 | 0 => fun _ _ _ _ _ _ _ _ _ _ => none
 | k + 1 => fun a b c d e f g h i j => Blj @Adg @Abp N (fun a b c d e f g h i => Acz N k a b c d e f g h i j) a b c d e f g h i j
def Aq8 (Acz : Apo) (N k : Nat) : Aaj Aiy := fun R x K => Acz N k x.2.1.1 x.2.1.2.1 x.2.1.2.2.1 x.2.1.2.2.2.1 x.2.1.2.2.2.2.1 x.2.1.2.2.2.2.2.1 x.2.2.2.1 x.2.2.2.2.1 x.2.2.2.2.2.1 (fun y0 y1 y2 => K .ret (Aab A4q (((), ()), (((), (), (), ()), y0, y1, y2, ()))))
def Blk (N k : Nat) : Aaj Aiy := Aq8 @Acz N k
def Byx : Aac := ⟨A0u, []⟩
def Bdb : Aac := ⟨[(0, .one (.ptr 32))], C1l⟩
abbrev Cyb (R : Type) := (List UInt8)->d5->d4->d1->Int->Int->(d0->d0->d0->Option R)->Option R
abbrev Bcn := {R : Type} → Nat → Cyb R
def Byy (Ad8 : Aqf) (Abp : Ajf) (Acz : Apo) : Bcn := fun {R} N d e f g h b i => let a := (wi (b + 1)); if ((0 ≤ a) ∧ ((a ≤ a) ∧ ((a * 8) ≤ 70368744177664))) then (Ad8 N N 0 d e f g h b ([] : List Int) ([] : List Int) (List.replicate (Int.toNat a) 0) fun j l c m n o p q r => Abp N c p q r fun s y t u => Acz N N j l c m n o s u t fun v w x => i v w x) else none
def Aq9 : Bcn := @Byy @Ad8 @Abp @Acz
def Dch (N : Nat) : Abg Byx [Bdb] := fun R x C => Aq9 N x.1.1.1 x.1.1.2.1 x.1.1.2.2.1 x.1.1.2.2.2.1 x.1.1.2.2.2.2.1 x.1.1.2.2.2.2.2.1 (fun y0 y1 y2 => C.1 (((), ()), (((), (), (), ()), y0, y1, y2, ())))
def Cdb (Aq9 : Bcn) (N : Nat) : Go.AX.Aai := Acb [true] [] false 1 0 Byx [Bdb] (fun R x C => Aq9 N x.1.1.1 x.1.1.2.1 x.1.1.2.2.1 x.1.1.2.2.2.1 x.1.1.2.2.2.2.1 x.1.1.2.2.2.2.2.1 (fun y0 y1 y2 => C.1 (((), ()), (((), (), (), ()), y0, y1, y2, ()))))
def Cdc (N : Nat) : Go.AX.Aai := Cdb @Aq9 N
def Dci (N : Nat) : List (Nat × Aci) := [(17, Aaa Aiw (Bld N N)), (28, Aaa Aku (B0n N)), (22, Aaa Akv (B0p N)), (7, Aaa Aj4 (Bp7 N N)), (39, Aaa Aix (Blh N N)), (33, Aaa Aiy (Blk N N))]
def Cyc (N : Nat) : List (Nat × Go.AX.Aai) := [(42, Bky N), (58, Bcm N), (93, Bu9 N), (70, A2i N)]
def Bp8 : Aac := ⟨A0u, []⟩
def A7r : Aac := ⟨[(0, .one (.same .nilptr)), Ajl], []⟩
def A7s : Aac := ⟨[(0, .one (.ptr 32)), Ajl], C1l⟩
abbrev Cro (R : Type) := (List UInt8)->d5->d4->d1->Int->Int->(Int->Option R)->(Int->d0->d0->d0->Option R)->Option R
abbrev Ask := {R : Type} → Nat → Cro R
def Bdc (Adc : Am5) (Aq9 : Bcn) : Ask := fun {R} N c f a d g h b j => Adc N c f a d g h fun i => if ((i != 0) = true) then (b i) else Aq9 N c f a d g h fun l e m => if ((0 ≤ (len a)) ∧ ((len a) < (len e))) then (if ((decide ((List.getD e (Int.toNat (len a)) 0) > 32767)) = true) then (b 2) else if ((decide ((len c) > 255)) = true) then (b 2) else if ((decide ((len d) > 255)) = true) then (b 2) else j 0 l e m) else none
def Afw : Ask := @Bdc @Adc @Aq9
def Dav (N : Nat) : Abg Bp8 [A7r, A7s] := fun R x C => Afw N x.1.1.1 x.1.1.2.1 x.1.1.2.2.1 x.1.1.2.2.2.1 x.1.1.2.2.2.2.1 x.1.1.2.2.2.2.2.1 (fun y0 => C.1 (((), y0, ()), (()))) (fun y0 y1 y2 y3 => C.2.1 (((), y0, ()), (((), (), (), ()), y1, y2, y3, ())))
def A5l (Afw : Ask) (N : Nat) : Go.AX.Aai := Acb [true] [] false 1 0 Bp8 [A7r, A7s] (fun R x C => Afw N x.1.1.1 x.1.1.2.1 x.1.1.2.2.1 x.1.1.2.2.2.1 x.1.1.2.2.2.2.1 x.1.1.2.2.2.2.2.1 (fun y0 => C.1 (((), y0, ()), (()))) (fun y0 y1 y2 y3 => C.2.1 (((), y0, ()), (((), (), (), ()), y1, y2, y3, ()))))
def B4m (N : Nat) : Go.AX.Aai := A5l @Afw N
def Daw (N : Nat) : List (Nat × Aci) := []
def Crp (N : Nat) : List (Nat × Go.AX.Aai) := [(66, Bp4 N), (69, Cdc N)]
def A0l : Code := Try.f50.body.getD .skip
def Aqg : Aac := ⟨[Ctq, Cvb, An6], Chx⟩
def A7t : Aac := ⟨[Cvb], Chx⟩
def B4n : Ab3 := .cons (.exit 0) A7t (.nil)
abbrev Bp9 (R : Type) := Int->Int->d0->(d0->Option R)->Option R
abbrev B4o (R : Type) := Int->Int->d0->Option R
abbrev Bdd := {R : Type} → Nat → Nat → Bp9 R
def Bde {R : Type} (N : Nat) (rc : B4o R) : Bp9 R := fun c a b d => if ((decide (a ≥ 0)) = true) then (if (0 ≤ a ∧ a < len b) then (rc (Ax8 .i64 c 8) (wi (a - 1)) (b.set a.toNat (IntKind.wrap .u8 c))) else none) else d b
def Ai6 {R : Type} (N : Nat) : Nat → Bp9 R
 | 0 => fun _ _ _ _ => none
 | k + 1 => fun a b c d => Bde N (fun a b c => Ai6 N k a b c d) a b c d
def Bqa (Ai6 : Bdd) (N k : Nat) : Aaj Aqg := fun R x K => Ai6 N k x.1.1 x.1.2.2.1 x.2.1 (fun y0 => K (.exit 0) (Aab A7t (((), ()), (y0, ()))))
def Bqb (N k : Nat) : Aaj Aqg := Bqa @Ai6 N k
def Byz : Aac := ⟨[Ctq, Ajl], []⟩
def Bdf : Aac := ⟨C6l, Chx⟩
abbrev Cyd (R : Type) := Int->Int->(d0->Option R)->Option R
abbrev Akn := {R : Type} → Nat → Cyd R
def By0 (Ai6 : Bdd) : Akn := fun {R} N b a c => if ((0 ≤ a) ∧ ((a ≤ a) ∧ ((a * 1) ≤ 70368744177664))) then (Ai6 N N b (wi (a - 1)) (List.replicate (Int.toNat a) 0) fun d => c d) else none
def Abj : Akn := @By0 @Ai6
def Dcj (N : Nat) : Abg Byz [Bdf] := fun R x C => Abj N x.1.1 x.1.2.1 (fun y0 => C.1 (((), ()), (y0, ())))
def Atx (Abj : Akn) (N : Nat) : Go.AX.Aai := Acb [true, true] [] false 2 0 Byz [Bdf] (fun R x C => Abj N x.1.1 x.1.2.1 (fun y0 => C.1 (((), ()), (y0, ()))))
def By1 (N : Nat) : Go.AX.Aai := Atx @Abj N
def Dck (N : Nat) : List (Nat × Aci) := [(7, Aaa Aqg (Bqb N N))]
def Cye (N : Nat) : List (Nat × Go.AX.Aai) := []
def Alb : Aac := ⟨[Alh, A76, Clq, Avp, C0m, A20], [Asr, (33, .cells 85 [(.slf 36), (.slf 37), (.slf 38)]), C0r, (35, .cells 73 [(.val .str), (.val .bool), Asp]), Bbe, Bjz, Chw]⟩
def A1i : Aac := ⟨[Alh, A76, Clq, Avp], Cif⟩
def Bxe : Ab3 := .cons (.exit 2) A1i (.nil)
abbrev Bia (R : Type) := Int->Int->(List UInt8)->d5->d4->d1->Int->Int->d0->(List UInt8)->Bool->d0->d0->d0->d0->(Int->(List UInt8)->d5->d4->d1->Int->Int->d0->d0->d0->d0->Option R)->Option R
abbrev Bxf (R : Type) := Int->Int->(List UInt8)->d5->d4->d1->Int->Int->d0->(List UInt8)->Bool->d0->d0->d0->d0->Option R
abbrev Aur := {R : Type} → Nat → Nat → Bia R
def Bib (Abj : Akn) {R : Type} (N : Nat) (rc : Bxf R) : Bia R := fun d a e f g h i j c p q b l m n r => if ((decide (a < (len b))) = true) then (if (0 ≤ a ∧ a < len b) then (Abj N (b.getD a.toNat 0) 4 fun o => if ((((List.length c) + (List.length o)) * (1 : Nat)) ≤ (70368744177664 : Nat)) then (rc d (wi (a + 1)) e f g h i j (c ++ o) p q b l m n) else none) else none) else r d e f g h i j c l m n
def Afa {R : Type} (N : Nat) : Nat → Bia R
 | 0 => fun _ _ _ _ _ _ _ _ _ _ _ _ _ _ _ _ => none
 | k + 1 => fun a b c d e f g h i j l m n o p q => Bib @Abj N (fun a b c d e f g h i j l m n o p => Afa N k a b c d e f g h i j l m n o p q) a b c d e f g h i j l m n o p q
def Az4 (Afa : Aur) (N k : Nat) : Aaj Alb := fun R x K => Afa N k x.1.2.2.2.1 x.1.2.2.2.2.2.1 x.2.1.1 x.2.1.2.1 x.2.1.2.2.1 x.2.1.2.2.2.1 x.2.1.2.2.2.2.1 x.2.1.2.2.2.2.2.1 x.2.2.2.1 x.2.2.2.2.1.1 x.2.2.2.2.1.2.1 x.2.2.2.2.1.2.2.1 x.2.2.2.2.2.1 x.2.2.2.2.2.2.1 x.2.2.2.2.2.2.2.1 (fun y0 y1 y2 y3 y4 y5 y6 y7 y8 y9 y10 => K (.exit 2) (Aab A1i (((), (), (), y0, ()), ((y1, y2, y3, y4, y5, y6, ()), ((), (), (), ()), y7, y8, y9, y10, ()))))
def Bic (N k : Nat) : Aaj Alb := Az4 @Afa N k
def Alc : Aac := ⟨[Alh, A76, Clq, Avp], Cif⟩
def A1j : Aac := ⟨[Alh, A76, Clq], Cif⟩
def Bxg : Ab3 := .cons (.exit 0) A1j (.nil)
abbrev Bid (R : Type) := Int->(List UInt8)->d5->d4->d1->Int->Int->d0->d0->d0->d0->((List UInt8)->d5->d4->d1->Int->Int->d0->d0->d0->d0->Option R)->Option R
abbrev Bxh (R : Type) := Int->(List UInt8)->d5->d4->d1->Int->Int->d0->d0->d0->d0->Option R
abbrev Aus := {R : Type} → Nat → Nat → Bid R
def Bie (Abj : Akn) (Afa : Aur) {R : Type} (N : Nat) (rc : Bxh R) : Bid R := fun a f c g h i j d l m n r => if ((decide (a < (len c))) = true) then (if (0 ≤ a ∧ a < len c) then (let e := (c.getD a.toNat (([] : List UInt8), (false, ([] : List Int)))).1; let o := (c.getD a.toNat (([] : List UInt8), (false, ([] : List Int)))).2.2; if ((c.getD a.toNat (([] : List UInt8), (false, ([] : List Int)))).2.1 = true) then (if ((((List.length d) + (List.length (0 :: ((IntKind.wrap .u8 (len e)) :: ([] : List Int))))) * (1 : Nat)) ≤ (70368744177664 : Nat)) then (let p := (d ++ (0 :: ((IntKind.wrap .u8 (len e)) :: ([] : List Int)))); if ((((List.length p) + (List.length (List.map (fun b : UInt8 => (((UInt8.toNat b) : Nat) : Int)) e))) * (1 : Nat)) ≤ (70368744177664 : Nat)) then (rc (wi (a + 1)) f c g h i j (p ++ (List.map (fun b : UInt8 => (((UInt8.toNat b) : Nat) : Int)) e)) l m n) else none) else none) else if ((((List.length d) + (1 : Nat)) * (1 : Nat)) ≤ (70368744177664 : Nat)) then (Abj N (len o) 2 fun q => if ((((List.length (d ++ [1])) + (List.length q)) * (1 : Nat)) ≤ (70368744177664 : Nat)) then (Afa N N a 0 f c g h i j ((d ++ [1]) ++ q) e ((c.getD a.toNat (([] : List UInt8), (false, ([] : List Int)))).2.1) o l m n fun s t u v w x y z A B C => rc (wi (s + 1)) t u v w x y z A B C) else none) else none) else none) else r f c g h i j d l m n
def Aeu {R : Type} (N : Nat) : Nat → Bid R
 | 0 => fun _ _ _ _ _ _ _ _ _ _ _ _ => none
 | k + 1 => fun a b c d e f g h i j l m => Bie @Abj @Afa N (fun a b c d e f g h i j l => Aeu N k a b c d e f g h i j l m) a b c d e f g h i j l m
def Az5 (Aeu : Aus) (N k : Nat) : Aaj Alc := fun R x K => Aeu N k x.1.2.2.2.1 x.2.1.1 x.2.1.2.1 x.2.1.2.2.1 x.2.1.2.2.2.1 x.2.1.2.2.2.2.1 x.2.1.2.2.2.2.2.1 x.2.2.2.1 x.2.2.2.2.1 x.2.2.2.2.2.1 x.2.2.2.2.2.2.1 (fun y0 y1 y2 y3 y4 y5 y6 y7 y8 y9 => K (.exit 0) (Aab A1j (((), (), (), ()), ((y0, y1, y2, y3, y4, y5, ()), ((), (), (), ()), y6, y7, y8, y9, ()))))
def Bif (N k : Nat) : Aaj Alc := Az5 @Aeu N k
def Ald : Aac := ⟨[Alh, A76, Clq, Bcz], Cif⟩
def A1k : Aac := ⟨[Alh, A76, Clq], Cif⟩
def Bxi : Ab3 := .cons (.exit 4) A1k (.nil)
abbrev Big (R : Type) := Int->(List UInt8)->d5->d4->d1->Int->Int->d0->d0->d0->d0->((List UInt8)->d5->d4->d1->Int->Int->d0->d0->d0->d0->Option R)->Option R
abbrev Bxj (R : Type) := Int->(List UInt8)->d5->d4->d1->Int->Int->d0->d0->d0->d0->Option R
abbrev Aut := {R : Type} → Nat → Nat → Big R
def Bih (Abj : Akn) {R : Type} (N : Nat) (rc : Bxj R) : Big R := fun a e f g b h i c j l m o => if ((decide (a < (len b))) = true) then (if (0 ≤ a ∧ a < len b) then (let d := (b.getD a.toNat (0, 0)).1; if ((((List.length c) + (List.length ((IntKind.wrap .u8 d) :: ([] : List Int)))) * (1 : Nat)) ≤ (70368744177664 : Nat)) then (if (0 ≤ a ∧ a < len b) then (Abj N ((b.getD a.toNat (0, 0)).2) 2 fun n => if ((((List.length (c ++ ((IntKind.wrap .u8 d) :: ([] : List Int)))) + (List.length n)) * (1 : Nat)) ≤ (70368744177664 : Nat)) then (rc (wi (a + 1)) e f g b h i ((c ++ ((IntKind.wrap .u8 d) :: ([] : List Int))) ++ n) j l m) else none) else none) else none) else none) else o e f g b h i c j l m
def Aev {R : Type} (N : Nat) : Nat → Big R
 | 0 => fun _ _ _ _ _ _ _ _ _ _ _ _ => none
 | k + 1 => fun a b c d e f g h i j l m => Bih @Abj N (fun a b c d e f g h i j l => Aev N k a b c d e f g h i j l m) a b c d e f g h i j l m
def Az6 (Aev : Aut) (N k : Nat) : Aaj Ald := fun R x K => Aev N k x.1.2.2.2.1 x.2.1.1 x.2.1.2.1 x.2.1.2.2.1 x.2.1.2.2.2.1 x.2.1.2.2.2.2.1 x.2.1.2.2.2.2.2.1 x.2.2.2.1 x.2.2.2.2.1 x.2.2.2.2.2.1 x.2.2.2.2.2.2.1 (fun y0 y1 y2 y3 y4 y5 y6 y7 y8 y9 => K (.exit 4) (Aab A1k (((), (), (), ()), ((y0, y1, y2, y3, y4, y5, ()), ((), (), (), ()), y6, y7, y8, y9, ()))))
def Bii (N k : Nat) : Aaj Ald := Az6 @Aev N k
def Af3 : Code := Try.f51.body.getD .skip
def Aht : Aac := ⟨[C0l, Ajk, Clo, An6, Bbb, Bgg, A20], [B98, Cd2, Cd3, Bsf, Asr, Clu, Ch7]⟩
def Av2 : Aac := ⟨C1h, C1s⟩
def Ba7 : Ab3 := .cons .normal Av2 (.nil)
abbrev Bvw (R : Type) := Int->Int->Int->d0->d0->d0->(List UInt8)->d5->d4->d1->Int->Int->d0->Int->Int->Int->(Int->d0->d0->d0->(List UInt8)->d5->d4->d1->Int->Int->d0->Option R)->Option R
abbrev Ajg := {R : Type} → Nat → Bvw R
def Aya (Abt : Aj0) (Abj : Akn) (Abu : Aj1) : Ajg := fun {R} N a i j b l m n o p q r s c f w x t => if (0 ≤ a ∧ a < len b) then (let g := (b.getD a.toNat 0); let d := (wi (f + (wi (32 * g)))); if ((((List.length c) + (List.length ((IntKind.wrap .u8 d) :: ([] : List Int)))) * (1 : Nat)) ≤ (70368744177664 : Nat)) then (if (0 ≤ a ∧ a < len b) then (Abt N g fun u => Abj N i u fun e => if ((((List.length (c ++ ((IntKind.wrap .u8 d) :: ([] : List Int)))) + (List.length e)) * (1 : Nat)) ≤ (70368744177664 : Nat)) then (Abu N f fun v => Abj N j v fun h => if ((((List.length ((c ++ ((IntKind.wrap .u8 d) :: ([] : List Int))) ++ e)) + (List.length h)) * (1 : Nat)) ≤ (70368744177664 : Nat)) then (t a b l m n o p q r s (((c ++ ((IntKind.wrap .u8 d) :: ([] : List Int))) ++ e) ++ h)) else none) else none) else none) else none) else none
def Ab5 : Ajg := @Aya @Abt @Abj @Abu
def Aps (Ab5 : Ajg) (N : Nat) : Aaj Aht := fun R x K => Ab5 N x.1.2.2.2.1 x.1.2.2.2.2.2.1 x.1.2.2.2.2.2.2.1 x.2.2.1 x.2.2.2.1 x.2.2.2.2.1 x.2.2.2.2.2.1.1 x.2.2.2.2.2.1.2.1 x.2.2.2.2.2.1.2.2.1 x.2.2.2.2.2.1.2.2.2.1 x.2.2.2.2.2.1.2.2.2.2.1 x.2.2.2.2.2.1.2.2.2.2.2.1 x.2.2.2.2.2.2.1 x.2.2.2.2.2.2.2.1.1 x.2.2.2.2.2.2.2.1.2.1 x.2.2.2.2.2.2.2.1.2.2.1 (fun y0 y1 y2 y3 y4 y5 y6 y7 y8 y9 y10 => K .normal (Aab Av2 (((), (), (), y0, ()), (((), (), (), ()), y1, y2, y3, (y4, y5, y6, y7, y8, y9, ()), y10, ()))))
def Ba8 (N : Nat) : Aaj Aht := Aps @Ab5 N
def Ahu : Aac := ⟨[C0l, Ajk, Clo, An6, Bbb, Bgg, A20], [B98, Cd2, Cd3, Bsf, Asr, Clu, Ch7]⟩
def Av3 : Aac := ⟨C1h, C1s⟩
def Ba9 : Ab3 := .cons .normal Av3 (.nil)
abbrev Bvx (R : Type) := Int->Int->Int->d0->d0->d0->(List UInt8)->d5->d4->d1->Int->Int->d0->Int->Int->Int->(Int->d0->d0->d0->(List UInt8)->d5->d4->d1->Int->Int->d0->Option R)->Option R
abbrev Ajh := {R : Type} → Nat → Bvx R
def Ayb (Aap : Aea) (Ab5 : Ajg) : Ajh := fun {R} N a d r e f g h i j l m n o b p c q => if ((b == 30) = true) then (Aap N a c e f g fun s t u v => Ab5 N a d s t u v h i j l m n o b p c fun w x y z A B C D E F G => q w x y z A B C D E F G) else Ab5 N a d r e f g h i j l m n o b p c fun H I J L M O P Q S T U => q H I J L M O P Q S T U
def Ab6 : Ajh := @Ayb @Aap @Ab5
def Apt (Ab6 : Ajh) (N : Nat) : Aaj Ahu := fun R x K => Ab6 N x.1.2.2.2.1 x.1.2.2.2.2.2.1 x.1.2.2.2.2.2.2.1 x.2.2.1 x.2.2.2.1 x.2.2.2.2.1 x.2.2.2.2.2.1.1 x.2.2.2.2.2.1.2.1 x.2.2.2.2.2.1.2.2.1 x.2.2.2.2.2.1.2.2.2.1 x.2.2.2.2.2.1.2.2.2.2.1 x.2.2.2.2.2.1.2.2.2.2.2.1 x.2.2.2.2.2.2.1 x.2.2.2.2.2.2.2.1.1 x.2.2.2.2.2.2.2.1.2.1 x.2.2.2.2.2.2.2.1.2.2.1 (fun y0 y1 y2 y3 y4 y5 y6 y7 y8 y9 y10 => K .normal (Aab Av3 (((), (), (), y0, ()), (((), (), (), ()), y1, y2, y3, (y4, y5, y6, y7, y8, y9, ()), y10, ()))))
def Bba (N : Nat) : Aaj Ahu := Apt @Ab6 N
def Ago : Aac := ⟨C1h, C1s⟩
def Ars : Aac := ⟨[Cvb], [B98, Cd2, Cd3, Bsf, B14]⟩
def Bco : Ab3 := .cons (.exit 0) Ars (.nil)
abbrev A0m (R : Type) := Int->d0->d0->d0->(List UInt8)->d5->d4->d1->Int->Int->d0->(d0->d0->d0->d0->Option R)->Option R
abbrev Bcp (R : Type) := Int->d0->d0->d0->(List UInt8)->d5->d4->d1->Int->Int->d0->Option R
abbrev Ani := {R : Type} → Nat → Nat → A0m R
def A0n (Aaw : Aek) (Aap : Aea) (Ab6 : Ajh) {R : Type} (N : Nat) (rc : Bcp R) : A0m R := fun a c d e j l b m n o f p => if ((decide (a < (len b))) = true) then (if (0 ≤ a ∧ a < len b) then (let g := (b.getD a.toNat (0, (0, 0))).1; let h := (b.getD a.toNat (0, (0, 0))).2.1; let i := (b.getD a.toNat (0, (0, 0))).2.2; if ((g == 19) = true) then (rc (wi (a + 1)) c d e j l b m n o f) else Aaw N g fun q => if (q = true) then (Aap N a h c d e fun r s t u => Ab6 N a r i s t u j l b m n o f g h i fun v w x y z A B C D E F => rc (wi (v + 1)) w x y z A B C D E F) else Ab6 N a h i c d e j l b m n o f g h i fun G H I J L M O P Q S T => rc (wi (G + 1)) H I J L M O P Q S T) else none) else p c d e f
def Aby {R : Type} (N : Nat) : Nat → A0m R
 | 0 => fun _ _ _ _ _ _ _ _ _ _ _ _ => none
 | k + 1 => fun a b c d e f g h i j l m => A0n @Aaw @Aap @Ab6 N (fun a b c d e f g h i j l => Aby N k a b c d e f g h i j l m) a b c d e f g h i j l m
def Ap9 (Aby : Ani) (N k : Nat) : Aaj Ago := fun R x K => Aby N k x.1.2.2.2.1 x.2.2.1 x.2.2.2.1 x.2.2.2.2.1 x.2.2.2.2.2.1.1 x.2.2.2.2.2.1.2.1 x.2.2.2.2.2.1.2.2.1 x.2.2.2.2.2.1.2.2.2.1 x.2.2.2.2.2.1.2.2.2.2.1 x.2.2.2.2.2.1.2.2.2.2.2.1 x.2.2.2.2.2.2.1 (fun y0 y1 y2 y3 => K (.exit 0) (Aab Ars (((), ()), (((), (), (), ()), y0, y1, y2, y3, ()))))
def A0o (N k : Nat) : Aaj Ago := Ap9 @Aby N k
def A4r : Aac := ⟨[Cib, C0l], Ct6⟩
def Aty : Aac := ⟨C6l, [B98, Cd2, Cd3, Bsf, B14]⟩
abbrev B2j (R : Type) := (List UInt8)->d5->d4->d1->Int->Int->d0->d0->d0->(d0->d0->d0->d0->Option R)->Option R
abbrev Ale := {R : Type} → Nat → B2j R
def A4s (Aby : Ani) : Ale := fun {R} N a b c d e f g h i j => Aby N N 0 g h i a b c d e f ([] : List Int) fun l m n o => j l m n o
def Acg : Ale := @A4s @Aby
def C2a (N : Nat) : Abg A4r [Aty] := fun R x C => Acg N x.1.1.1 x.1.1.2.1 x.1.1.2.2.1 x.1.1.2.2.2.1 x.1.1.2.2.2.2.1 x.1.1.2.2.2.2.2.1 x.2.2.1 x.2.2.2.1 x.2.2.2.2.1 (fun y0 y1 y2 y3 => C.1 (((), ()), (((), (), (), ()), y0, y1, y2, y3, ())))
def Art (Acg : Ale) (N : Nat) : Go.AX.Aai := Acb [true, false] (List.replicate 32 true) true 2 4 A4r [Aty] (fun R x C => Acg N x.1.1.1 x.1.1.2.1 x.1.1.2.2.1 x.1.1.2.2.2.1 x.1.1.2.2.2.2.1 x.1.1.2.2.2.2.2.1 x.2.2.1 x.2.2.2.1 x.2.2.2.2.1 (fun y0 y1 y2 y3 => C.1 (((), ()), (((), (), (), ()), y0, y1, y2, y3, ()))))
def Bij (N : Nat) : Go.AX.Aai := Art @Acg N
def C2b (N : Nat) : List (Nat × Aci) := [(24, Aaa Aht (Ba8 N)), (20, Aaa Ahu (Bba N)), (7, Aaa Ago (A0o N N))]
def B2k (N : Nat) : List (Nat × Go.AX.Aai) := [(58, Bcm N), (70, A2i N), (39, Bap N), (50, By1 N), (40, Baq N)]
def Bva : Aac := ⟨A0u, []⟩
def Bax : Aac := ⟨[Byg, Ajl], Chx⟩
abbrev Cv8 (R : Type) := (List UInt8)->d5->d4->d1->Int->Int->(Int->d0->Option R)->Option R
abbrev Aru := {R : Type} → Nat → Cv8 R
def Bvb (Afw : Ask) (Abj : Akn) (Aeu : Aus) (Aev : Aut) (Acg : Ale) (Ac6 : Amf) : Aru := fun {R} N a f i j l m g => Afw N a f i j l m (fun n => if ((n != 0) = true) then (g n ([] : List Int)) else if ((((List.length (98 :: (98 :: (1 :: ((IntKind.wrap .u8 (len a)) :: ([] : List Int)))))) + (List.length (List.map (fun b : UInt8 => (((UInt8.toNat b) : Nat) : Int)) a))) * (1 : Nat)) ≤ (70368744177664 : Nat)) then (Abj N (len f) 2 fun t => if ((((List.length (98 :: (98 :: (1 :: ((IntKind.wrap .u8 (len a)) :: (List.append ([] : List Int) (List.map (fun b : UInt8 => (((UInt8.toNat b) : Nat) : Int)) a))))))) + (List.length t)) * (1 : Nat)) ≤ (70368744177664 : Nat)) then none else none) else none) fun o u v w => if ((o != 0) = true) then (g o ([] : List Int)) else if ((((List.length (98 :: (98 :: (1 :: ((IntKind.wrap .u8 (len a)) :: ([] : List Int)))))) + (List.length (List.map (fun b : UInt8 => (((UInt8.toNat b) : Nat) : Int)) a))) * (1 : Nat)) ≤ (70368744177664 : Nat)) then (let p := (List.append ([] : List Int) (List.map (fun b : UInt8 => (((UInt8.toNat b) : Nat) : Int)) a)); Abj N (len f) 2 fun q => if ((((List.length (98 :: (98 :: (1 :: ((IntKind.wrap .u8 (len a)) :: p))))) + (List.length q)) * (1 : Nat)) ≤ (70368744177664 : Nat)) then (Aeu N N 0 a f i j l m (98 :: (98 :: (1 :: ((IntKind.wrap .u8 (len a)) :: (List.append p q))))) u v w fun x y z h A B r C D E => if ((((List.length r) + (List.length ((IntKind.wrap .u8 (len h)) :: ([] : List Int)))) * (1 : Nat)) ≤ (70368744177664 : Nat)) then (Aev N N 0 x y z h A B (r ++ ((IntKind.wrap .u8 (len h)) :: ([] : List Int))) C D E fun F G H I J L c M O P => Acg N F G H I J L M O P fun S T U d => Abj N (len d) 4 fun e => if ((((List.length c) + (List.length e)) * (1 : Nat)) ≤ (70368744177664 : Nat)) then (if ((((List.length (c ++ e)) + (List.length d)) * (1 : Nat)) ≤ (70368744177664 : Nat)) then (Ac6 N ((c ++ e) ++ d) fun Q => Abj N Q 4 fun s => if ((((List.length ((c ++ e) ++ d)) + (List.length s)) * (1 : Nat)) ≤ (70368744177664 : Nat)) then (g 0 (((c ++ e) ++ d) ++ s)) else none) else none) else none) else none) else none) else none
def Afq : Aru := @Bvb @Afw @Abj @Aeu @Aev @Acg @Ac6
def Dbr (N : Nat) : Abg Bva [Bax] := fun R x C => Afq N x.1.1.1 x.1.1.2.1 x.1.1.2.2.1 x.1.1.2.2.2.1 x.1.1.2.2.2.2.1 x.1.1.2.2.2.2.2.1 (fun y0 y1 => C.1 (((), y0, ()), (y1, ())))
def A2j (Afq : Aru) (N : Nat) : Go.AX.Aai := Acb [true] [] false 1 0 Bva [Bax] (fun R x C => Afq N x.1.1.1 x.1.1.2.1 x.1.1.2.2.1 x.1.1.2.2.2.1 x.1.1.2.2.2.2.1 x.1.1.2.2.2.2.2.1 (fun y0 y1 => C.1 (((), y0, ()), (y1, ()))))
def B7z (N : Nat) : Go.AX.Aai := A2j @Afq N
def Dbs (N : Nat) : List (Nat × Aci) := [(33, Aaa Alb (Bic N N)), (17, Aaa Alc (Bif N N)), (43, Aaa Ald (Bii N N))]
def Cv9 (N : Nat) : List (Nat × Go.AX.Aai) := [(49, B4m N), (50, By1 N), (51, Bij N), (32, Bl6 N)]
def Arv : Code := Try.f18.body.getD .skip
def Aly : Aac := ⟨[Arf, Ctx, Asq], []⟩
def Ax0 : Aac := ⟨Bgf, []⟩
def Ax1 : Aac := ⟨[], []⟩
def Bq5 : Ab3 := .cons .ret Ax0 (.cons (.exit 0) Ax1 (.nil))
abbrev Bb5 (R : Type) := d0->d0->Int->(Bool->Option R)->(Option R)->Option R
abbrev Bq6 (R : Type) := d0->d0->Int->Option R
abbrev A1l := {R : Type} → Nat → Nat → Bb5 R
def Bb6 {R : Type} (N : Nat) (rc : Bq6 R) : Bb5 R := fun b c a d e => if ((decide (a < (len b))) = true) then (if (0 ≤ a ∧ a < len b) then (if (0 ≤ a ∧ a < len c) then (if (((b.getD a.toNat 0) != (c.getD a.toNat 0)) = true) then (d false) else rc b c (wi (a + 1))) else none) else none) else e
def Agd {R : Type} (N : Nat) : Nat → Bb5 R
 | 0 => fun _ _ _ _ _ => none
 | k + 1 => fun a b c d e => Bb6 N (fun a b c => Agd N k a b c d e) a b c d e
def Bb7 (Agd : A1l) (N k : Nat) : Aaj Aly := fun R x K => Agd N k x.1.1 x.1.2.1 x.1.2.2.1 (fun y0 => K .ret (Aab Ax0 ((y0, ()), (())))) (K (.exit 0) (Aab Ax1 ((()), (()))))
def Bb8 (N k : Nat) : Aaj Aly := Bb7 @Agd N k
def Bik : Aac := ⟨[Arf, Ctx], []⟩
def A1m : Aac := ⟨Ard, []⟩
abbrev Ciz (R : Type) := d0->d0->(Bool->Option R)->Option R
abbrev Anz := {R : Type} → Nat → Ciz R
def Bil (Agd : A1l) : Anz := fun {R} N b c a => if (((len b) != (len c)) = true) then (a false) else Agd N N b c 0 (fun d => a d) (a true)
def Adx : Anz := @Bil @Agd
def C78 (N : Nat) : Abg Bik [A1m] := fun R x C => Adx N x.1.1 x.1.2.1 (fun y0 => C.1 ((y0, ()), (())))
def Auu (Adx : Anz) (N : Nat) : Go.AX.Aai := Acb [true, true] [] false 2 0 Bik [A1m] (fun R x C => Adx N x.1.1 x.1.2.1 (fun y0 => C.1 ((y0, ()), (()))))
def Bxk (N : Nat) : Go.AX.Aai := Auu @Adx N
def C79 (N : Nat) : List (Nat × Aci) := [(9, Aaa Aly (Bb8 N N))]
def Ci0 (N : Nat) : List (Nat × Go.AX.Aai) := []
def Bll : Aac := ⟨A21, []⟩
def A4t : Aac := ⟨[Cia, Ajl], Cic⟩
abbrev Cmi (R : Type) := d0->((List UInt8)->Int->Int->Int->d5->d4->d1->Option R)->Option R
abbrev Atj := {R : Type} → Nat → Cmi R
def Blm (Acp : Am3) (Ags : Aro) (Acu : Apx) (Acv : Apy) (Acf : Apz) (Ac5 : Amq) (Adc : Am5) (Afq : Aru) (Adx : Anz) : Atj := fun {R} N c a => Acp N c fun o p q d f n r s t => if ((n != 0) = true) then (a ([] : List UInt8) 0 0 n ([] : List (List UInt8 × Bool × List Int)) ([] : List (Int × Int × Int)) ([] : List (Int × Int))) else let e := (wi (d + f)); if ((0 ≤ e) ∧ (e ≤ (len c))) then (if ((0 ≤ d) ∧ (d ≤ e)) then (Ags N (List.drop (Int.toNat d) (List.take (Int.toNat e) c)) fun u v w => if ((!u) = true) then (a ([] : List UInt8) 0 0 3 ([] : List (List UInt8 × Bool × List Int)) ([] : List (Int × Int × Int)) ([] : List (Int × Int))) else let b := (wi (f + 1)); if ((0 ≤ b) ∧ ((b ≤ b) ∧ ((b * 8) ≤ 70368744177664))) then (Acu N N c f 0 ([] : List UInt8) 0 0 o p q v w (List.replicate (Int.toNat b) 0) ([] : List (List UInt8 × Bool × List Int)) ([] : List (Int × Int × Int)) ([] : List (Int × Int)) r s t fun x y z A B C D E F G H I J L M O P => Acv N N x y 0 z A B C D E F G H I J L M O P fun Q S T U V W X Y Z aa ab ac ad ae af ag ah => Acf N N Q S 0 T U V W X Y Z aa ab ac ad ae af ag ah (fun ai aj ak al am an ao => a aj ak al ai am an ao) fun ap bf bg bh aq ar au av aw ax bi bj bk ay az ba => Ac5 N aq ar au av aw ay az ba ax fun g h i j l m bl => Adc N g j l m h i fun bb => if ((bb != 0) = true) then (a ([] : List UInt8) 0 0 3 ([] : List (List UInt8 × Bool × List Int)) ([] : List (Int × Int × Int)) ([] : List (Int × Int))) else Afq N g j l m h i fun bc bd => if ((bc != 0) = true) then (a ([] : List UInt8) 0 0 3 ([] : List (List UInt8 × Bool × List Int)) ([] : List (Int × Int × Int)) ([] : List (Int × Int))) else Adx N bd ap fun be => if ((!be) = true) then (a ([] : List UInt8) 0 0 3 ([] : List (List UInt8 × Bool × List Int)) ([] : List (Int × Int × Int)) ([] : List (Int × Int))) else a g h i 0 j l m) else none) else none) else none
def Agz : Atj := @Blm @Acp @Ags @Acu @Acv @Acf @Ac5 @Adc @Afq @Adx
def C82 (N : Nat) : Abg Bll [A4t] := fun R x C => Agz N x.1.1 (fun y0 y1 y2 y3 y4 y5 y6 => C.1 (((y0, (), (), (), y1, y2, ()), y3, ()), (y4, y5, y6, ())))
def Bln (Agz : Atj) (N : Nat) : Go.AX.Aai := Acb [true] [] false 1 0 Bll [A4t] (fun R x C => Agz N x.1.1 (fun y0 y1 y2 y3 y4 y5 y6 => C.1 (((y0, (), (), (), y1, y2, ()), y3, ()), (y4, y5, y6, ()))))
def Blo (N : Nat) : Go.AX.Aai := Bln @Agz N
def C83 (N : Nat) : List (Nat × Aci) := [(19, Aaa Ah8 (Bbq N N)), (27, Aaa Ah9 (Bbt N N)), (46, Aaa Akk (Bqw N)), (35, Aaa Aia (Bbw N N))]
def Cmj (N : Nat) : List (Nat × Go.AX.Aai) := [(63, Bpd N), (64, B7s N), (58, Bcm N), (65, Buf N), (66, Bp4 N), (17, B7z N), (18, Bxk N)]
def Cdd : Code := Try.f29.body.getD .skip
def By2 : Aac := ⟨A21, []⟩
def Bdg : Aac := ⟨Ct5, []⟩
abbrev Cyf (R : Type) := d0->(Int->Int->Int->Option R)->Option R
abbrev Bcq := {R : Type} → Nat → Cyf R
def By3 (Aho : Avc) : Bcq := fun {R} N a b => Aho N a fun f g h c d e i j l => b c d e
def Asl : Bcq := @By3 @Aho
def Dcl (N : Nat) : Abg By2 [Bdg] := fun R x C => Asl N x.1.1 (fun y0 y1 y2 => C.1 ((y0, y1, y2, ()), (())))
def Cde (Asl : Bcq) (N : Nat) : Go.AX.Aai := Acb [true] [] false 1 0 By2 [Bdg] (fun R x C => Asl N x.1.1 (fun y0 y1 y2 => C.1 ((y0, y1, y2, ()), (()))))
def Cdf (N : Nat) : Go.AX.Aai := Cde @Asl N
def Dcm (N : Nat) : List (Nat × Aci) := []
def Cyg (N : Nat) : List (Nat × Go.AX.Aai) := [(62, Bo5 N)]
def B70 : Code := Try.f30.body.getD .skip
def Bvc : Aac := ⟨A21, []⟩
def Bay : Aac := ⟨Ct5, []⟩
abbrev Cwa (R : Type) := d0->(Int->Int->Int->Option R)->Option R
abbrev A9x := {R : Type} → Nat → Cwa R
def Bvd (Agz : Atj) (Acp : Am3) : A9x := fun {R} N a b => Agz N a fun f g h c i j l => if ((c != 0) = true) then (b 0 0 c) else Acp N a fun m n o d e p q r s => b d e 0
def App : A9x := @Bvd @Agz @Acp
def Dbt (N : Nat) : Abg Bvc [Bay] := fun R x C => App N x.1.1 (fun y0 y1 y2 => C.1 ((y0, y1, y2, ()), (())))
def B71 (App : A9x) (N : Nat) : Go.AX.Aai := Acb [true] [] false 1 0 Bvc [Bay] (fun R x C => App N x.1.1 (fun y0 y1 y2 => C.1 ((y0, y1, y2, ()), (()))))
def B72 (N : Nat) : Go.AX.Aai := B71 @App N
def Dbu (N : Nat) : List (Nat × Aci) := []
def Cwb (N : Nat) : List (Nat × Go.AX.Aai) := [(28, Blo N), (63, Bpd N)]
def Akw : Code := Try.f25.body.getD .skip
def Atk : Code := Try.f26.body.getD .skip
def Amx : Aac := ⟨[Ch2, Cty, Asq], []⟩
def Az7 : Aac := ⟨Bgf, []⟩
def Az8 : Aac := ⟨[], []⟩
def Bve : Ab3 := .cons .ret Az7 (.cons (.exit 0) Az8 (.nil))
abbrev Bfl (R : Type) := d0->d0->Int->(Bool->Option R)->(Option R)->Option R
abbrev Bvf (R : Type) := d0->d0->Int->Option R
abbrev A4u := {R : Type} → Nat → Nat → Bfl R
def Bfm {R : Type} (N : Nat) (rc : Bvf R) : Bfl R := fun b c a d e => if ((decide (a < (len b))) = true) then (if (0 ≤ a ∧ a < len b) then (if (0 ≤ a ∧ a < len c) then (if (((b.getD a.toNat 0) != (c.getD a.toNat 0)) = true) then (d false) else rc b c (wi (a + 1))) else none) else none) else e
def Ag0 {R : Type} (N : Nat) : Nat → Bfl R
 | 0 => fun _ _ _ _ _ => none
 | k + 1 => fun a b c d e => Bfm N (fun a b c => Ag0 N k a b c d e) a b c d e
def Bfn (Ag0 : A4u) (N k : Nat) : Aaj Amx := fun R x K => Ag0 N k x.1.1 x.1.2.1 x.1.2.2.1 (fun y0 => K .ret (Aab Az7 ((y0, ()), (())))) (K (.exit 0) (Aab Az8 ((()), (()))))
def Bfo (N k : Nat) : Aaj Amx := Bfn @Ag0 N k
def Blp : Aac := ⟨[Ch2, Cty], []⟩
def A4v : Aac := ⟨Ard, []⟩
abbrev Cmk (R : Type) := d0->d0->(Bool->Option R)->Option R
abbrev Atl := {R : Type} → Nat → Cmk R
def Blq (Ag0 : A4u) : Atl := fun {R} N b c a => if (((len b) != (len c)) = true) then (a false) else Ag0 N N b c 0 (fun d => a d) (a true)
def Ahe : Atl := @Blq @Ag0
def C84 (N : Nat) : Abg Blp [A4v] := fun R x C => Ahe N x.1.1 x.1.2.1 (fun y0 => C.1 ((y0, ()), (())))
def Baz (Ahe : Atl) (N : Nat) : Go.AX.Aai := Acb [true, true] [] false 2 0 Blp [A4v] (fun R x C => Ahe N x.1.1 x.1.2.1 (fun y0 => C.1 ((y0, ()), (()))))
def B0x (N : Nat) : Go.AX.Aai := Baz @Ahe N
def C85 (N : Nat) : List (Nat × Aci) := [(9, Aaa Amx (Bfo N N))]
def Cml (N : Nat) : List (Nat × Go.AX.Aai) := []
def Alm : Aac := ⟨[Ajk, A5y, Asq], Ct8⟩
def Az9 : Aac := ⟨Bgf, []⟩
def A0a : Aac := ⟨C01, Ct8⟩
def Bvg : Ab3 := .cons .ret Az9 (.cons (.exit 0) A0a (.nil))
abbrev Bfp (R : Type) := Int->(List UInt8)->d5->d4->d1->Int->Int->(List UInt8)->d5->d4->d1->Int->Int->(Bool->Option R)->((List UInt8)->d5->d4->d1->Int->Int->(List UInt8)->d5->d4->d1->Int->Int->Option R)->Option R
abbrev Bvh (R : Type) := Int->(List UInt8)->d5->d4->d1->Int->Int->(List UInt8)->d5->d4->d1->Int->Int->Option R
abbrev Axe := {R : Type} → Nat → Nat → Bfp R
def Bfq (Ahe : Atl) {R : Type} (N : Nat) (rc : Bvh R) : Bfp R := fun a e b f g h i j c l m n o d p => if ((decide (a < (len b))) = true) then (if (0 ≤ a ∧ a < len b) then (if (0 ≤ a ∧ a < len c) then (if ((!((b.getD a.toNat (([] : List UInt8), (false, ([] : List Int)))).1 == (c.getD a.toNat (([] : List UInt8), (false, ([] : List Int)))).1)) = true) then (d false) else if (0 ≤ a ∧ a < len b) then (if (0 ≤ a ∧ a < len c) then (if ((!((b.getD a.toNat (([] : List UInt8), (false, ([] : List Int)))).2.1 == (c.getD a.toNat (([] : List UInt8), (false, ([] : List Int)))).2.1)) = true) then (d false) else if (0 ≤ a ∧ a < len b) then (if (0 ≤ a ∧ a < len c) then (Ahe N ((b.getD a.toNat (([] : List UInt8), (false, ([] : List Int)))).2.2) ((c.getD a.toNat (([] : List UInt8), (false, ([] : List Int)))).2.2) fun q => if ((!q) = true) then (d false) else rc (wi (a + 1)) e b f g h i j c l m n o) else none) else none) else none) else none) else none) else none) else p e b f g h i j c l m n o
def Afo {R : Type} (N : Nat) : Nat → Bfp R
 | 0 => fun _ _ _ _ _ _ _ _ _ _ _ _ _ _ _ => none
 | k + 1 => fun a b c d e f g h i j l m n o p => Bfq @Ahe N (fun a b c d e f g h i j l m n => Afo N k a b c d e f g h i j l m n o p) a b c d e f g h i j l m n o p
def A4w (Afo : Axe) (N k : Nat) : Aaj Alm := fun R x K => Afo N k x.1.2.2.1 x.2.1.1 x.2.1.2.1 x.2.1.2.2.1 x.2.1.2.2.2.1 x.2.1.2.2.2.2.1 x.2.1.2.2.2.2.2.1 x.2.2.1.1 x.2.2.1.2.1 x.2.2.1.2.2.1 x.2.2.1.2.2.2.1 x.2.2.1.2.2.2.2.1 x.2.2.1.2.2.2.2.2.1 (fun y0 => K .ret (Aab Az9 ((y0, ()), (())))) (fun y0 y1 y2 y3 y4 y5 y6 y7 y8 y9 y10 y11 => K (.exit 0) (Aab A0a (((), (), ()), ((y0, y1, y2, y3, y4, y5, ()), (y6, y7, y8, y9, y10, y11, ()), ()))))
def Bfr (N k : Nat) : Aaj Alm := A4w @Afo N k
def Ako : Aac := ⟨[Ajk, A5y, An6], Ct8⟩
def Ax2 : Aac := ⟨Bgf, []⟩
def Ax3 : Aac := ⟨C01, Ct8⟩
def Bq7 : Ab3 := .cons .ret Ax2 (.cons (.exit 2) Ax3 (.nil))
abbrev Bb9 (R : Type) := Int->(List UInt8)->d5->d4->d1->Int->Int->(List UInt8)->d5->d4->d1->Int->Int->(Bool->Option R)->((List UInt8)->d5->d4->d1->Int->Int->(List UInt8)->d5->d4->d1->Int->Int->Option R)->Option R
abbrev Bq8 (R : Type) := Int->(List UInt8)->d5->d4->d1->Int->Int->(List UInt8)->d5->d4->d1->Int->Int->Option R
abbrev Avl := {R : Type} → Nat → Nat → Bb9 R
def Bca {R : Type} (N : Nat) (rc : Bq8 R) : Bb9 R := fun a d e f b g h i j l c m n o p => if ((decide (a < (len b))) = true) then (if (0 ≤ a ∧ a < len b) then (if (0 ≤ a ∧ a < len c) then (if ((!(((b.getD a.toNat (0, 0)).1 == (c.getD a.toNat (0, 0)).1) && (((b.getD a.toNat (0, 0)).2 == (c.getD a.toNat (0, 0)).2) && true))) = true) then (o false) else rc (wi (a + 1)) d e f b g h i j l c m n) else none) else none) else p d e f b g h i j l c m n
def Aet {R : Type} (N : Nat) : Nat → Bb9 R
 | 0 => fun _ _ _ _ _ _ _ _ _ _ _ _ _ _ _ => none
 | k + 1 => fun a b c d e f g h i j l m n o p => Bca N (fun a b c d e f g h i j l m n => Aet N k a b c d e f g h i j l m n o p) a b c d e f g h i j l m n o p
def A1n (Aet : Avl) (N k : Nat) : Aaj Ako := fun R x K => Aet N k x.1.2.2.1 x.2.1.1 x.2.1.2.1 x.2.1.2.2.1 x.2.1.2.2.2.1 x.2.1.2.2.2.2.1 x.2.1.2.2.2.2.2.1 x.2.2.1.1 x.2.2.1.2.1 x.2.2.1.2.2.1 x.2.2.1.2.2.2.1 x.2.2.1.2.2.2.2.1 x.2.2.1.2.2.2.2.2.1 (fun y0 => K .ret (Aab Ax2 ((y0, ()), (())))) (fun y0 y1 y2 y3 y4 y5 y6 y7 y8 y9 y10 y11 => K (.exit 2) (Aab Ax3 (((), (), ()), ((y0, y1, y2, y3, y4, y5, ()), (y6, y7, y8, y9, y10, y11, ()), ()))))
def Bcb (N k : Nat) : Aaj Ako := A1n @Aet N k
def Avj : Code := Try.f61.body.getD .skip
def An0 : Aac := ⟨[A5x, Byh, Asq], []⟩
def A1o : Aac := ⟨Bgf, []⟩
def A1p : Aac := ⟨[], []⟩
def Bxl : Ab3 := .cons .ret A1o (.cons (.exit 0) A1p (.nil))
abbrev Bim (R : Type) := d4->d4->Int->(Bool->Option R)->(Option R)->Option R
abbrev Bxm (R : Type) := d4->d4->Int->Option R
abbrev A7u := {R : Type} → Nat → Nat → Bim R
def Bin {R : Type} (N : Nat) (rc : Bxm R) : Bim R := fun b c a d e => if ((decide (a < (len b))) = true) then (if (0 ≤ a ∧ a < len b) then (if (0 ≤ a ∧ a < len c) then (if ((!(((b.getD a.toNat (0, (0, 0))).1 == (c.getD a.toNat (0, (0, 0))).1) && (((b.getD a.toNat (0, (0, 0))).2.1 == (c.getD a.toNat (0, (0, 0))).2.1) && (((b.getD a.toNat (0, (0, 0))).2.2 == (c.getD a.toNat (0, (0, 0))).2.2) && true)))) = true) then (d false) else rc b c (wi (a + 1))) else none) else none) else e
def Ahk {R : Type} (N : Nat) : Nat → Bim R
 | 0 => fun _ _ _ _ _ => none
 | k + 1 => fun a b c d e => Bin N (fun a b c => Ahk N k a b c d e) a b c d e
def Bio (Ahk : A7u) (N k : Nat) : Aaj An0 := fun R x K => Ahk N k x.1.1 x.1.2.1 x.1.2.2.1 (fun y0 => K .ret (Aab A1o ((y0, ()), (())))) (K (.exit 0) (Aab A1p ((()), (()))))
def Bip (N k : Nat) : Aaj An0 := Bio @Ahk N k
def Bqc : Aac := ⟨[A5x, Byh], []⟩
def A7v : Aac := ⟨Ard, []⟩
abbrev Crq (R : Type) := d4->d4->(Bool->Option R)->Option R
abbrev Avk := {R : Type} → Nat → Crq R
def Bqd (Ahk : A7u) : Avk := fun {R} N b c a => if (((len b) != (len c)) = true) then (a false) else Ahk N N b c 0 (fun d => a d) (a true)
def Ag9 : Avk := @Bqd @Ahk
def Dax (N : Nat) : Abg Bqc [A7v] := fun R x C => Ag9 N x.1.1 x.1.2.1 (fun y0 => C.1 ((y0, ()), (())))
def Bdh (Ag9 : Avk) (N : Nat) : Go.AX.Aai := Acb [true, true] [] false 2 0 Bqc [A7v] (fun R x C => Ag9 N x.1.1 x.1.2.1 (fun y0 => C.1 ((y0, ()), (()))))
def B4p (N : Nat) : Go.AX.Aai := Bdh @Ag9 N
def Day (N : Nat) : List (Nat × Aci) := [(9, Aaa An0 (Bip N N))]
def Crr (N : Nat) : List (Nat × Go.AX.Aai) := []
def Blr : Aac := ⟨[Cib, (1, .agg Ch9)], []⟩
def A4x : Aac := ⟨Ard, []⟩
abbrev Cmm (R : Type) := (List UInt8)->d5->d4->d1->Int->Int->(List UInt8)->d5->d4->d1->Int->Int->(Bool->Option R)->Option R
abbrev A2k := {R : Type} → Nat → Cmm R
def Bls (Afo : Axe) (Aet : Avl) (Ag9 : Avk) : A2k := fun {R} N b c m d e f g h n i j l a => if ((!(b == g)) = true) then (a false) else if ((e != j) = true) then (a false) else if ((f != l) = true) then (a false) else if (((len c) != (len h)) = true) then (a false) else if (((len d) != (len i)) = true) then (a false) else Afo N N 0 b c m d e f g h n i j l (fun o => a o) fun p q r s t u v w x y z A => Aet N N 0 p q r s t u v w x y z A (fun B => a B) fun F G C H I J L M D O P Q => Ag9 N C D fun E => a E
def Alf : A2k := @Bls @Afo @Aet @Ag9
def C86 (N : Nat) : Abg Blr [A4x] := fun R x C => Alf N x.1.1.1 x.1.1.2.1 x.1.1.2.2.1 x.1.1.2.2.2.1 x.1.1.2.2.2.2.1 x.1.1.2.2.2.2.2.1 x.1.2.1.1 x.1.2.1.2.1 x.1.2.1.2.2.1 x.1.2.1.2.2.2.1 x.1.2.1.2.2.2.2.1 x.1.2.1.2.2.2.2.2.1 (fun y0 => C.1 ((y0, ()), (())))
def B0y (Alf : A2k) (N : Nat) : Go.AX.Aai := Acb [true, true] [] false 2 0 Blr [A4x] (fun R x C => Alf N x.1.1.1 x.1.1.2.1 x.1.1.2.2.1 x.1.1.2.2.2.1 x.1.1.2.2.2.2.1 x.1.1.2.2.2.2.2.1 x.1.2.1.1 x.1.2.1.2.1 x.1.2.1.2.2.1 x.1.2.1.2.2.2.1 x.1.2.1.2.2.2.2.1 x.1.2.1.2.2.2.2.2.1 (fun y0 => C.1 ((y0, ()), (()))))
def B0z (N : Nat) : Go.AX.Aai := B0y @Alf N
def C87 (N : Nat) : List (Nat × Aci) := [(9, Aaa Alm (Bfr N N)), (19, Aaa Ako (Bcb N N))]
def Cmn (N : Nat) : List (Nat × Go.AX.Aai) := [(26, B0x N), (61, B4p N)]
def Bcc : Aac := ⟨A21, []⟩
def Ax4 : Aac := ⟨Ard, []⟩
abbrev Cas (R : Type) := d0->(Bool->Option R)->Option R
abbrev Bcd := {R : Type} → Nat → Cas R
def Bce (Am8 : A43) (Ao8 : A5h) (Agz : Atj) (Asl : Bcq) (App : A9x) (Alf : A2k) (Aeb : Apb) (Ac6 : Amf) : Bcd := fun {R} N b a => if ((decide ((len b) > 200000)) = true) then (Am8 N fun c => a c) else Ao8 N b fun d e f g h i j => Agz N b fun l m n o p q r => Asl N b fun s t u => App N b fun v w x => Alf N d h i j e f l p q r m n fun y => if (y = true) then (if ((g == o) = true) then (if ((s == v) = true) then (if ((t == w) = true) then (if ((u == x) = true) then (Aeb N b fun z => Ac6 N b fun A => if ((z == A) = true) then (Am8 N fun B => a B) else a false) else a false) else a false) else a false) else a false) else a false
def Auv : Bcd := @Bce @Am8 @Ao8 @Agz @Asl @App @Alf @Aeb @Ac6
def C5u (N : Nat) : Abg Bcc [Ax4] := fun R x C => Auv N x.1.1 (fun y0 => C.1 ((y0, ()), (())))
def Cat (Auv : Bcd) (N : Nat) : Go.AX.Aai := Acb [true] [] false 1 0 Bcc [Ax4] (fun R x C => Auv N x.1.1 (fun y0 => C.1 ((y0, ()), (()))))
def Bq9 (N : Nat) : Go.AX.Aai := Cat @Auv N
def C5v (N : Nat) : List (Nat × Aci) := []
def Cau (N : Nat) : List (Nat × Go.AX.Aai) := [(14, B3e N), (27, B37 N), (28, Blo N), (29, Cdf N), (30, B72 N), (25, B0z N), (31, Brn N), (32, Bl6 N)]
end
end Q

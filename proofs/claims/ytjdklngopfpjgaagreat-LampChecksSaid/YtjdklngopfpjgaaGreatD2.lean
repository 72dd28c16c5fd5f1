/- Part D2 of the proof. -/
import Derived.Test.YtjdklngopfpjgaaGreatD1
open Go Go.AX Go.Proofs
namespace Q
noncomputable section
set_option maxRecDepth 100000
set_option linter.unusedVariables false
def Azt (Aa9 : Ahs) {R : Type} (N : Nat) (rc : Ba5 R) : Azs R := fun a i j d l m n g h c b o p => if ((decide (a < (len d))) = true) then (if (0 ≤ a ∧ a < len d) then (Aa9 N ((d.getD a.toNat (0, (0, 0))).1) ((d.getD a.toNat (0, (0, 0))).2.1) ((d.getD a.toNat (0, (0, 0))).2.2) fun e => if ((decide (e > 0)) = true) then (if (0 ≤ e ∧ e < len c) then (let f := (c.getD e.toNat 0); if ((decide (f < 0)) = true) then (o false c b) else if (0 ≤ e ∧ e < len c) then (if (0 ≤ f ∧ f < len b) then (if (0 ≤ a ∧ a < len b) then (if (((b.getD f.toNat 0) != (b.getD a.toNat 0)) = true) then (o false c b) else rc (wi (a + 1)) i j d l m n g h c b) else none) else none) else none) else none) else rc (wi (a + 1)) i j d l m n g h c b) else none) else p g h c b
def Abi {R : Type} (N : Nat) : Nat → Azs R
 | 0 => fun _ _ _ _ _ _ _ _ _ _ _ _ _ => none
 | k + 1 => fun a b c d e f g h i j l m n => Azt @Aa9 N (fun a b c d e f g h i j l => Abi N k a b c d e f g h i j l m n) a b c d e f g h i j l m n
def Alr (Abi : Akb) (N k : Nat) : Aar Ae7 := fun R x K => Abi N k x.1.2.2.2.1 x.2.1.1 x.2.1.2.1 x.2.1.2.2.1 x.2.1.2.2.2.1 x.2.1.2.2.2.2.1 x.2.1.2.2.2.2.2.1 x.2.2.2.2.1 x.2.2.2.2.2.1 x.2.2.2.2.2.2.1 x.2.2.2.2.2.2.2.1 (fun y0 y1 y2 => K .ret (Aab Apg (((), y0, ()), (((), (), ()), y1, y2, ())))) (fun y0 y1 y2 y3 => K (.exit 4) (Aab Aph (((), (), ()), (((), (), ()), ((), (), ()), y0, y1, y2, y3, ()))))
def Azu (N k : Nat) : Aar Ae7 := Alr @Abi N k
def A6e : Aac := ⟨A21, []⟩
def At8 : Aac := ⟨[(0, .agg [(.slf 32), (.slf 33)]), (1, .one (.val .bool))], B9e⟩
abbrev B0y (R : Type) := (List UInt8)->d3->d2->d1->Int->Int->(Bool->d0->d0->Option R)->Option R
abbrev Aoo := {R : Type} → Nat → B0y R
def A6f (Ab5 : Akr) (Abn : Aka) (Abi : Akb) : Aoo := fun {R} N e f a g h d c => let b := (wi (d + 1)); if ((0 ≤ b) ∧ ((b ≤ b) ∧ ((b * 8) ≤ 70368744177664))) then (if ((0 ≤ (len a)) ∧ (((len a) ≤ (len a)) ∧ (((len a) * 8) ≤ 70368744177664))) then (Ab5 N N 0 e f a g h d ([] : List Int) ([] : List Int) (List.replicate (Int.toNat b) 0) (List.replicate (Int.toNat (len a)) 0) fun i j l m n o p q r s => Abn N N 0 0 i j l m n o p q r s (fun t u v => c t u v) fun w x y z A B C D E F => Abi N N 0 w x y z A B C D E F (fun G H I => c G H I) fun M O J L => c true J L) else none) else none
def Afl : Aoo := @A6f @Ab5 @Abn @Abi
def Ckc (N : Nat) : Abv A6e [At8] := fun R x C => Afl N x.1.1.1 x.1.1.2.1 x.1.1.2.2.1 x.1.1.2.2.2.1 x.1.1.2.2.2.2.1 x.1.1.2.2.2.2.2.1 (fun y0 y1 y2 => C.1 ((((), (), ()), y0, ()), (y1, y2, ())))
def A6g (Afl : Aoo) (N : Nat) : Go.AX.Aaj := Acw [true] [] false 1 0 A6e [At8] (fun R x C => Afl N x.1.1.1 x.1.1.2.1 x.1.1.2.2.1 x.1.1.2.2.2.1 x.1.1.2.2.2.2.1 x.1.1.2.2.2.2.2.1 (fun y0 y1 y2 => C.1 ((((), (), ()), y0, ()), (y1, y2, ()))))
def Bi8 (N : Nat) : Go.AX.Aaj := A6g @Afl N
def Ckd (N : Nat) : List (Nat × Acs) := [(7, Aaa Af0 (A11 N N)), (24, Aaa Agy (Ba1 N)), (17, Aaa Ae6 (Azr N N)), (37, Aaa Ae7 (Azu N N))]
def B0z (N : Nat) : List (Nat × Go.AX.Aaj) := [(210, A91 N)]
def Ao3 : Code := Tryz.f141.body.getD .skip
def Aip : Code := Tryz.f211.body.getD .skip
def Aid : Aac := ⟨[Alz, A0p, A8t, (43, .one (.val .bool))], A8w⟩
def Axz : Aac := ⟨Cds, []⟩
def Ax0 : Aac := ⟨Cdt, []⟩
def Bd6 : Ac7 := .cons .ret Axz (.cons .normal Ax0 (.nil))
abbrev Btg (R : Type) := Int->Int->Bool->Int->Int->Int->(Int->Option R)->(Int->Option R)->Option R
abbrev Akt := {R : Type} → Nat → Btg R
def Ac3 : Akt := fun {R} N b c d h e f a g => if (d = true) then (a (wi (e + 1))) else if ((c == 24) = true) then (a (wi (2 + f))) else g b
def Ao4 (Ac3 : Akt) (N : Nat) : Aar Aid := fun R x K => Ac3 N x.1.1 x.1.2.2.1 x.1.2.2.2.1 x.2.1.1 x.2.1.2.1 x.2.1.2.2.1 (fun y0 => K .ret (Aab Axz ((y0, ()), (())))) (fun y0 => K .normal (Aab Ax0 ((y0, ()), (()))))
def Bd7 (N : Nat) : Aar Aid := Ao4 @Ac3 N
def Aie : Aac := ⟨[Alz, A0p, A8t, (18, .one (.val .bool))], A8w⟩
def Ax1 : Aac := ⟨Cds, []⟩
def Ax2 : Aac := ⟨Cdt, []⟩
def Bd8 : Ac7 := .cons .ret Ax1 (.cons .normal Ax2 (.nil))
abbrev Bth (R : Type) := Int->Int->Bool->Int->Int->Int->(Int->Option R)->(Int->Option R)->Option R
abbrev Ajq := {R : Type} → Nat → Bth R
def A13 (Ac3 : Akt) : Ajq := fun {R} N c a h e d f b g => if (h = true) then (b (wi (c - 1))) else if ((a == 13) = true) then (b (wi (c - 2))) else if ((a == 15) = true) then (b (wi (c - 3))) else if ((a == 18) = true) then (b d) else if ((a == 23) = true) then (Ac3 N c a (a == 23) e d f (fun i => b i) fun j => g j) else Ac3 N c a (a == 28) e d f (fun l => b l) fun m => g m
def Abo : Ajq := @A13 @Ac3
def Ao5 (Abo : Ajq) (N : Nat) : Aar Aie := fun R x K => Abo N x.1.1 x.1.2.2.1 x.1.2.2.2.1 x.2.1.1 x.2.1.2.1 x.2.1.2.2.1 (fun y0 => K .ret (Aab Ax1 ((y0, ()), (())))) (fun y0 => K .normal (Aab Ax2 ((y0, ()), (()))))
def Bd9 (N : Nat) : Aar Aie := Ao5 @Abo N
def Aif : Aac := ⟨[Alz, A0p, A8t, Cdj], A8w⟩
def Ax3 : Aac := ⟨Cds, []⟩
def Ax4 : Aac := ⟨Cdt, []⟩
def Bea : Ac7 := .cons .ret Ax3 (.cons .normal Ax4 (.nil))
abbrev Bti (R : Type) := Int->Int->Bool->Int->Int->Int->(Int->Option R)->(Int->Option R)->Option R
abbrev Ajr := {R : Type} → Nat → Bti R
def A14 (Abo : Ajq) : Ajr := fun {R} N b a h d e f c g => if (h = true) then (c (wi (b + 1))) else if ((a == 3) = true) then (Abo N b a (a == 3) d e f (fun i => c i) fun j => g j) else if ((a == 6) = true) then (Abo N b a (a == 6) d e f (fun l => c l) fun m => g m) else if ((a == 9) = true) then (Abo N b a (a == 9) d e f (fun n => c n) fun o => g o) else if ((a == 16) = true) then (Abo N b a (a == 16) d e f (fun p => c p) fun q => g q) else if ((a == 14) = true) then (Abo N b a (a == 14) d e f (fun r => c r) fun s => g s) else if ((a == 21) = true) then (Abo N b a (a == 21) d e f (fun t => c t) fun u => g u) else if ((a == 22) = true) then (Abo N b a (a == 22) d e f (fun v => c v) fun w => g w) else if ((a == 29) = true) then (Abo N b a (a == 29) d e f (fun x => c x) fun y => g y) else if ((a == 25) = true) then (Abo N b a (a == 25) d e f (fun z => c z) fun A => g A) else Abo N b a (a == 27) d e f (fun B => c B) fun C => g C
def Ab6 : Ajr := @A14 @Abo
def Ao6 (Ab6 : Ajr) (N : Nat) : Aar Aif := fun R x K => Ab6 N x.1.1 x.1.2.2.1 x.1.2.2.2.1 x.2.1.1 x.2.1.2.1 x.2.1.2.2.1 (fun y0 => K .ret (Aab Ax3 ((y0, ()), (())))) (fun y0 => K .normal (Aab Ax4 ((y0, ()), (()))))
def Beb (N : Nat) : Aar Aif := Ao6 @Ab6 N
def A92 : Aac := ⟨[Bz0, Alz], []⟩
def Awg : Aac := ⟨Azi, []⟩
abbrev B5b (R : Type) := Int->Int->Int->Int->(Int->Option R)->Option R
abbrev Apo := {R : Type} → Nat → B5b R
def A93 (Ab6 : Ajr) : Apo := fun {R} N a c d e b => if ((a == 1) = true) then (Ab6 N e a (a == 1) a c d (fun f => b f) fun g => b g) else if ((a == 2) = true) then (Ab6 N e a (a == 2) a c d (fun h => b h) fun i => b i) else if ((a == 4) = true) then (Ab6 N e a (a == 4) a c d (fun j => b j) fun l => b l) else if ((a == 5) = true) then (Ab6 N e a (a == 5) a c d (fun m => b m) fun n => b n) else if ((a == 7) = true) then (Ab6 N e a (a == 7) a c d (fun o => b o) fun p => b p) else if ((a == 8) = true) then (Ab6 N e a (a == 8) a c d (fun q => b q) fun r => b r) else if ((a == 10) = true) then (Ab6 N e a (a == 10) a c d (fun s => b s) fun t => b t) else Ab6 N e a (a == 11) a c d (fun u => b u) fun v => b v
def Afr : Apo := @A93 @Ab6
def Cld (N : Nat) : Abv A92 [Awg] := fun R x C => Afr N x.1.1.1 x.1.1.2.1 x.1.1.2.2.1 x.1.2.1 (fun y0 => C.1 ((y0, ()), (())))
def A94 (Afr : Apo) (N : Nat) : Go.AX.Aaj := Acw [true, true] [] false 2 0 A92 [Awg] (fun R x C => Afr N x.1.1.1 x.1.1.2.1 x.1.1.2.2.1 x.1.2.1 (fun y0 => C.1 ((y0, ()), (()))))
def Bln (N : Nat) : Go.AX.Aaj := A94 @Afr N
def Cle (N : Nat) : List (Nat × Acs) := [(60, Aaa Aid (Bd7 N)), (42, Aaa Aie (Bd9 N)), (20, Aaa Aif (Beb N))]
def B5c (N : Nat) : List (Nat × Go.AX.Aaj) := []
def Alw : Code := Tryz.f212.body.getD .skip
def Ajs : Aac := ⟨[Azh, (16, .one (.val .bool))], []⟩
def Ax5 : Aac := ⟨A8u, []⟩
def Ax6 : Aac := ⟨[], []⟩
def Bec : Ac7 := .cons .ret Ax5 (.cons .normal Ax6 (.nil))
abbrev Btj (R : Type) := Int->Bool->(Int->Option R)->(Option R)->Option R
abbrev Amm := {R : Type} → Nat → Btj R
def Adf : Amm := fun {R} N b c a d => if (c = true) then (a 2) else if ((b == 15) = true) then (a 3) else d
def At9 (Adf : Amm) (N : Nat) : Aar Ajs := fun R x K => Adf N x.1.1 x.1.2.1 (fun y0 => K .ret (Aab Ax5 ((y0, ()), (())))) (K .normal (Aab Ax6 ((()), (()))))
def Bed (N : Nat) : Aar Ajs := At9 @Adf N
def Ajt : Aac := ⟨[Azh, Chx], []⟩
def Ax7 : Aac := ⟨A8u, []⟩
def Ax8 : Aac := ⟨[], []⟩
def Bee : Ac7 := .cons .ret Ax7 (.cons .normal Ax8 (.nil))
abbrev Btk (R : Type) := Int->Bool->(Int->Option R)->(Option R)->Option R
abbrev Aku := {R : Type} → Nat → Btk R
def A15 (Adf : Amm) : Aku := fun {R} N a d b c => if (d = true) then (b 1) else if ((a == 16) = true) then (Adf N a (a == 16) (fun e => b e) c) else if ((a == 14) = true) then (Adf N a (a == 14) (fun f => b f) c) else Adf N a (a == 13) (fun g => b g) c
def Aca : Aku := @A15 @Adf
def Aua (Aca : Aku) (N : Nat) : Aar Ajt := fun R x K => Aca N x.1.1 x.1.2.1 (fun y0 => K .ret (Aab Ax7 ((y0, ()), (())))) (K .normal (Aab Ax8 ((()), (()))))
def Bef (N : Nat) : Aar Ajt := Aua @Aca N
def A95 : Aac := ⟨Cdw, []⟩
def Awh : Aac := ⟨Azi, []⟩
abbrev B5d (R : Type) := Int->Int->Int->(Int->Option R)->Option R
abbrev App := {R : Type} → Nat → B5d R
def A96 (Aca : Aku) : App := fun {R} N a n o b => if ((a == 3) = true) then (Aca N a (a == 3) (fun c => b c) (b 0)) else if ((a == 6) = true) then (Aca N a (a == 6) (fun d => b d) (b 0)) else if ((a == 9) = true) then (Aca N a (a == 9) (fun e => b e) (b 0)) else if ((a == 12) = true) then (Aca N a (a == 12) (fun f => b f) (b 0)) else if ((a == 17) = true) then (Aca N a (a == 17) (fun g => b g) (b 0)) else if ((a == 21) = true) then (Aca N a (a == 21) (fun h => b h) (b 0)) else if ((a == 22) = true) then (Aca N a (a == 22) (fun i => b i) (b 0)) else if ((a == 29) = true) then (Aca N a (a == 29) (fun j => b j) (b 0)) else if ((a == 25) = true) then (Aca N a (a == 25) (fun l => b l) (b 0)) else Aca N a (a == 27) (fun m => b m) (b 0)
def Aeu : App := @A96 @Aca
def Clf (N : Nat) : Abv A95 [Awh] := fun R x C => Aeu N x.1.1.1 x.1.1.2.1 x.1.1.2.2.1 (fun y0 => C.1 ((y0, ()), (())))
def A97 (Aeu : App) (N : Nat) : Go.AX.Aaj := Acw [true] [] false 1 0 A95 [Awh] (fun R x C => Aeu N x.1.1.1 x.1.1.2.1 x.1.1.2.2.1 (fun y0 => C.1 ((y0, ()), (()))))
def Blo (N : Nat) : Go.AX.Aaj := A97 @Aeu N
def Clg (N : Nat) : List (Nat × Acs) := [(32, Aaa Ajs (Bed N)), (24, Aaa Ajt (Bef N))]
def B5e (N : Nat) : List (Nat × Go.AX.Aaj) := []
def Auz : Code := Tryz.f213.body.getD .skip
def Alo : Aac := ⟨[Alz, A0p, A8t, Cdj], A8w⟩
def Azv : Aac := ⟨A5j, []⟩
def Azw : Aac := ⟨[], []⟩
def Bgi : Ac7 := .cons .ret Azv (.cons .normal Azw (.nil))
abbrev Bxl (R : Type) := Int->Int->Bool->Int->Int->Int->(Bool->Option R)->(Option R)->Option R
abbrev Anh := {R : Type} → Nat → Bxl R
def A4j (Aal : Adw) : Anh := fun {R} N c d e i a j b f => if (e = true) then (Aal N a 2 (wi (c - 1)) fun g => b g) else if ((d == 4) = true) then (b (decide (a ≥ 2))) else if ((d == 23) = true) then (Aal N a 2 (wi (c - 3)) fun h => b h) else if ((d == 18) = true) then (b (decide (a ≤ (wi ((wi (c + 2000)) + 2))))) else f
def Af1 : Anh := @A4j @Aal
def A4k (Af1 : Anh) (N : Nat) : Aar Alo := fun R x K => Af1 N x.1.1 x.1.2.2.1 x.1.2.2.2.1 x.2.1.1 x.2.1.2.1 x.2.1.2.2.1 (fun y0 => K .ret (Aab Azv ((y0, ()), (())))) (K .normal (Aab Azw ((()), (()))))
def Bgj (N : Nat) : Aar Alo := A4k @Af1 N
def A98 : Aac := ⟨[Bz0, Alz], []⟩
def Awi : Aac := ⟨Ahl, []⟩
abbrev B5f (R : Type) := Int->Int->Int->Int->(Bool->Option R)->Option R
abbrev Apq := {R : Type} → Nat → B5f R
def A99 (Af1 : Anh) : Apq := fun {R} N a c d e b => if ((a == 2) = true) then (Af1 N e a (a == 2) a c d (fun f => b f) (b true)) else Af1 N e a (a == 3) a c d (fun g => b g) (b true)
def Aev : Apq := @A99 @Af1
def Clh (N : Nat) : Abv A98 [Awi] := fun R x C => Aev N x.1.1.1 x.1.1.2.1 x.1.1.2.2.1 x.1.2.1 (fun y0 => C.1 ((y0, ()), (())))
def Baa (Aev : Apq) (N : Nat) : Go.AX.Aaj := Acw [true, true] [] false 2 0 A98 [Awi] (fun R x C => Aev N x.1.1.1 x.1.1.2.1 x.1.1.2.2.1 x.1.2.1 (fun y0 => C.1 ((y0, ()), (()))))
def Blp (N : Nat) : Go.AX.Aaj := Baa @Aev N
def Cli (N : Nat) : List (Nat × Acs) := [(8, Aaa Alo (Bgj N))]
def B5g (N : Nat) : List (Nat × Go.AX.Aaj) := [(208, A4b N)]
def Anw : Code := Tryz.f214.body.getD .skip
def Ai7 : Aac := ⟨Bzy, []⟩
def Ar7 : Aac := ⟨Bzy, []⟩
def Bgk : Ac7 := .cons (.exit 0) Ar7 (.nil)
abbrev A4l (R : Type) := d2->Int->(d2->Int->Option R)->Option R
abbrev Bgl (R : Type) := d2->Int->Option R
abbrev Awj := {R : Type} → Nat → Nat → A4l R
def A4m {R : Type} (N : Nat) (rc : Bgl R) : A4l R := fun b a c => if ((decide (a < (len b))) = true) then (if (0 ≤ a ∧ a < len b) then (if (((b.getD a.toNat (0, (0, 0))).1 == 19) = true) then (rc b (wi (a + 1))) else c b a) else none) else c b a
def Aeq {R : Type} (N : Nat) : Nat → A4l R
 | 0 => fun _ _ _ => none
 | k + 1 => fun a b c => A4m N (fun a b => Aeq N k a b c) a b c
def A4n (Aeq : Awj) (N k : Nat) : Aar Ai7 := fun R x K => Aeq N k x.1.1 x.1.2.1 (fun y0 y1 => K (.exit 0) (Aab Ar7 ((y0, y1, ()), (()))))
def A4o (N k : Nat) : Aar Ai7 := A4n @Aeq N k
def Bab : Aac := ⟨Bzy, []⟩
def Awk : Aac := ⟨Ahl, []⟩
abbrev B5h (R : Type) := d2->Int->(Bool->Option R)->Option R
abbrev Apr := {R : Type} → Nat → B5h R
def Bac (Aeq : Awj) : Apr := fun {R} N d e c => Aeq N N d e fun b a => if ((decide (a < (len b))) = true) then (if (0 ≤ a ∧ a < len b) then (c ((b.getD a.toNat (0, (0, 0))).1 == 28)) else none) else c false
def Ad7 : Apr := @Bac @Aeq
def Clj (N : Nat) : Abv Bab [Awk] := fun R x C => Ad7 N x.1.1 x.1.2.1 (fun y0 => C.1 ((y0, ()), (())))
def Bad (Ad7 : Apr) (N : Nat) : Go.AX.Aaj := Acw [true, true] [] false 2 0 Bab [Awk] (fun R x C => Ad7 N x.1.1 x.1.2.1 (fun y0 => C.1 ((y0, ()), (()))))
def Blq (N : Nat) : Go.AX.Aaj := Bad @Ad7 N
def Clk (N : Nat) : List (Nat × Acs) := [(3, Aaa Ai7 (A4o N N))]
def B5i (N : Nat) : List (Nat × Go.AX.Aaj) := []
def Aj6 : Aac := ⟨[A0p, Bha, A8s, Chw, Bkn], [A22, (33, .cells 177 [Bzx, Bzx])]⟩
def Aub : Aac := ⟨A5j, []⟩
def Auc : Aac := ⟨[], []⟩
def Bi9 : Ac7 := .cons .ret Aub (.cons (.exit 0) Auc (.nil))
abbrev A6h (R : Type) := Int->Bool->Int->(List UInt8)->d3->d2->d1->Int->Int->d0->d0->(Bool->Option R)->(Option R)->Option R
abbrev Amn (R : Type) := Int->Bool->Int->(List UInt8)->d3->d2->d1->Int->Int->d0->d0->Option R
abbrev Azb := {R : Type} → Nat → Nat → A6h R
def A6i (Afr : Apo) (Aeu : App) (Aal : Adw) (Aev : Apq) (Aa9 : Ahs) (Ad7 : Apr) (Aaw : Aiw) {R : Type} (N : Nat) (rc : Amn R) : A6h R := fun q o d f g b h i j c l p y => if ((decide (d < (len b))) = true) then (if (0 ≤ d ∧ d < len b) then (let a := (b.getD d.toNat (0, (0, 0))).1; let n := (b.getD d.toNat (0, (0, 0))).2.1; let m := (b.getD d.toNat (0, (0, 0))).2.2; if ((a == 24) = true) then (rc (wi (2 + m)) true (wi (d + 1)) f g b h i j c l) else Afr N a n m q fun e => if ((a == 18) = true) then (let x := (wi (d - 1)); if (0 ≤ x ∧ x < len b) then (Aeu N a n m fun z => if ((decide ((wi (q - z)) < 2)) = true) then (p false) else Aal N e 2 4000 fun A => if ((!A) = true) then (p false) else if ((!((b.getD x.toNat (0, (0, 0))).1 == 19)) = true) then (Aev N a n m q fun B => if ((!B) = true) then (p false) else if ((a == 28) = true) then (if (o = true) then (p false) else Aa9 N a n m fun r => if ((decide (r > 0)) = true) then (if (0 ≤ r ∧ r < len c) then (Ad7 N b (c.getD r.toNat 0) fun C => if ((!(C == (a == 27))) = true) then (p false) else if ((a != 19) = true) then (Aaw N a n m fun D => rc e D (wi (d + 1)) f g b h i j c l) else rc e o (wi (d + 1)) f g b h i j c l) else none) else if ((a != 19) = true) then (Aaw N a n m fun E => rc e E (wi (d + 1)) f g b h i j c l) else rc e o (wi (d + 1)) f g b h i j c l) else Aa9 N a n m fun s => if ((decide (s > 0)) = true) then (if (0 ≤ s ∧ s < len c) then (Ad7 N b (c.getD s.toNat 0) fun F => if ((!(F == (a == 27))) = true) then (p false) else if ((a != 19) = true) then (Aaw N a n m fun G => rc e G (wi (d + 1)) f g b h i j c l) else rc e o (wi (d + 1)) f g b h i j c l) else none) else if ((a != 19) = true) then (Aaw N a n m fun H => rc e H (wi (d + 1)) f g b h i j c l) else rc e o (wi (d + 1)) f g b h i j c l) else if ((a == 28) = true) then (if (o = true) then (p false) else Aa9 N a n m fun t => if ((decide (t > 0)) = true) then (if (0 ≤ t ∧ t < len c) then (Ad7 N b (c.getD t.toNat 0) fun I => if ((!(I == (a == 27))) = true) then (p false) else if ((a != 19) = true) then (Aaw N a n m fun J => rc e J (wi (d + 1)) f g b h i j c l) else rc e o (wi (d + 1)) f g b h i j c l) else none) else if ((a != 19) = true) then (Aaw N a n m fun L => rc e L (wi (d + 1)) f g b h i j c l) else rc e o (wi (d + 1)) f g b h i j c l) else Aa9 N a n m fun u => if ((decide (u > 0)) = true) then (if (0 ≤ u ∧ u < len c) then (Ad7 N b (c.getD u.toNat 0) fun M => if ((!(M == (a == 27))) = true) then (p false) else if ((a != 19) = true) then (Aaw N a n m fun O => rc e O (wi (d + 1)) f g b h i j c l) else rc e o (wi (d + 1)) f g b h i j c l) else none) else if ((a != 19) = true) then (Aaw N a n m fun P => rc e P (wi (d + 1)) f g b h i j c l) else rc e o (wi (d + 1)) f g b h i j c l) else none) else Aeu N a n m fun Q => if ((decide ((wi (q - Q)) < 2)) = true) then (p false) else Aal N e 2 4000 fun S => if ((!S) = true) then (p false) else Aev N a n m q fun T => if ((!T) = true) then (p false) else if ((a == 28) = true) then (if (o = true) then (p false) else Aa9 N a n m fun v => if ((decide (v > 0)) = true) then (if (0 ≤ v ∧ v < len c) then (Ad7 N b (c.getD v.toNat 0) fun U => if ((!(U == (a == 27))) = true) then (p false) else if ((a != 19) = true) then (Aaw N a n m fun V => rc e V (wi (d + 1)) f g b h i j c l) else rc e o (wi (d + 1)) f g b h i j c l) else none) else if ((a != 19) = true) then (Aaw N a n m fun W => rc e W (wi (d + 1)) f g b h i j c l) else rc e o (wi (d + 1)) f g b h i j c l) else Aa9 N a n m fun w => if ((decide (w > 0)) = true) then (if (0 ≤ w ∧ w < len c) then (Ad7 N b (c.getD w.toNat 0) fun X => if ((!(X == (a == 27))) = true) then (p false) else if ((a != 19) = true) then (Aaw N a n m fun Y => rc e Y (wi (d + 1)) f g b h i j c l) else rc e o (wi (d + 1)) f g b h i j c l) else none) else if ((a != 19) = true) then (Aaw N a n m fun Z => rc e Z (wi (d + 1)) f g b h i j c l) else rc e o (wi (d + 1)) f g b h i j c l) else none) else y
def Aem {R : Type} (N : Nat) : Nat → A6h R
 | 0 => fun _ _ _ _ _ _ _ _ _ _ _ _ _ => none
 | k + 1 => fun a b c d e f g h i j l m n => A6i @Afr @Aeu @Aal @Aev @Aa9 @Ad7 @Aaw N (fun a b c d e f g h i j l => Aem N k a b c d e f g h i j l m n) a b c d e f g h i j l m n
def A6j (Aem : Azb) (N k : Nat) : Aar Aj6 := fun R x K => Aem N k x.1.2.2.1 x.1.2.2.2.1 x.1.2.2.2.2.1 x.2.1.1 x.2.1.2.1 x.2.1.2.2.1 x.2.1.2.2.2.1 x.2.1.2.2.2.2.1 x.2.1.2.2.2.2.2.1 x.2.2.1.1 x.2.2.1.2.1 (fun y0 => K .ret (Aab Aub ((y0, ()), (())))) (K (.exit 0) (Aab Auc ((()), (()))))
def A6k (N k : Nat) : Aar Aj6 := A6j @Aem N k
def Beg : Aac := ⟨[Cd0, (1, .agg [Bzx, Bzx])], []⟩
def Azc : Aac := ⟨Ahl, []⟩
abbrev B9u (R : Type) := (List UInt8)->d3->d2->d1->Int->Int->d0->d0->(Bool->Option R)->Option R
abbrev Asq := {R : Type} → Nat → B9u R
def Beh (Aem : Azb) : Asq := fun {R} N b c d e f g h i a => Aem N N 0 false 0 b c d e f g h i (fun j => a j) (a true)
def Ahp : Asq := @Beh @Aem
def Cmv (N : Nat) : Abv Beg [Azc] := fun R x C => Ahp N x.1.1.1 x.1.1.2.1 x.1.1.2.2.1 x.1.1.2.2.2.1 x.1.1.2.2.2.2.1 x.1.1.2.2.2.2.2.1 x.1.2.1.1 x.1.2.1.2.1 (fun y0 => C.1 ((y0, ()), (())))
def Bei (Ahp : Asq) (N : Nat) : Go.AX.Aaj := Acw [true, true] [] false 2 0 Beg [Azc] (fun R x C => Ahp N x.1.1.1 x.1.1.2.1 x.1.1.2.2.1 x.1.1.2.2.2.1 x.1.1.2.2.2.2.1 x.1.1.2.2.2.2.2.1 x.1.2.1.1 x.1.2.1.2.1 (fun y0 => C.1 ((y0, ()), (()))))
def Bom (N : Nat) : Go.AX.Aaj := Bei @Ahp N
def Cmw (N : Nat) : List (Nat × Acs) := [(7, Aaa Aj6 (A6k N N))]
def B9v (N : Nat) : List (Nat × Go.AX.Aaj) := [(211, Bln N), (212, Blo N), (208, A4b N), (213, Blp N), (210, A91 N), (214, Blq N), (209, A6d N)]
def Bae : Aac := ⟨A21, []⟩
def Awl : Aac := ⟨Azi, []⟩
abbrev B5j (R : Type) := (List UInt8)->d3->d2->d1->Int->Int->(Int->Option R)->Option R
abbrev Aps := {R : Type} → Nat → B5j R
def Baf (Ae5 : Anc) (Agx : Apm) (Aef : At5) (Agc : Apn) (Afl : Aoo) (Ahp : Asq) : Aps := fun {R} N d e f g b c a => Ae5 N d e f g b c fun o => if (o = true) then (a 2) else if ((decide (b < 0)) = true) then (a 60) else if ((decide (c < 0)) = true) then (a 60) else Agx N d e f g b c fun p => if ((!p) = true) then (a 60) else Aef N N 0 d e f g b c (fun q => a q) fun h i j l m n => Agc N h i j l m n fun r => if ((!r) = true) then (a 60) else Afl N h i j l m n fun s t u => if ((!s) = true) then (a 60) else Ahp N h i j l m n t u fun v => if ((!v) = true) then (a 61) else a 0
def Agd : Aps := @Baf @Ae5 @Agx @Aef @Agc @Afl @Ahp
def Cll (N : Nat) : Abv Bae [Awl] := fun R x C => Agd N x.1.1.1 x.1.1.2.1 x.1.1.2.2.1 x.1.1.2.2.2.1 x.1.1.2.2.2.2.1 x.1.1.2.2.2.2.2.1 (fun y0 => C.1 ((y0, ()), (())))
def Bag (Agd : Aps) (N : Nat) : Go.AX.Aaj := Acw [true] [] false 1 0 Bae [Awl] (fun R x C => Agd N x.1.1.1 x.1.1.2.1 x.1.1.2.2.1 x.1.1.2.2.2.1 x.1.1.2.2.2.2.1 x.1.1.2.2.2.2.2.1 (fun y0 => C.1 ((y0, ()), (()))))
def Blr (N : Nat) : Go.AX.Aaj := Bag @Agd N
def Clm (N : Nat) : List (Nat × Acs) := [(13, Aaa Aia (A1x N N))]
def B5k (N : Nat) : List (Nat × Go.AX.Aaj) := [(136, Bga N), (137, Bll N), (138, Bgf N), (139, Blm N), (140, Bi8 N), (141, Bom N)]
def Bah : Aac := ⟨B9g, []⟩
def Awm : Aac := ⟨Azi, []⟩
abbrev B5l (R : Type) := (List UInt8)->d3->d1->d2->d4->(Int->Option R)->Option R
abbrev Alx := {R : Type} → Nat → B5l R
def Bai (Ad2 : Atr) (Agd : Aps) : Alx := fun {R} N c d e a f b => if ((decide ((len f) > 32000)) = true) then (b 2) else if ((decide ((len a) > 200)) = true) then (b 2) else Ad2 N N 0 c d e a f c d e (len a) 0 ([] : List (Int × Int × Int)) fun g h i j l m => Agd N g h m i j l fun n => b n
def Aeb : Alx := @Bai @Ad2 @Agd
def Cln (N : Nat) : Abv Bah [Awm] := fun R x C => Aeb N x.1.1.1 x.1.1.2.1 x.1.1.2.2.1 x.1.1.2.2.2.1 x.1.1.2.2.2.2.1 (fun y0 => C.1 ((y0, ()), (())))
def Au0 (Aeb : Alx) (N : Nat) : Go.AX.Aaj := Acw [true] [] false 1 0 Bah [Awm] (fun R x C => Aeb N x.1.1.1 x.1.1.2.1 x.1.1.2.2.1 x.1.1.2.2.2.1 x.1.1.2.2.2.2.1 (fun y0 => C.1 ((y0, ()), (()))))
def Bls (N : Nat) : Go.AX.Aaj := Au0 @Aeb N
def Clo (N : Nat) : List (Nat × Acs) := [(11, Aaa Ah9 (A1n N N))]
def B5m (N : Nat) : List (Nat × Go.AX.Aaj) := [(87, Blr N)]
def Agl : Code := Tryz.f46.body.getD .skip
def Ae3 : Code := Tryz.f88.body.getD .skip
def Bxm : Code := Tryz.f49.body.getD .skip
def Bkr : Aac := ⟨Cdy, []⟩
def A4p : Aac := ⟨Ahl, []⟩
abbrev Cec (R : Type) := Int->Int->Int->(Bool->Option R)->Option R
abbrev Adr := {R : Type} → Nat → Cec R
def Aap : Adr := fun {R} N a c d b => if ((decide (a ≥ c)) = true) then (b (decide (a ≤ d))) else b false
def Ced (N : Nat) : Abv Bkr [A4p] := fun R x C => Aap N x.1.1 x.1.2.1 x.1.2.2.1 (fun y0 => C.1 ((y0, ()), (())))
def Ahq (Aap : Adr) (N : Nat) : Go.AX.Aaj := Acw [true, true, true] [] false 3 0 Bkr [A4p] (fun R x C => Aap N x.1.1 x.1.2.1 x.1.2.2.1 (fun y0 => C.1 ((y0, ()), (()))))
def A4q (N : Nat) : Go.AX.Aaj := Ahq @Aap N
def Cee (N : Nat) : List (Nat × Acs) := []
def Bxn (N : Nat) : List (Nat × Go.AX.Aaj) := []
def Age : Aac := ⟨[A20, wq6, Cdq, (28, .one (.val .bool))], A8v⟩
def Aud : Aac := ⟨Bn1, []⟩
def Aue : Aac := ⟨A8u, []⟩
def A75 : Ac7 := .cons .ret Aud (.cons .normal Aue (.nil))
abbrev Bon (R : Type) := Int->Int->Bool->(List UInt8)->d3->d1->d2->d4->(Bool->Option R)->(Int->Option R)->Option R
abbrev Ag9 := {R : Type} → Nat → Bon R
def Ax9 (Aap : Adr) : Ag9 := fun {R} N a c d l e m f n b g => if (d = true) then (Aap N a 0 (wi ((len e) - 1)) fun h => b h) else if ((c == 7) = true) then (Aap N a 1 (len f) fun i => b i) else if ((c == 8) = true) then (Aap N a 0 4000 fun j => b j) else g a
def Abw : Ag9 := @Ax9 @Aap
def Ak5 (Abw : Ag9) (N : Nat) : Aar Age := fun R x K => Abw N x.1.1 x.1.2.2.1 x.1.2.2.2.1 x.2.1.1 x.2.1.2.1 x.2.1.2.2.1 x.2.1.2.2.2.1 x.2.1.2.2.2.2.1 (fun y0 => K .ret (Aab Aud ((y0, ()), (())))) (fun y0 => K .normal (Aab Aue ((y0, ()), (()))))
def A76 (N : Nat) : Aar Age := Ak5 @Abw N
def Agf : Aac := ⟨[A20, wq6, Cdq, (23, .one (.val .bool))], A8v⟩
def Auf : Aac := ⟨Bn1, []⟩
def Aug : Aac := ⟨A8u, []⟩
def A77 : Ac7 := .cons .ret Auf (.cons .normal Aug (.nil))
abbrev Boo (R : Type) := Int->Int->Bool->(List UInt8)->d3->d1->d2->d4->(Bool->Option R)->(Int->Option R)->Option R
abbrev Aha := {R : Type} → Nat → Boo R
def Aya (Aap : Adr) (Abw : Ag9) : Aha := fun {R} N b a j d e f g h c i => if (j = true) then (Aap N b 0 199 fun l => c l) else if ((a == 3) = true) then (Abw N b a (a == 3) d e f g h (fun m => c m) fun n => i n) else Abw N b a (a == 6) d e f g h (fun o => c o) fun p => i p
def Abx : Aha := @Aya @Aap @Abw
def Ak6 (Abx : Aha) (N : Nat) : Aar Agf := fun R x K => Abx N x.1.1 x.1.2.2.1 x.1.2.2.2.1 x.2.1.1 x.2.1.2.1 x.2.1.2.2.1 x.2.1.2.2.2.1 x.2.1.2.2.2.2.1 (fun y0 => K .ret (Aab Auf ((y0, ()), (())))) (fun y0 => K .normal (Aab Aug ((y0, ()), (()))))
def A78 (N : Nat) : Aar Agf := Ak6 @Abx N
def Agg : Aac := ⟨[A20, wq6, Cdq, (18, .one (.val .bool))], A8v⟩
def Auh : Aac := ⟨Bn1, []⟩
def Aui : Aac := ⟨A8u, []⟩
def A79 : Ac7 := .cons .ret Auh (.cons .normal Aui (.nil))
abbrev Bop (R : Type) := Int->Int->Bool->(List UInt8)->d3->d1->d2->d4->(Bool->Option R)->(Int->Option R)->Option R
abbrev Ahb := {R : Type} → Nat → Bop R
def Ayb (Aap : Adr) (Abx : Aha) : Ahb := fun {R} N b a j d e f g h c i => if (j = true) then (Aap N b 0 4000 fun l => c l) else if ((a == 2) = true) then (Abx N b a (a == 2) d e f g h (fun m => c m) fun n => i n) else Abx N b a (a == 5) d e f g h (fun o => c o) fun p => i p
def Aby : Ahb := @Ayb @Aap @Abx
def Ak7 (Aby : Ahb) (N : Nat) : Aar Agg := fun R x K => Aby N x.1.1 x.1.2.2.1 x.1.2.2.2.1 x.2.1.1 x.2.1.2.1 x.2.1.2.2.1 x.2.1.2.2.2.1 x.2.1.2.2.2.2.1 (fun y0 => K .ret (Aab Auh ((y0, ()), (())))) (fun y0 => K .normal (Aab Aui ((y0, ()), (()))))
def A8a (N : Nat) : Aar Agg := Ak7 @Aby N
def Agh : Aac := ⟨A8u, []⟩
def Auj : Aac := ⟨Bn1, []⟩
def A8b : Ac7 := .cons .ret Auj (.nil)
abbrev Boq (R : Type) := Int->(Bool->Option R)->Option R
abbrev Ahc := {R : Type} → Nat → Boq R
def Ayc (Aap : Adr) : Ahc := fun {R} N a b => Aap N a 0 199 fun c => b c
def Abz : Ahc := @Ayc @Aap
def Ak8 (Abz : Ahc) (N : Nat) : Aar Agh := fun R x K => Abz N x.1.1 (fun y0 => K .ret (Aab Auj ((y0, ()), (()))))
def A8c (N : Nat) : Aar Agh := Ak8 @Abz N
def A4r : Aac := ⟨[Bzz, Alz, A20, Azg], []⟩
def Ar8 : Aac := ⟨Ahl, []⟩
abbrev Bxo (R : Type) := (List UInt8)->d3->d1->d2->d4->Int->Int->Int->(Bool->Option R)->Option R
abbrev Ahz := {R : Type} → Nat → Bxo R
def A4s (Aap : Adr) (Aby : Ahb) (Abz : Ahc) : Ahz := fun {R} N d e f g h a c i b => Aap N a 0 i fun j => if ((!j) = true) then (b false) else if ((a == 0) = true) then (Aap N c (-2147483648) 2147483647 fun l => b l) else if ((a == 1) = true) then (Aby N c a (a == 1) d e f g h (fun m => b m) fun n => Abz N n fun o => b o) else Aby N c a (a == 4) d e f g h (fun p => b p) fun q => Abz N q fun r => b r
def Abu : Ahz := @A4s @Aap @Aby @Abz
def Ci6 (N : Nat) : Abv A4r [Ar8] := fun R x C => Abu N x.1.1.1 x.1.1.2.1 x.1.1.2.2.1 x.1.1.2.2.2.1 x.1.1.2.2.2.2.1 x.1.2.1 x.1.2.2.1 x.1.2.2.2.1 (fun y0 => C.1 ((y0, ()), (())))
def Ani (Abu : Ahz) (N : Nat) : Go.AX.Aaj := Acw [true, true, true, true] [] false 4 0 A4r [Ar8] (fun R x C => Abu N x.1.1.1 x.1.1.2.1 x.1.1.2.2.1 x.1.1.2.2.2.1 x.1.1.2.2.2.2.1 x.1.2.1 x.1.2.2.1 x.1.2.2.2.1 (fun y0 => C.1 ((y0, ()), (()))))
def Bgm (N : Nat) : Go.AX.Aaj := Ani @Abu N
def Ci7 (N : Nat) : List (Nat × Acs) := [(28, Aaa Age (A76 N)), (22, Aaa Agf (A78 N)), (16, Aaa Agg (A8a N)), (38, Aaa Agh (A8c N))]
def Bxp (N : Nat) : List (Nat × Go.AX.Aaj) := [(49, A4q N)]
def Blt : Code := Tryz.f48.body.getD .skip
def Baj : Aac := ⟨[Bzz, Alz], []⟩
def Awn : Aac := ⟨Ahl, []⟩
abbrev B5n (R : Type) := (List UInt8)->d3->d1->d2->d4->Int->(Bool->Option R)->Option R
abbrev Agm := {R : Type} → Nat → B5n R
def Bak (Aap : Adr) : Agm := fun {R} N e f g h b a c => Aap N a 0 (wi ((len b) - 1)) fun d => if (d = true) then (if (0 ≤ a ∧ a < len b) then (c ((b.getD a.toNat (0, (0, (0, (0, 0))))).1 != 15)) else none) else c false
def Aa8 : Agm := @Bak @Aap
def Clp (N : Nat) : Abv Baj [Awn] := fun R x C => Aa8 N x.1.1.1 x.1.1.2.1 x.1.1.2.2.1 x.1.1.2.2.2.1 x.1.1.2.2.2.2.1 x.1.2.1 (fun y0 => C.1 ((y0, ()), (())))
def Ajx (Aa8 : Agm) (N : Nat) : Go.AX.Aaj := Acw [true, true] [] false 2 0 Baj [Awn] (fun R x C => Aa8 N x.1.1.1 x.1.1.2.1 x.1.1.2.2.1 x.1.1.2.2.2.1 x.1.1.2.2.2.2.1 x.1.2.1 (fun y0 => C.1 ((y0, ()), (()))))
def Bal (N : Nat) : Go.AX.Aaj := Ajx @Aa8 N
def Clq (N : Nat) : List (Nat × Acs) := []
def B5o (N : Nat) : List (Nat × Go.AX.Aaj) := [(49, A4q N)]
def Ahf : Aac := ⟨[A0p, Bha, Ch1, (62, .one (.val .bool))], Bfn⟩
def Ayd : Aac := ⟨A5j, []⟩
def Aye : Aac := ⟨Cdu, Bfn⟩
def Bej : Ac7 := .cons .ret Ayd (.cons .normal Aye (.nil))
abbrev Btl (R : Type) := Int->Bool->(List UInt8)->d3->d1->d2->d4->Int->Int->Int->Int->Int->(Bool->Option R)->((List UInt8)->d3->d1->d2->d4->Int->Int->Int->Int->Int->Option R)->Option R
abbrev Aig := {R : Type} → Nat → Btl R
def A16 (Aa8 : Agm) (Aap : Adr) : Aig := fun {R} N i l d e f g h m b c j n a o => if (l = true) then (if ((b == 0) = true) then (Aa8 N d e f g h c fun p => a p) else a false) else if ((i == 12) = true) then (if ((b == 0) = true) then (Aap N c 0 4000 fun q => a q) else a false) else if ((i == 14) = true) then (if ((b == 0) = true) then (Aap N c 0 1000 fun r => if (r = true) then (Aa8 N d e f g h j fun s => a s) else a false) else a false) else if ((i == 15) = true) then (if ((b == 0) = true) then (Aap N c (-2147483648) 2147483647 fun t => if (t = true) then (Aa8 N d e f g h j fun u => a u) else a false) else a false) else o d e f g h m b c j n
def Acf : Aig := @A16 @Aa8 @Aap
def Amo (Acf : Aig) (N : Nat) : Aar Ahf := fun R x K => Acf N x.1.2.2.1 x.1.2.2.2.1 x.2.1.1 x.2.1.2.1 x.2.1.2.2.1 x.2.1.2.2.2.1 x.2.1.2.2.2.2.1 x.2.2.1.1 x.2.2.1.2.1 x.2.2.1.2.2.1 x.2.2.1.2.2.2.1 x.2.2.1.2.2.2.2.1 (fun y0 => K .ret (Aab Ayd ((y0, ()), (())))) (fun y0 y1 y2 y3 y4 y5 y6 y7 y8 y9 => K .normal (Aab Aye (((), (), ()), ((y0, y1, y2, y3, y4, ()), (y5, y6, y7, y8, y9, ()), ()))))
def Bek (N : Nat) : Aar Ahf := Amo @Acf N
def Ahg : Aac := ⟨[A0p, Bha, Ch1, (49, .one (.val .bool))], Bfn⟩
def Ayf : Aac := ⟨A5j, []⟩
def Ayg : Aac := ⟨Cdu, Bfn⟩
def Bel : Ac7 := .cons .ret Ayf (.cons .normal Ayg (.nil))
abbrev Btm (R : Type) := Int->Bool->(List UInt8)->d3->d1->d2->d4->Int->Int->Int->Int->Int->(Bool->Option R)->((List UInt8)->d3->d1->d2->d4->Int->Int->Int->Int->Int->Option R)->Option R
abbrev Aih := {R : Type} → Nat → Btm R
def A17 (Acf : Aig) : Aih := fun {R} N a o e f g h i j c d l m b n => if (o = true) then (if ((c == 0) = true) then (b (d == 0)) else b false) else if ((a == 9) = true) then (Acf N a (a == 9) e f g h i j c d l m (fun p => b p) fun q r s t u v w x y z => n q r s t u v w x y z) else if ((a == 10) = true) then (Acf N a (a == 10) e f g h i j c d l m (fun A => b A) fun B C D E F G H I J L => n B C D E F G H I J L) else Acf N a (a == 11) e f g h i j c d l m (fun M => b M) fun O P Q S T U V W X Y => n O P Q S T U V W X Y
def Acb : Aih := @A17 @Acf
def Amp (Acb : Aih) (N : Nat) : Aar Ahg := fun R x K => Acb N x.1.2.2.1 x.1.2.2.2.1 x.2.1.1 x.2.1.2.1 x.2.1.2.2.1 x.2.1.2.2.2.1 x.2.1.2.2.2.2.1 x.2.2.1.1 x.2.2.1.2.1 x.2.2.1.2.2.1 x.2.2.1.2.2.2.1 x.2.2.1.2.2.2.2.1 (fun y0 => K .ret (Aab Ayf ((y0, ()), (())))) (fun y0 y1 y2 y3 y4 y5 y6 y7 y8 y9 => K .normal (Aab Ayg (((), (), ()), ((y0, y1, y2, y3, y4, ()), (y5, y6, y7, y8, y9, ()), ()))))
def Bem (N : Nat) : Aar Ahg := Amp @Acb N
def Ahh : Aac := ⟨[A0p, Bha, Ch1, (25, .one (.val .bool))], Bfn⟩
def Ayh : Aac := ⟨A5j, []⟩
def Ayi : Aac := ⟨Cdu, Bfn⟩
def Ben : Ac7 := .cons .ret Ayh (.cons .normal Ayi (.nil))
abbrev Btn (R : Type) := Int->Bool->(List UInt8)->d3->d1->d2->d4->Int->Int->Int->Int->Int->(Bool->Option R)->((List UInt8)->d3->d1->d2->d4->Int->Int->Int->Int->Int->Option R)->Option R
abbrev Aii := {R : Type} → Nat → Btn R
def A18 (Abu : Ahz) (Aap : Adr) (Acb : Aih) : Aii := fun {R} N a o d e f g h j b i l m c n => if (o = true) then (Abu N d e f g h b i 7 fun p => c p) else if ((a == 2) = true) then (Aap N b 1 3 fun q => if (q = true) then (Abu N d e f g h b i 7 fun r => c r) else c false) else if ((a == 3) = true) then (Acb N a (a == 3) d e f g h j b i l m (fun s => c s) fun t u v w x y z A B C => n t u v w x y z A B C) else if ((a == 4) = true) then (Acb N a (a == 4) d e f g h j b i l m (fun D => c D) fun E F G H I J L M O P => n E F G H I J L M O P) else if ((a == 5) = true) then (Acb N a (a == 5) d e f g h j b i l m (fun Q => c Q) fun S T U V W X Y Z aa ab => n S T U V W X Y Z aa ab) else Acb N a (a == 13) d e f g h j b i l m (fun ac => c ac) fun ad ae af ag ah ai aj ak al am => n ad ae af ag ah ai aj ak al am
def Aa6 : Aii := @A18 @Abu @Aap @Acb
def Amq (Aa6 : Aii) (N : Nat) : Aar Ahh := fun R x K => Aa6 N x.1.2.2.1 x.1.2.2.2.1 x.2.1.1 x.2.1.2.1 x.2.1.2.2.1 x.2.1.2.2.2.1 x.2.1.2.2.2.2.1 x.2.2.1.1 x.2.2.1.2.1 x.2.2.1.2.2.1 x.2.2.1.2.2.2.1 x.2.2.1.2.2.2.2.1 (fun y0 => K .ret (Aab Ayh ((y0, ()), (())))) (fun y0 y1 y2 y3 y4 y5 y6 y7 y8 y9 => K .normal (Aab Ayi (((), (), ()), ((y0, y1, y2, y3, y4, ()), (y5, y6, y7, y8, y9, ()), ()))))
def Beo (N : Nat) : Aar Ahh := Amq @Aa6 N
def Ahi : Aac := ⟨Cdu, Bfn⟩
def Ayj : Aac := ⟨A5j, []⟩
def Bep : Ac7 := .cons .ret Ayj (.nil)
abbrev Bto (R : Type) := (List UInt8)->d3->d1->d2->d4->Int->Int->Int->Int->Int->(Bool->Option R)->Option R
abbrev Aij := {R : Type} → Nat → Bto R
def A19 (Aap : Adr) (Abu : Ahz) : Aij := fun {R} N e f g h i b c d m n a => if ((b == 38) = true) then (if ((c == 0) = true) then (a (d == 0)) else a false) else if ((b == 39) = true) then (if ((c == 0) = true) then (a (d == 0)) else a false) else Aap N b 21 37 fun j => if (j = true) then (Abu N e f g h i c d 7 fun l => a l) else a false
def Aa7 : Aij := @A19 @Aap @Abu
def Amr (Aa7 : Aij) (N : Nat) : Aar Ahi := fun R x K => Aa7 N x.2.1.1 x.2.1.2.1 x.2.1.2.2.1 x.2.1.2.2.2.1 x.2.1.2.2.2.2.1 x.2.2.1.1 x.2.2.1.2.1 x.2.2.1.2.2.1 x.2.2.1.2.2.2.1 x.2.2.1.2.2.2.2.1 (fun y0 => K .ret (Aab Ayj ((y0, ()), (()))))
def Beq (N : Nat) : Aar Ahi := Amr @Aa7 N
def Bam : Aac := ⟨[Bzz, (1, .agg B7c)], []⟩
def Awo : Aac := ⟨Ahl, []⟩
abbrev B5p (R : Type) := (List UInt8)->d3->d1->d2->d4->Int->Int->Int->Int->Int->(Bool->Option R)->Option R
abbrev Aly := {R : Type} → Nat → B5p R
def Ban (Aa6 : Aii) (Aa7 : Aij) : Aly := fun {R} N e f g h i a j l c d b => if ((d != 0) = true) then (b false) else if ((c != 0) = true) then (if ((a != 14) = true) then (if ((a != 15) = true) then (b false) else if ((a == 1) = true) then (Aa6 N a (a == 1) e f g h i a j l c d (fun m => b m) fun n o p q r s t u v w => Aa7 N n o p q r s t u v w fun x => b x) else if ((a == 6) = true) then (Aa6 N a (a == 6) e f g h i a j l c d (fun y => b y) fun z A B C D E F G H I => Aa7 N z A B C D E F G H I fun J => b J) else if ((a == 7) = true) then (Aa6 N a (a == 7) e f g h i a j l c d (fun L => b L) fun M O P Q S T U V W X => Aa7 N M O P Q S T U V W X fun Y => b Y) else Aa6 N a (a == 8) e f g h i a j l c d (fun Z => b Z) fun aa ab ac ad ae af ag ah ai aj => Aa7 N aa ab ac ad ae af ag ah ai aj fun ak => b ak) else if ((a == 1) = true) then (Aa6 N a (a == 1) e f g h i a j l c d (fun al => b al) fun am an ao ap aq ar au av aw ax => Aa7 N am an ao ap aq ar au av aw ax fun ay => b ay) else if ((a == 6) = true) then (Aa6 N a (a == 6) e f g h i a j l c d (fun az => b az) fun ba bb bc bd be bf bg bh bi bj => Aa7 N ba bb bc bd be bf bg bh bi bj fun bk => b bk) else if ((a == 7) = true) then (Aa6 N a (a == 7) e f g h i a j l c d (fun bl => b bl) fun bm bn bo bp bq br bs bt bu bv => Aa7 N bm bn bo bp bq br bs bt bu bv fun bw => b bw) else Aa6 N a (a == 8) e f g h i a j l c d (fun bx => b bx) fun bz ca cb cc cd ce cf cg ch ci => Aa7 N bz ca cb cc cd ce cf cg ch ci fun cj => b cj) else if ((a == 1) = true) then (Aa6 N a (a == 1) e f g h i a j l c d (fun ck => b ck) fun cl cm cn co cp cq cr cs ct cu => Aa7 N cl cm cn co cp cq cr cs ct cu fun cv => b cv) else if ((a == 6) = true) then (Aa6 N a (a == 6) e f g h i a j l c d (fun cw => b cw) fun cx cy cz da db dc dd de df dg => Aa7 N cx cy cz da db dc dd de df dg fun dh => b dh) else if ((a == 7) = true) then (Aa6 N a (a == 7) e f g h i a j l c d (fun di => b di) fun dj dk dl dm dn dp dq dr ds dt => Aa7 N dj dk dl dm dn dp dq dr ds dt fun du => b du) else Aa6 N a (a == 8) e f g h i a j l c d (fun dv => b dv) fun dw dx dy dz ea eb ec ed ee ef => Aa7 N dw dx dy dz ea eb ec ed ee ef fun eg => b eg
def Aec : Aly := @Ban @Aa6 @Aa7
def Clr (N : Nat) : Abv Bam [Awo] := fun R x C => Aec N x.1.1.1 x.1.1.2.1 x.1.1.2.2.1 x.1.1.2.2.2.1 x.1.1.2.2.2.2.1 x.1.2.1.1 x.1.2.1.2.1 x.1.2.1.2.2.1 x.1.2.1.2.2.2.1 x.1.2.1.2.2.2.2.1 (fun y0 => C.1 ((y0, ()), (())))
def Au1 (Aec : Aly) (N : Nat) : Go.AX.Aaj := Acw [true, true] [] false 2 0 Bam [Awo] (fun R x C => Aec N x.1.1.1 x.1.1.2.1 x.1.1.2.2.1 x.1.1.2.2.2.1 x.1.1.2.2.2.2.1 x.1.2.1.1 x.1.2.1.2.1 x.1.2.1.2.2.1 x.1.2.1.2.2.2.1 x.1.2.1.2.2.2.2.1 (fun y0 => C.1 ((y0, ()), (()))))
def Blu (N : Nat) : Go.AX.Aaj := Au1 @Aec N
def Cls (N : Nat) : List (Nat × Acs) := [(38, Aaa Ahf (Bek N)), (30, Aaa Ahg (Bem N)), (16, Aaa Ahh (Beo N)), (52, Aaa Ahi (Beq N))]
def B5q (N : Nat) : List (Nat × Go.AX.Aaj) := [(88, Bgm N), (49, A4q N), (48, Bal N)]
def Bja : Code := Tryz.f47.body.getD .skip
def A6l : Aac := ⟨Azi, []⟩
def Auk : Aac := ⟨Ahl, []⟩
abbrev B00 (R : Type) := Int->(Bool->Option R)->Option R
abbrev Ak9 := {R : Type} → Nat → B00 R
def Acz : Ak9 := fun {R} N a b => if ((a != 9) = true) then (if ((a != 13) = true) then (if ((a != 14) = true) then (b (a != 15)) else b false) else b false) else b false
def B01 (N : Nat) : Abv A6l [Auk] := fun R x C => Acz N x.1.1 (fun y0 => C.1 ((y0, ()), (())))
def Asr (Acz : Ak9) (N : Nat) : Go.AX.Aaj := Acw [true] [] false 1 0 A6l [Auk] (fun R x C => Acz N x.1.1 (fun y0 => C.1 ((y0, ()), (()))))
def Bjb (N : Nat) : Go.AX.Aaj := Asr @Acz N
def B02 (N : Nat) : List (Nat × Acs) := []
def Bjc (N : Nat) : List (Nat × Go.AX.Aaj) := []
def Aik : Aac := ⟨[wq4, Azh, A8s, wq8], Bfn⟩
def Ayk : Aac := ⟨[wq4, Azh, A8s], A8v⟩
def Ber : Ac7 := .cons .normal Ayk (.nil)
abbrev Btp (R : Type) := Int->Int->(List UInt8)->d3->d1->d2->d4->Int->Int->Int->Int->Int->(Int->Int->(List UInt8)->d3->d1->d2->d4->Option R)->Option R
abbrev Akv := {R : Type} → Nat → Btp R
def Acc : Akv := fun {R} N h a b c d e f i l j m n g => if ((i == 14) = true) then (g j a b c d e f) else g h a b c d e f
def Ao7 (Acc : Akv) (N : Nat) : Aar Aik := fun R x K => Acc N x.1.2.1 x.1.2.2.1 x.2.1.1 x.2.1.2.1 x.2.1.2.2.1 x.2.1.2.2.2.1 x.2.1.2.2.2.2.1 x.2.2.1.1 x.2.2.1.2.1 x.2.2.1.2.2.1 x.2.2.1.2.2.2.1 x.2.2.1.2.2.2.2.1 (fun y0 y1 y2 y3 y4 y5 y6 => K .normal (Aab Ayk (((), y0, y1, ()), ((y2, y3, y4, y5, y6, ()), ()))))
def Bes (N : Nat) : Aar Aik := Ao7 @Acc N
def Agq : Aac := ⟨[wq4, Azh, A8s], A8v⟩
def Aq5 : Aac := ⟨A8u, []⟩
def Aq6 : Aac := ⟨[wq4, Azh], A8v⟩
def Bet : Ac7 := .cons .ret Aq5 (.cons (.exit 0) Aq6 (.nil))
abbrev A2a (R : Type) := Int->Int->(List UInt8)->d3->d1->d2->d4->(Int->Option R)->(Int->(List UInt8)->d3->d1->d2->d4->Option R)->Option R
abbrev Beu (R : Type) := Int->Int->(List UInt8)->d3->d1->d2->d4->Option R
abbrev Ams := {R : Type} → Nat → Nat → A2a R
def Aul (Aec : Aly) (Acz : Ak9) (Acc : Akv) {R : Type} (N : Nat) (rc : Beu R) : A2a R := fun c b e f g h a n o => if ((decide (b < (len a))) = true) then (if (0 ≤ b ∧ b < len a) then (let d := (a.getD b.toNat (0, (0, (0, (0, 0))))).1; let i := (a.getD b.toNat (0, (0, (0, (0, 0))))).2.1; let j := (a.getD b.toNat (0, (0, (0, (0, 0))))).2.2.1; let l := (a.getD b.toNat (0, (0, (0, (0, 0))))).2.2.2.1; let m := (a.getD b.toNat (0, (0, (0, (0, 0))))).2.2.2.2; Aec N e f g h a d i j l m fun p => if ((!p) = true) then (n 60) else if ((!((decide (c > 0)) == (d == 15))) = true) then (n 60) else if (((wi (b + 1)) == (len a)) = true) then (Acz N d fun q => if (q = true) then (n 60) else if ((decide (c > 0)) = true) then (Acc N (wi (c - 1)) b e f g h a d i j l m fun r s t u v w x => rc r (wi (s + 1)) t u v w x) else Acc N c b e f g h a d i j l m fun y z A B C D E => rc y (wi (z + 1)) A B C D E) else if ((decide (c > 0)) = true) then (Acc N (wi (c - 1)) b e f g h a d i j l m fun F G H I J L M => rc F (wi (G + 1)) H I J L M) else Acc N c b e f g h a d i j l m fun O P Q S T U V => rc O (wi (P + 1)) Q S T U V) else none) else o c e f g h a
def Aco {R : Type} (N : Nat) : Nat → A2a R
 | 0 => fun _ _ _ _ _ _ _ _ _ => none
 | k + 1 => fun a b c d e f g h i => Aul @Aec @Acz @Acc N (fun a b c d e f g => Aco N k a b c d e f g h i) a b c d e f g h i
def Ao8 (Aco : Ams) (N k : Nat) : Aar Agq := fun R x K => Aco N k x.1.2.1 x.1.2.2.1 x.2.1.1 x.2.1.2.1 x.2.1.2.2.1 x.2.1.2.2.2.1 x.2.1.2.2.2.2.1 (fun y0 => K .ret (Aab Aq5 ((y0, ()), (())))) (fun y0 y1 y2 y3 y4 y5 => K (.exit 0) (Aab Aq6 (((), y0, ()), ((y1, y2, y3, y4, y5, ()), ()))))
def A2b (N k : Nat) : Aar Agq := Ao8 @Aco N k
def Agr : Aac := ⟨[wq4, Bkn], A8v⟩
def Aq7 : Aac := ⟨A8u, []⟩
def Aq8 : Aac := ⟨[], []⟩
def Bev : Ac7 := .cons .ret Aq7 (.cons (.exit 2) Aq8 (.nil))
abbrev A2c (R : Type) := Int->(List UInt8)->d3->d1->d2->d4->(Int->Option R)->(Option R)->Option R
abbrev Bew (R : Type) := Int->(List UInt8)->d3->d1->d2->d4->Option R
abbrev Amt := {R : Type} → Nat → Nat → A2c R
def A2d (Aa8 : Agm) (Aap : Adr) (Acz : Ak9) {R : Type} (N : Nat) (rc : Bew R) : A2c R := fun a e f g b c d j => if ((decide (a < (len b))) = true) then (if (0 ≤ a ∧ a < len b) then (let h := (b.getD a.toNat (0, (0, 0))).1; Aa8 N e f g b c h fun l => if ((!l) = true) then (d 60) else Aap N ((b.getD a.toNat (0, (0, 0))).2.1) 0 8 fun m => if ((!m) = true) then (d 60) else Aap N ((b.getD a.toNat (0, (0, 0))).2.2) 2 4001 fun n => if ((!n) = true) then (d 60) else if ((decide (h > 0)) = true) then (let i := (wi (h - 1)); if (0 ≤ i ∧ i < len c) then (Acz N ((c.getD i.toNat (0, (0, (0, (0, 0))))).1) fun o => if (o = true) then (d 60) else rc (wi (a + 1)) e f g b c) else none) else rc (wi (a + 1)) e f g b c) else none) else j
def Acp {R : Type} (N : Nat) : Nat → A2c R
 | 0 => fun _ _ _ _ _ _ _ _ => none
 | k + 1 => fun a b c d e f g h => A2d @Aa8 @Aap @Acz N (fun a b c d e f => Acp N k a b c d e f g h) a b c d e f g h
def Ao9 (Acp : Amt) (N k : Nat) : Aar Agr := fun R x K => Acp N k x.1.2.1 x.2.1.1 x.2.1.2.1 x.2.1.2.2.1 x.2.1.2.2.2.1 x.2.1.2.2.2.2.1 (fun y0 => K .ret (Aab Aq7 ((y0, ()), (())))) (K (.exit 2) (Aab Aq8 ((()), (()))))
def A2e (N k : Nat) : Aar Agr := Ao9 @Acp N k
def Bao : Aac := ⟨B9g, []⟩
def Awp : Aac := ⟨Azi, []⟩
abbrev B5r (R : Type) := (List UInt8)->d3->d1->d2->d4->(Int->Option R)->Option R
abbrev Au2 := {R : Type} → Nat → B5r R
def Bap (Aeb : Alx) (Aco : Ams) (Acp : Amt) : Au2 := fun {R} N b c d e f a => Aeb N b c d e f fun g => if ((g != 0) = true) then (a g) else Aco N N 0 0 b c d e f (fun h => a h) fun i j l m n o => if ((decide (i > 0)) = true) then (a 60) else Acp N N 0 j l m n o (fun p => a p) (a 0)
def Aix : Au2 := @Bap @Aeb @Aco @Acp
def Clt (N : Nat) : Abv Bao [Awp] := fun R x C => Aix N x.1.1.1 x.1.1.2.1 x.1.1.2.2.1 x.1.1.2.2.2.1 x.1.1.2.2.2.2.1 (fun y0 => C.1 ((y0, ()), (())))
def Blv (Aix : Au2) (N : Nat) : Go.AX.Aaj := Acw [true] [] false 1 0 Bao [Awp] (fun R x C => Aix N x.1.1.1 x.1.1.2.1 x.1.1.2.2.1 x.1.1.2.2.2.1 x.1.1.2.2.2.2.1 (fun y0 => C.1 ((y0, ()), (()))))
def Blw (N : Nat) : Go.AX.Aaj := Blv @Aix N
def Clu (N : Nat) : List (Nat × Acs) := [(26, Aaa Aik (Bes N)), (13, Aaa Agq (A2b N N)), (37, Aaa Agr (A2e N N))]
def B5s (N : Nat) : List (Nat × Go.AX.Aaj) := [(45, Bls N), (46, Blu N), (47, Bjb N), (48, Bal N), (49, A4q N)]
def Ayl : Aac := ⟨[(0, .agg [.val .str, .val z3, .val z1, .val z4, .val z6])], []⟩
def Aob : Aac := ⟨Ahl, []⟩
abbrev Bor (R : Type) := (List UInt8)->d3->d1->d2->d4->(Bool->Option R)->Option R
abbrev Aym := {R : Type} → Nat → Bor R
def Ayn (Ait : Aup) (Aj5 : Axl) (Aix : Au2) : Aym := fun {R} N a b c d e f => Ait N a b c d e fun g => if (g = true) then (f true) else Aj5 N a b c d e fun h => Aix N a b c d e fun i => if ((h == i) = true) then (f true) else f false
def Amu : Aym := @Ayn @Ait @Aj5 @Aix
def Cf4 (N : Nat) : Abv Ayl [Aob] := fun R x C => Amu N x.1.1.1 x.1.1.2.1 x.1.1.2.2.1 x.1.1.2.2.2.1 x.1.1.2.2.2.2.1 (fun y0 => C.1 ((y0, ()), (())))
def Bos (Amu : Aym) (N : Nat) : Go.AX.Aaj := Acw [true] [] false 1 0 Ayl [Aob] (fun R x C => Amu N x.1.1.1 x.1.1.2.1 x.1.1.2.2.1 x.1.1.2.2.2.1 x.1.1.2.2.2.2.1 (fun y0 => C.1 ((y0, ()), (()))))
def A8d (N : Nat) : Go.AX.Aaj := Bos @Amu N
def Cf5 (N : Nat) : List (Nat × Acs) := []
def Bot (N : Nat) : List (Nat × Go.AX.Aaj) := [(12, Bk3 N), (13, A8z N), (14, Bog N), (15, Blw N)]
end
end Q

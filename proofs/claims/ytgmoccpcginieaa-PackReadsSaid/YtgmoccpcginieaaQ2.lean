/- Part Q2 of the proof. -/
import Derived.Test.YtgmoccpcginieaaQ1
open Go Go.AX Go.Proofs
namespace Q
theorem C21 {R : Type} (N : Nat) (nm : List UInt8) (data : Aar) (l : OpL) (gl : Aa5) (procs labels : Int) (hl : l.length < N) (hl2 : l.length ≤ 1000000) (hb : 0 ≤ labels ∧ labels ≤ 20000) (hN : 20001 < N)
  (hL : ∀ o, o ∈ l → o.1 = 19 → 1 ≤ o.2.1 ∧ o.2.1 ≤ labels) (hn : ∀ x, x ∈ l → Aak x = 0 ∨ (1 ≤ Aak x ∧ Aak x ≤ labels)) (K : Bool → List Int → List Int → Option R) (hK : ∀ a b a' b', K false a b = K false a' b') :
  Aiq N nm data l gl procs labels K = match Bf5 l labels with | none => K false [] [] | some (pl, pr) => K true pl pr := by
 have hw : wi (labels + 1) = labels + 1 := Ac8 (by omega) (by omega)
 simp only [Aiq, Bk5, hw]
 rw [if_pos (by omega), if_pos (by simp only [len]; omega)]
 have h7 := Ctb (R := R) N nm data l gl procs labels [] [] (List.replicate (Int.toNat (len l)) 0) (by omega) (fun C D E F G H I J L M => Acx N N 0 0 C D E F G H I J L M (fun h i j => K h i j) (fun m p r s t u v w y z => Acj N N 0 m p r s t u v w y z (fun c d e => K c d e) (fun A B f g => K true f g)))
  (labels + 1).toNat N 0 (List.replicate (labels + 1).toNat 0) (by omega) (by omega) (by simp; omega)
 rw [show ((0 : Nat) : Int) = 0 from rfl] at h7
 refine Eq.trans h7 ?_
 rw [List.take_zero, List.nil_append, show Int.toNat (len l) = l.length by simp [len]]
 have h17 := Coy (R := R) N nm data l gl procs labels [] [] (by omega) hL (fun h i j => K h i j) (fun m p r s t u v w y z => Acj N N 0 m p r s t u v w y z (fun c d e => K c d e) (fun A B f g => K true f g)) hK
  N 0 0 (List.replicate (labels + 1).toNat (-1)) (List.replicate l.length 0) (by omega) (by omega) (by omega) (by omega) (by simp; omega) (by simp)
 rw [show ((0 : Nat) : Int) = 0 from rfl, List.drop_zero] at h17
 refine Eq.trans h17 ?_
 unfold Bf5
 cases hp : plR 0 l 0 (List.replicate (labels + 1).toNat (-1)) (List.replicate l.length 0) with
 | none => rfl
 | some q =>
  obtain ⟨pl, pr⟩ := q
  have hlen := B1l _ _ _ _ _ _ hp
  have hval := Cxf _ _ _ _ _ _ (l.length : Int) hp (by omega) (fun n => by
   rw [List.getD_eq_getElem?_getD, List.getElem?_replicate]; split <;> simp)
  simp only [List.length_replicate] at hlen
  dsimp only
  have h37 := Coz (R := R) N nm data l gl procs labels [] [] pl pr (by omega) hn (by omega) (by omega) hval (fun c d e => K c d e) (fun A B f g => K true f g) N 0 (by omega) (by omega)
  rw [show ((0 : Nat) : Int) = 0 from rfl, List.drop_zero] at h37
  refine Eq.trans h37 ?_
  cases B26 0 l pl pr
  ·exact hK _ _ _ _
  ·rfl
def Cxg (i : Nat) (o a pl pr : List Int) : Prop :=
 ∀ n, n < a.length → (a.getD n 0 = 0 ∧ pl.getD n 0 < 0) ∨ (1 ≤ a.getD n 0 ∧ pl.getD n 0 = o.getD n 0 ∧ 1 ≤ o.getD n 0 ∧ o.getD n 0 < i ∧ pr.getD (o.getD n 0).toNat 0 = a.getD n 0)
theorem Cxg.next {i : Nat} {o a pl pr : List Int} (h : Cxg i o a pl pr) (v : Int) : Cxg (i + 1) o a pl (pr.set i v) := by
 intro n hn
 rcases h n hn with h | ⟨h1, h2, h3, h4, h5⟩
 ·exact .inl h
 ·refine .inr ⟨h1, h2, h3, by omega, ?_⟩
  rw [Akc, if_neg (by omega)]; exact h5
theorem Db4 : ∀ (r : OpL) (i : Nat) (p m : Int) (o a pl pr : List Int), o.length = a.length → pl.length = a.length → pr.length = i + r.length → (∀ x, x ∈ r → x.1 = 19 → 1 ≤ x.2.1 ∧ x.2.1 < a.length) → 0 ≤ p → (1 ≤ p → 1 ≤ i) → (p = 0 → Afp r = none ∨ Afp r = some 24) → Cxg i o a pl pr →
  match plF i r p m o a with
  | none => Blx r p m = none ∨ plR i r p pl pr = none
  | some (p', m', o', a') => Blx r p m = some (p', m') ∧ ∃ pl' pr', plR i r p pl pr = some (pl', pr') ∧ Cxg (i + r.length) o' a' pl' pr' := by
 intro r
 induction r with
 | nil => intro i p m o a pl pr _ _ _ _ _ _ _ h; exact ⟨rfl, pl, pr, rfl, h⟩
 | cons x r ih =>
  intro i p m o a pl pr ho hpl hpr hx hp hpi hp0 hinv
  rw [List.length_cons] at hpr
  have hL : i + (x :: r).length = (i + 1) + r.length := by rw [List.length_cons]; omega
  rw [hL, plF, Blx, plR]
  have hx' := hx x (by simp)
  have hr : ∀ y, y ∈ r → y.1 = 19 → 1 ≤ y.2.1 ∧ y.2.1 < a.length := fun y hy => hx y (by simp [hy])
  by_cases h24 : x.1 = 24
  ·rw [if_pos h24, if_pos h24, if_neg (show ¬x.1 = 19 by omega), if_pos h24]
   by_cases he : x.2.1 = p + 1
   ·rw [if_pos he, if_pos he]
    exact ih (i + 1) (p + 1) m o a pl _ ho hpl (by rw [List.length_set]; omega) hr (by omega) (by omega) (by omega) (hinv.next _)
   ·rw [if_neg he, if_neg he]; exact .inl rfl
  have hp1 : 1 ≤ p := by
   rcases Int.lt_or_le 0 p with h | h
   ·omega
   ·have := hp0 (by omega)
    simp only [Afp] at this
    rcases this with h | h
    ·cases h
    ·injection h with h; exact absurd h h24
  rw [if_neg h24, if_neg h24]
  by_cases h19 : x.1 = 19
  ·have hv := hx' h19
   rw [if_pos h19, if_pos h19, if_pos h19]
   have hi := hinv x.2.1.toNat (by omega)
   by_cases h0 : a.getD x.2.1.toNat 0 ≠ 0 ∨ p = 0
   ·rw [if_pos h0, if_pos (show 0 ≤ pl.getD x.2.1.toNat 0 by omega)]; exact .inr rfl
   ·rw [if_neg h0, if_neg (show ¬0 ≤ pl.getD x.2.1.toNat 0 by omega)]
    refine ih (i + 1) p _ (o.set x.2.1.toNat i) (a.set x.2.1.toNat p) (pl.set x.2.1.toNat i) (pr.set i p) (by rw [List.length_set, List.length_set]; exact ho) (by rw [List.length_set, List.length_set]; exact hpl) (by rw [List.length_set]; omega) (by rw [List.length_set]; exact hr) hp (by omega) (by omega) ?_
    intro n hn
    rw [List.length_set] at hn
    rw [Akc, Akc, Akc]
    by_cases hnn : x.2.1.toNat = n
    ·right
     rw [if_pos ⟨hnn, by omega⟩, if_pos ⟨hnn, by omega⟩, if_pos ⟨hnn, by omega⟩, Int.toNat_natCast, Akc, if_pos ⟨rfl, by omega⟩]
     exact ⟨hp1, rfl, by have := hpi hp1; omega, by omega, rfl⟩
    ·rw [if_neg (fun h => hnn h.1), if_neg (fun h => hnn h.1), if_neg (fun h => hnn h.1)]
     exact hinv.next p n hn
  ·rw [if_neg h19, if_neg h19, if_neg h19, if_neg h24]
   exact ih (i + 1) p m o a pl _ ho hpl (by rw [List.length_set]; omega) hr hp (by omega) (by omega) (hinv.next _)
def B9j : OpL → Int → List Int
 | [], _ => []
 | x :: r, p => (if x.1 = 24 then p + 1 else p) :: B9j r (if x.1 = 24 then p + 1 else p)
theorem Czt : ∀ (r : OpL) (i : Nat) (p : Int) (pl pr : List Int) (q : List Int × List Int), plR i r p pl pr = some q → pr.length = i + r.length → (∀ j, j < i → q.2.getD j 0 = pr.getD j 0) ∧ q.2.drop i = B9j r p
 | [], i, p, pl, pr, q, h, hl => by
  simp only [plR, Option.some.injEq] at h; subst h
  exact ⟨fun _ _ => rfl, by rw [B9j]; exact List.drop_eq_nil_of_le (by simp at hl; simp; omega)⟩
 | x :: r, i, p, pl, pr, q, h, hl => by
  rw [List.length_cons] at hl
  rw [B9j]
  have key : ∀ (p2 : Int) (pl2 : List Int), plR (i + 1) r p2 pl2 (pr.set i p2) = some q → (∀ j, j < i → q.2.getD j 0 = pr.getD j 0) ∧ q.2.drop i = p2 :: B9j r p2 := by
   intro p2 pl2 h2
   have := Czt r (i + 1) p2 pl2 (pr.set i p2) q h2 (by rw [List.length_set]; omega)
   refine ⟨fun j hj => ?_, ?_⟩
   ·rw [this.1 j (by omega), Akc, if_neg (by omega)]
   ·have hlen := (B1l r _ _ _ _ q h2).2
    rw [List.length_set] at hlen
    have h3 := this.1 i (by omega)
    rw [Akc, if_pos ⟨rfl, by omega⟩, List.getD_eq_getElem?_getD, List.getElem?_eq_getElem (by omega)] at h3
    rw [List.drop_eq_getElem_cons (by omega), this.2]
    simp only [Option.getD_some] at h3
    rw [h3]
  rw [plR] at h
  by_cases h24 : x.1 = 24
  ·rw [if_neg (show ¬x.1 = 19 by omega), if_pos h24] at h
   rw [if_pos h24]; exact key _ _ h
  ·rw [if_neg h24] at h ⊢
   split at h
   ·split at h
    ·cases h
    ·exact key _ _ h
   ·exact key _ _ h
theorem C69 (o a pl pr : List Int) (I : Nat) (hinv : Cxg I o a pl pr) : ∀ (r : OpL) (i : Nat) (p m : Int), pr.drop i = B9j r p → Blx r p m ≠ none → 0 ≤ p → (p = 0 → Afp r = none ∨ Afp r = some 24) → (∀ x, x ∈ r → Aak x = 0 ∨ (1 ≤ Aak x ∧ Aak x < a.length)) →
  B26 i r pl pr = A1r p r o a := by
 intro r
 induction r with
 | nil => intros; rfl
 | cons x r ih =>
  intro i p m hpr hs hp hp0 hn
  rw [B9j] at hpr
  have hlt : i < pr.length := by
   rcases Nat.lt_or_ge i pr.length with h | h
   ·exact h
   ·rw [List.drop_eq_nil_of_le h] at hpr; cases hpr
  have hg : pr.getD i 0 = (if x.1 = 24 then p + 1 else p) := by
   rw [List.drop_eq_getElem_cons hlt] at hpr
   rw [List.getD_eq_getElem?_getD, List.getElem?_eq_getElem hlt]; exact (List.cons.inj hpr).1
  have hd : pr.drop (i + 1) = B9j r (if x.1 = 24 then p + 1 else p) := by
   rw [List.drop_eq_getElem_cons hlt] at hpr; exact (List.cons.inj hpr).2
  have hn' := hn x (by simp)
  rw [B26, A1r, hg]
  have body : ∀ p2 : Int, 1 ≤ p2 → (decide (Aak x ≤ 0) || (decide (0 ≤ pl.getD (Aak x).toNat 0) && pr.getD (pl.getD (Aak x).toNat 0).toNat 0 == p2)) = (decide (Aak x ≤ 0) || (a.getD (Aak x).toNat 0 == p2 && o.getD (Aak x).toNat 0 != 0)) := by
   intro p2 h2
   rcases hn' with h | h
   ·rw [h]; rfl
   ·rcases hinv (Aak x).toNat (by omega) with ⟨e1, e2⟩ | ⟨e1, e2, e3, e4, e5⟩
    ·rw [e1, show decide (0 ≤ pl.getD (Aak x).toNat 0) = false from decide_eq_false (by omega), show ((0 : Int) == p2) = false from beq_eq_false_iff_ne.mpr (by omega)]; rfl
    ·rw [e2, e5, show decide (0 ≤ o.getD (Aak x).toNat 0) = true from decide_eq_true (by omega), show (o.getD (Aak x).toNat 0 != 0) = true from bne_iff_ne.mpr (by omega), Bool.true_and, Bool.and_true]
  rw [Cps] at hs
  have hr : ∀ y, y ∈ r → Aak y = 0 ∨ (1 ≤ Aak y ∧ Aak y < a.length) := fun y hy => hn y (by simp [hy])
  by_cases h24 : x.1 = 24
  ·simp only [if_pos h24] at hs hd ⊢
   by_cases he : x.2.1 = p + 1
   ·rw [if_pos he] at hs
    rw [he, body _ (by omega), ih (i + 1) (p + 1) m hd hs (by omega) (by omega) hr]
   ·rw [if_neg he] at hs; exact absurd rfl hs
  ·simp only [if_neg h24] at hs hd ⊢
   have hp1 : 1 ≤ p := by
    rcases Int.lt_or_le 0 p with h | h
    ·omega
    ·have := hp0 (by omega)
     simp only [Afp] at this
     rcases this with h | h
     ·cases h
     ·injection h with h; exact absurd h h24
   rw [body _ hp1, ih (i + 1) p _ hd hs hp (by omega) hr]
theorem C22 (l : OpL) (procs labels : Int) (hb : 0 ≤ labels) (hf : An5 l = true) (hL : ∀ o, o ∈ l → o.1 = 19 → 1 ≤ o.2.1 ∧ o.2.1 ≤ labels) (hn : ∀ x, x ∈ l → Aak x = 0 ∨ (1 ≤ Aak x ∧ Aak x ≤ labels)) :
  (match Apq l procs labels with | none => false | some (b, o, a) => b && A1r 0 l o a) = (Bzf l 0 0 procs labels && (Bf5 l labels).isSome) ∧
  ∀ b o a pl pr, Apq l procs labels = some (b, o, a) → A1r 0 l o a = true → Bf5 l labels = some (pl, pr) → ∀ n : Nat, n < (labels + 1).toNat → (a.getD n 0 = 0 ∧ pl.getD n 0 < 0) ∨ (1 ≤ a.getD n 0 ∧ pl.getD n 0 = o.getD n 0 ∧ 1 ≤ o.getD n 0 ∧ o.getD n 0 < l.length) := by
 have hlen : (List.replicate (labels + 1).toNat (0 : Int)).length = (labels + 1).toNat := List.length_replicate
 have hrel := Db4 l 0 0 0 (List.replicate (labels + 1).toNat 0) (List.replicate (labels + 1).toNat 0) (List.replicate (labels + 1).toNat (-1)) (List.replicate l.length 0) rfl (by simp) (by simp) (fun x hx h19 => by have := hL x hx h19; rw [hlen]; omega) (by omega) (by omega)
  (fun _ => by
   unfold An5 at hf
   simp only [Bool.or_eq_true, beq_iff_eq] at hf; exact hf)
  (fun n hn => by
   left
   rw [hlen] at hn
   simp only [List.getD_eq_getElem?_getD, List.getElem?_replicate, if_pos hn, Option.getD_some]
   exact ⟨trivial, by omega⟩)
 have hh : Afp l = none ∨ Afp l = some 24 := by
  unfold An5 at hf
  simp only [Bool.or_eq_true, beq_iff_eq] at hf; exact hf
 unfold Apq Bf5 Bzf
 cases hp : plF 0 l 0 0 (List.replicate (labels + 1).toNat 0) (List.replicate (labels + 1).toNat 0) with
 | none =>
  rw [hp] at hrel
  refine ⟨?_, fun _ _ _ _ _ h => by cases h⟩
  rcases hrel with h | h
  ·rw [h]; rfl
  ·rw [h]; simp
 | some q =>
  obtain ⟨p, m, o, a⟩ := q
  rw [hp] at hrel
  obtain ⟨h1, pl, pr, h2, h3⟩ := hrel
  have hal := Czo _ _ _ _ _ _ _ hp
  simp only [List.length_replicate] at hal
  have hrun := Czt l 0 0 _ _ _ h2 (by simp)
  rw [List.drop_zero] at hrun
  have hu := C69 o a pl pr (0 + l.length) h3 l 0 0 0 hrun.2 (by rw [h1]; simp) (by omega) (fun _ => hh) (fun x hx => by
   have := hn x hx
   rw [hal.2]; omega)
  rw [h1, h2]
  simp only [hu]
  refine ⟨?_, ?_⟩
  ·cases A1r 0 l o a <;> simp
  ·intro b o' a' pl' pr' e1 e2 e3 n hn'
   simp only [Option.some.injEq, Prod.mk.injEq] at e1
   obtain ⟨_, rfl, rfl⟩ := e1
   rw [if_pos e2] at e3
   simp only [Option.some.injEq, Prod.mk.injEq] at e3
   obtain ⟨rfl, rfl⟩ := e3
   rcases h3 n (by omega) with h | ⟨k1, k2, k3, k4, k5⟩
   ·exact .inl h
   ·exact .inr ⟨k1, k2, k3, by omega⟩
theorem Co0 {R : Type} (N : Nat) (x : Int × Int × Int) (d : Int) (hx : 1 ≤ x.1 ∧ x.1 ≤ 30) (hd : 0 ≤ d ∧ d ≤ 4000) (hm : x.1 = 24 ∨ x.1 = 23 ∨ x.1 = 28 → 0 ≤ x.2.1 ∧ x.2.1 ≤ 4000 ∧ 0 ≤ x.2.2 ∧ x.2.2 ≤ 4000) (K : Int → Option R) :
  Ai5 N x.1 x.2.1 x.2.2 d K = K (Alg x d) := by
 obtain ⟨op, n, m⟩ := x
 simp only at hx hm
 have w1 : wi (d + 1) = d + 1 := Ac8 (by omega) (by omega)
 have w2 : wi (d - 1) = d - 1 := Ac8 (by omega) (by omega)
 have w3 : wi (d - 2) = d - 2 := Ac8 (by omega) (by omega)
 have w4 : wi (d - 3) = d - 3 := Ac8 (by omega) (by omega)
 simp only [Ai5, Bpr, Adl, Bff, Acy, Bfe, Ae1, w1, w2, w3, w4]
 by_cases h24 : op = 24
 ·subst h24
  rw [show wi (2 + m) = 2 + m from Ac8 (by have := hm (.inl rfl); omega) (by have := hm (.inl rfl); omega)]
  simp [Alg]
 by_cases h23 : op = 23
 ·subst h23
  rw [show wi (n + 1) = n + 1 from Ac8 (by have := hm (.inr (.inl rfl)); omega) (by have := hm (.inr (.inl rfl)); omega)]
  simp [Alg]
 by_cases h28 : op = 28
 ·subst h28
  rw [show wi (n + 1) = n + 1 from Ac8 (by have := hm (.inr (.inr rfl)); omega) (by have := hm (.inr (.inr rfl)); omega)]
  simp [Alg]
 rcases Br0 hx with rfl | rfl | rfl | rfl | rfl | rfl | rfl | rfl | rfl | rfl | rfl | rfl | rfl | rfl | rfl | rfl | rfl | rfl | rfl | rfl | rfl | rfl | rfl | rfl | rfl | rfl | rfl | rfl | rfl | rfl <;>
  first
  | (exfalso; omega)
  | (simp [Alg, kT, Arw]; done)
  | (simp [Alg, kT, Arw]; congr 1; omega)
theorem Co1 {R : Type} (N : Nat) (x : Int × Int × Int) (hx : 1 ≤ x.1 ∧ x.1 ≤ 30) (K : Int → Option R) : Ahp N x.1 x.2.1 x.2.2 K = K (kT x.1).2.2.1 := by
 obtain ⟨op, n, m⟩ := x
 simp only at hx
 simp only [Ahp, Bpu, Adw, Bfg, Afn]
 rcases Br0 hx with rfl | rfl | rfl | rfl | rfl | rfl | rfl | rfl | rfl | rfl | rfl | rfl | rfl | rfl | rfl | rfl | rfl | rfl | rfl | rfl | rfl | rfl | rfl | rfl | rfl | rfl | rfl | rfl | rfl | rfl <;>
  simp [kT, Arw]
def Cxh (x : Int × Int × Int) (d : Int) : Bool :=
 if x.1 = 2 ∨ x.1 = 3 then inB x.2.1 2 (d - 1) else if x.1 = 4 then decide (2 ≤ x.2.1) else if x.1 = 23 then inB x.2.1 2 (d - 3) else if x.1 = 18 then decide (x.2.1 ≤ d + 2000 + 2) else true
theorem Co2 {R : Type} (N : Nat) (x : Int × Int × Int) (d : Int) (hd : 0 ≤ d ∧ d ≤ 4000) (K : Bool → Option R) : Ahq N x.1 x.2.1 x.2.2 d K = K (Cxh x d) := by
 obtain ⟨op, n, m⟩ := x
 have w1 : wi (d - 1) = d - 1 := Ac8 (by omega) (by omega)
 have w3 : wi (d - 3) = d - 3 := Ac8 (by omega) (by omega)
 have w2 : wi (wi (d + 2000) + 2) = d + 2000 + 2 := by rw [Ac8 (i := d + 2000) (by omega) (by omega), Ac8 (by omega) (by omega)]
 simp only [Ahq, Bpx, Aje, Bh4, Atz, w1, w2, w3, Cxh]
 by_cases h2 : op = 2
 ·simp [h2]
 by_cases h3 : op = 3
 ·simp [h3]
 by_cases h4 : op = 4
 ·simp [h4]
 by_cases h23 : op = 23
 ·simp [h23]
 by_cases h18 : op = 18
 ·simp [h18]
 simp [h2, h3, h4, h23, h18]
theorem C7a (x : Int × Int × Int) (d : Int) (f : Bool) (h24 : x.1 ≠ 24) : Bqm x d f = (((x.1 == 18 && f) || Cxh x d) && decide (2 ≤ d - (kT x.1).2.2.1)) := by
 unfold Bqm Cxh
 have b24 : (x.1 == 24) = false := beq_eq_false_iff_ne.mpr h24
 rw [b24, Bool.false_or]
 congr 1
 by_cases h2 : x.1 = 2 ∨ x.1 = 3
 ·rw [if_pos h2, if_pos h2, show (x.1 == 18) = false from beq_eq_false_iff_ne.mpr (by omega)]; simp
 rw [if_neg h2, if_neg h2]
 by_cases h4 : x.1 = 4
 ·rw [if_pos h4, if_pos h4, h4]; simp
 rw [if_neg h4, if_neg h4]
 by_cases h23 : x.1 = 23
 ·rw [if_pos h23, if_pos h23, h23]; simp
 rw [if_neg h23, if_neg h23]
 by_cases h18 : x.1 = 18
 ·rw [if_pos h18, if_pos h18, h18]; simp
 ·rw [if_neg h18, if_neg h18]; simp
def Bnl (l : OpL) (j : Nat) : Bool := (Ab8 l (Aef l j)).1 == 28
theorem C23 {R : Type} (N : Nat) (l : OpL) (hl : l.length ≤ 1099511627776) (K : OpL → Int → Option R) : ∀ (k j : Nat), Aef l j < l.length → l.length - j < k →
  Ahj N k l j K = K l (Aef l j : Nat) := by
 intro k
 induction k with
 | zero => intro j _ h; omega
 | succ k ih =>
  intro j hj hk
  have hjl : j < l.length := by unfold Aef at hj; omega
  have hin : (0 : Int) ≤ j ∧ (j : Int) < len l := by simp only [len]; omega
  have hd' : l.drop j = l[j] :: l.drop (j + 1) := List.drop_eq_getElem_cons hjl
  simp only [Ahj, Bh7]
  rw [if_pos (by simp only [len, decide_eq_true_eq]; omega), if_pos hin, Ad2 _ _ hjl, Abh (by omega)]
  by_cases h19 : l[j].1 = 19
  ·have : Aef l j = Aef l (j + 1) := by unfold Aef; rw [hd', A0c, if_pos h19]; omega
   rw [if_pos (by simpa using h19), ih (j + 1) (by omega) (by omega), this]
  ·have : Aef l j = j := by unfold Aef; rw [hd', A0c, if_neg h19]; rfl
   rw [if_neg (by simpa using h19), this]
theorem Co3 {R : Type} (N : Nat) (l : OpL) (j : Int) (hl : l.length ≤ 1099511627776) (hN : l.length < N) (ho : Ag1 0 l = true) (h0 : 0 ≤ j) (hj : j < l.length) (K : Bool → Option R) :
  Agn N l j K = K (Bnl l j.toNat) := by
 obtain ⟨n, rfl⟩ := Int.eq_ofNat_of_zero_le h0
 have hlt := A2t ho (j := n) (by omega)
 simp only [Agn, Bp0]
 rw [C23 N l hl _ N n hlt (by omega), if_pos (by simp only [len, decide_eq_true_eq]; omega), if_pos (by simp only [len]; omega), Int.toNat_natCast, Int.toNat_natCast]
 rfl
def dpB (l : OpL) (pl : List Int) (i : Nat) (d : Int) (f : Bool) (x : Int × Int × Int) : Bool :=
 Bqm x d (Bdo l i) && decide (2 ≤ Alg x d) && decide (Alg x d ≤ 4000) && (x.1 != 28 || !f) && (decide (Aak x ≤ 0) || (Bnl l (pl.getD (Aak x).toNat 0).toNat == (x.1 == 27)))
def Ba5 (l : OpL) (pl : List Int) : Nat → Int → Bool → OpL → Bool
 | _, _, _, [] => true
 | i, d, f, x :: r => if x.1 = 24 then Ba5 l pl (i + 1) (2 + x.2.2) true r
  else dpB l pl i d f x && Ba5 l pl (i + 1) (Alg x d) (if x.1 = 19 then f else Akb x.1) r
noncomputable def Ckw {R : Type} (N : Nat) (rc : Ati R) (d : Int) (p : Bool) (e : Int) (f : List UInt8) (g : Aar) (c : OpL) (h : Aa5) (i j : Int) (a l : List Int) (q : Bool → Option R) (b n o : Int) : Option R :=
 (Ab9 N b n o (fun m => if ((decide ((m > (0 : Int)))) = true) then (if (((0 : Int) ≤ m) ∧ (m < (len a))) then (Agn N c ((List.getD a (Int.toNat m) (0 : Int))) (fun r => if ((!(r == (b == (27 : Int)))) = true) then (q false) else (if ((b != (19 : Int)) = true) then (Abe N b n o (fun s => rc d s ((wi (e + (1 : Int)))) f g c h i j a l)) else (rc d p ((wi (e + (1 : Int)))) f g c h i j a l)))) else none) else (if ((b != (19 : Int)) = true) then (Abe N b n o (fun t => rc d t ((wi (e + (1 : Int)))) f g c h i j a l)) else (rc d p ((wi (e + (1 : Int)))) f g c h i j a l))))
noncomputable def B27 {R : Type} (N : Nat) (rc : Ati R) (d : Int) (a : Bool) (e : Int) (f : List UInt8) (g : Aar) (h : OpL) (i : Aa5) (j l : Int) (m n : List Int) (b : Bool → Option R) (c o p : Int) : Option R :=
 if ((c == (28 : Int)) = true) then (if (a = true) then (b false) else Ckw N rc d a e f g h i j l m n b c o p) else Ckw N rc d a e f g h i j l m n b c o p
theorem C41 {R : Type} (N : Nat) (rc : Ati R) (g : Int) (q : Bool) (a : Int) (h : List UInt8) (i : Aar) (b : OpL) (j : Aa5) (l m : Int) (n o : List Int) (c : Bool → Option R) (s : Option R) :
  Bk8 @Ai5 @Ahp @Aay @Ahq @Ab9 @Agn @Abe N rc g q a h i b j l m n o c s =
  if ((decide ((a < (len b)))) = true) then (if (((0 : Int) ≤ a) ∧ (a < (len b))) then (let d := (List.getD b (Int.toNat a) ((0 : Int), ((0 : Int), (0 : Int)))).1; let f := (List.getD b (Int.toNat a) ((0 : Int), ((0 : Int), (0 : Int)))).2.1; let e := (List.getD b (Int.toNat a) ((0 : Int), ((0 : Int), (0 : Int)))).2.2; if ((d == (24 : Int)) = true) then (rc ((wi ((2 : Int) + e))) true ((wi (a + (1 : Int)))) h i b j l m n o) else (Ai5 N d f e g (fun p => if ((d == (18 : Int)) = true) then (let r := (wi (a - (1 : Int))); if (((0 : Int) ≤ r) ∧ (r < (len b))) then (Ahp N d f e (fun t => if ((decide (((wi (g - t)) < (2 : Int)))) = true) then (c false) else (Aay N p 2 4000 (fun u => if ((!u) = true) then (c false) else (if ((!((List.getD b (Int.toNat r) ((0 : Int), ((0 : Int), (0 : Int)))).1 == (19 : Int))) = true) then (Ahq N d f e g (fun v => if ((!v) = true) then (c false) else B27 N rc p q a h i b j l m n o c d f e)) else B27 N rc p q a h i b j l m n o c d f e))))) else none)
   else (Ahp N d f e (fun w => if ((decide (((wi (g - w)) < (2 : Int)))) = true) then (c false) else (Aay N p 2 4000 (fun x => if ((!x) = true) then (c false) else (Ahq N d f e g (fun y => if ((!y) = true) then (c false) else B27 N rc p q a h i b j l m n o c d f e))))))))) else none) else s := rfl
theorem C42 {R : Type} (N : Nat) (rc : Ati R) (a : Int) (f : Bool) (i : Nat) (nm : List UInt8) (data : Aar) (l : OpL) (gl : Aa5) (procs labels : Int) (pl pr : List Int) (b : Bool → Option R) (x : Int × Int × Int)
  (hl : l.length ≤ 1099511627776) (hN : l.length < N) (ho : Ag1 0 l = true) (hi : i < l.length) (hn : 0 < Aak x → 0 ≤ Aak x ∧ Aak x < pl.length ∧ 0 ≤ pl.getD (Aak x).toNat 0 ∧ pl.getD (Aak x).toNat 0 < l.length) :
  Ckw N rc a f i nm data l gl procs labels pl pr b x.1 x.2.1 x.2.2 = if (decide (Aak x ≤ 0) || (Bnl l (pl.getD (Aak x).toNat 0).toNat == (x.1 == 27))) = true then rc a (if x.1 = 19 then f else Akb x.1) ((i + 1 : Nat) : Int) nm data l gl procs labels pl pr else b false := by
 have fin : (if ((x.1 != (19 : Int)) = true) then (Abe N x.1 x.2.1 x.2.2 (fun c => rc a c ((wi ((i : Int) + (1 : Int)))) nm data l gl procs labels pl pr)) else (rc a f ((wi ((i : Int) + (1 : Int)))) nm data l gl procs labels pl pr)) = rc a (if x.1 = 19 then f else Akb x.1) ((i + 1 : Nat) : Int) nm data l gl procs labels pl pr := by
  rw [Bx3, Abh (by omega)]
  by_cases h : x.1 = 19
  ·rw [if_neg (by simp [h]), if_pos h]
  ·rw [if_pos (by simpa using h), if_neg h]
 unfold Ckw
 rw [B1k, show (x.1, x.2.1, x.2.2) = x from rfl]
 by_cases h0 : Aak x > 0
 ·have hn' := hn h0
  rw [if_pos (by simpa using h0), if_pos (by simp only [len]; omega), Co3 N l _ hl hN ho hn'.2.2.1 hn'.2.2.2, show decide (Aak x ≤ 0) = false from decide_eq_false (by omega), Bool.false_or]
  cases Bnl l (pl.getD (Aak x).toNat 0).toNat == (x.1 == 27)
  ·rfl
  ·rw [if_neg (by decide), if_pos rfl]; exact fin
 ·rw [if_neg (by simpa using h0), show decide (Aak x ≤ 0) = true from decide_eq_true (by omega), Bool.true_or, if_pos rfl]; exact fin
theorem C7b {R : Type} (N : Nat) (rc : Ati R) (a : Int) (f : Bool) (i : Nat) (nm : List UInt8) (data : Aar) (l : OpL) (gl : Aa5) (procs labels : Int) (pl pr : List Int) (b : Bool → Option R) (x : Int × Int × Int)
  (hl : l.length ≤ 1099511627776) (hN : l.length < N) (ho : Ag1 0 l = true) (hi : i < l.length) (hn : 0 < Aak x → 0 ≤ Aak x ∧ Aak x < pl.length ∧ 0 ≤ pl.getD (Aak x).toNat 0 ∧ pl.getD (Aak x).toNat 0 < l.length) :
  B27 N rc a f i nm data l gl procs labels pl pr b x.1 x.2.1 x.2.2 = if ((x.1 != 28 || !f) && (decide (Aak x ≤ 0) || (Bnl l (pl.getD (Aak x).toNat 0).toNat == (x.1 == 27)))) = true then rc a (if x.1 = 19 then f else Akb x.1) ((i + 1 : Nat) : Int) nm data l gl procs labels pl pr else b false := by
 unfold B27
 rw [C42 N rc a f i nm data l gl procs labels pl pr b x hl hN ho hi hn]
 by_cases h : x.1 = 28
 ·rw [if_pos (by simpa using h), show (x.1 != 28) = false by rw [h]; rfl]
  cases f
  ·rfl
  ·rfl
 ·rw [if_neg (by simpa using h), show (x.1 != 28) = true from bne_iff_ne.mpr h]; rfl
theorem C43 {R : Type} (N : Nat) (nm : List UInt8) (data : Aar) (l : OpL) (gl : Aa5) (procs labels : Int) (pl pr : List Int) (nd : Int) (hp : procs ≤ 200) (hl : l.length ≤ 1099511627776) (hN : l.length < N) (ho : Ag1 0 l = true) (hf : An5 l = true)
  (hall : ∀ x, x ∈ l → Ais nd procs labels x = true) (hn : ∀ x, x ∈ l → 0 < Aak x → 0 ≤ Aak x ∧ Aak x < pl.length ∧ 0 ≤ pl.getD (Aak x).toNat 0 ∧ pl.getD (Aak x).toNat 0 < l.length) (g : Bool → Option R) (j : Option R) :
  ∀ (k i : Nat) (d : Int) (f : Bool), i ≤ l.length → l.length - i < k → 0 ≤ d ∧ d ≤ 4000 →
   Ahd N k d f i nm data l gl procs labels pl pr g j = if Ba5 l pl i d f (l.drop i) = true then j else g false := by
 intro k
 induction k with
 | zero => intro i _ _ _ h; omega
 | succ k ih =>
  intro i d f hi hk hd
  simp only [Ahd, C41]
  by_cases hlt : i < l.length
  case neg =>
   rw [if_neg (by simp [len]; omega), List.drop_eq_nil_of_le (by omega)]; rfl
  have hin : (0 : Int) ≤ i ∧ (i : Int) < len l := by simp only [len]; omega
  have hx' := hall l[i] (List.getElem_mem hlt)
  have hn' := hn l[i] (List.getElem_mem hlt)
  have h0i : i = 0 → (l[i]).1 = 24 := by
   rintro rfl
   cases l with
   | nil => simp at hlt
   | cons y r => simpa [An5, Afp] using hf
  rw [if_pos (by simp [len]; omega), if_pos hin, Ad2 _ _ hlt, List.drop_eq_getElem_cons hlt, Ba5]
  obtain ⟨x, hx⟩ : ∃ x, l[i] = x := ⟨_, rfl⟩
  simp only [hx] at hx' hn' h0i ⊢
  have hop := Bfs hx'
  by_cases h24 : x.1 = 24
  ·have hm := Cgx hp hx' (.inl h24)
   have hm8 : x.2.2 ≤ 8 := by
    obtain ⟨a, b, c⟩ := x
    simp only at h24; subst h24
    simp [Ais, Axf, inB] at hx'
    simp only; omega
   rw [if_pos (by simpa using h24), if_pos h24, Ac8 (i := 2 + x.2.2) (by omega) (by omega), Abh (by omega)]
   exact ih (i + 1) (2 + x.2.2) true (by omega) (by omega) (by omega)
  rw [if_neg (by simpa using h24), if_neg h24, Co0 N x d hop hd (Cgx hp hx')]
  have hip : 0 < i := by
   rcases Nat.eq_zero_or_pos i with h | h
   ·exact absurd (h0i h) h24
   ·exact h
  have hkt := Cor x.1
  have hwn : wi (d - (kT x.1).2.2.1) = d - (kT x.1).2.2.1 := Ac8 (by omega) (by omega)
  have mid : B27 N (fun m n o p q s t u v w z => Ahd N k m n o p q s t u v w z g j) (Alg x d) f i nm data l gl procs labels pl pr g x.1 x.2.1 x.2.2 = _ := C7b N _ (Alg x d) f i nm data l gl procs labels pl pr g x hl hN ho hlt hn'
  have step : ∀ e : Bool, e = ((x.1 == 18 && Bdo l i) || Cxh x d) → (if (decide (wi (d - (kT x.1).2.2.1) < 2)) = true then g false else if (!inB (Alg x d) 2 4000) = true then g false else if (!e) = true then g false else B27 N (fun m n o p q s t u v w z => Ahd N k m n o p q s t u v w z g j) (Alg x d) f i nm data l gl procs labels pl pr g x.1 x.2.1 x.2.2) =
    if (dpB l pl i d f x && Ba5 l pl (i + 1) (Alg x d) (if x.1 = 19 then f else Akb x.1) (l.drop (i + 1))) = true then j else g false := by
   intro e he
   unfold dpB
   rw [C7a x d _ h24, ← he, hwn]
   by_cases c1 : d - (kT x.1).2.2.1 < 2
   ·rw [if_pos (by simpa using c1), show decide (2 ≤ d - (kT x.1).2.2.1) = false from decide_eq_false (by omega)]; simp
   rw [if_neg (by simpa using c1), show decide (2 ≤ d - (kT x.1).2.2.1) = true from decide_eq_true (by omega), Bool.and_true]
   by_cases c2 : 2 ≤ Alg x d
   case neg =>
    rw [if_pos (by unfold inB; simp; omega), show decide (2 ≤ Alg x d) = false from decide_eq_false c2]; simp
   by_cases c3 : Alg x d ≤ 4000
   case neg =>
    rw [if_pos (by unfold inB; simp; omega), show decide (Alg x d ≤ 4000) = false from decide_eq_false c3]; simp
   rw [if_neg (by unfold inB; simp; omega), show decide (2 ≤ Alg x d) = true from decide_eq_true c2, show decide (Alg x d ≤ 4000) = true from decide_eq_true c3, Bool.and_true, Bool.and_true]
   cases e
   ·rfl
   rw [if_neg (by decide), mid, Bool.true_and]
   cases hc : ((x.1 != 28 || !f) && (decide (Aak x ≤ 0) || (Bnl l (pl.getD (Aak x).toNat 0).toNat == (x.1 == 27))))
   ·rfl
   ·rw [if_pos rfl, Bool.true_and]
    exact ih (i + 1) (Alg x d) _ (by omega) (by omega) (by omega)
  simp only [Co1 N x hop, Atz, Co2 N x d hd]
  by_cases h18 : x.1 = 18
  ·have hw : wi ((i : Int) - 1) = ((i - 1 : Nat) : Int) := by rw [Ac8 (by omega) (by omega)]; omega
   rw [if_pos (by simpa using h18), hw, if_pos (by simp only [len]; omega), Int.toNat_natCast]
   have hpv : Bdo l i = ((Ab8 l (i - 1)).1 == 19) := by unfold Bdo; rw [show decide (0 < i) = true from decide_eq_true hip, Bool.true_and]
   refine Eq.trans ?_ (step _ rfl)
   rw [hpv, show (x.1 == 18) = true by rw [h18]; rfl, Bool.true_and]
   show (if decide (wi (d - (kT x.1).2.2.1) < 2) = true then g false else if (!inB (Alg x d) 2 4000) = true then g false else if (!(Ab8 l (i - 1)).1 == 19) = true then _ else _) = _
   cases (Ab8 l (i - 1)).1 == 19 <;> rfl
  ·rw [if_neg (by simpa using h18)]
   refine Eq.trans ?_ (step _ rfl)
   rw [show (x.1 == 18) = false from beq_eq_false_iff_ne.mpr h18]; rfl
def A2q : OpL → Option Int
 | [] => none
 | x :: r => if x.1 = 19 then A2q r else some x.1
theorem Cdk : ∀ (l : OpL) (h : A0c l < l.length), A2q l = some (Ab8 l (A0c l)).1
 | [], h => by simp [A0c] at h
 | x :: r, h => by
  rw [A0c] at h ⊢
  rw [A2q]
  split
  ·rename_i h19
   rw [if_pos h19] at h
   rw [Cdk r (by simp at h; omega)]; rfl
  ·rfl
theorem Cpt {l : OpL} (ho : Ag1 0 l = true) {j : Nat} (hj : j < l.length) : A2q (l.drop j) = some (Ab8 l (Aef l j)).1 := by
 have h := A2t ho hj
 rw [Cdk _ (by rw [List.length_drop]; unfold Aef at h; omega)]
 unfold Ab8 Aef
 rw [Cpo]
theorem Ckx (l : OpL) (pl : List Int) : ∀ (r : OpL) (i : Nat) (d : Int), A2q r = some 28 → Ba5 l pl i d true r = false
 | [], _, _, h => by cases h
 | x :: r, i, d, h => by
  rw [A2q] at h
  rw [Ba5]
  by_cases h19 : x.1 = 19
  ·rw [if_pos h19] at h
   rw [if_neg (by omega), if_pos h19, Ckx l pl r (i + 1) _ h, Bool.and_false]
  ·rw [if_neg h19] at h
   injection h with h
   rw [if_neg (by omega)]
   have : dpB l pl i d true x = false := by
    unfold dpB
    rw [h]; simp
   rw [this, Bool.false_and]
theorem C7c (l : OpL) (o pl : List Int) (hol : Ag1 0 l = true) (hrel : ∀ x, x ∈ l → 0 < Aak x → pl.getD (Aak x).toNat 0 = o.getD (Aak x).toNat 0)
  (hop : ∀ x, x ∈ l → 1 ≤ x.1 ∧ x.1 ≤ 30 ∧ (x.1 = 29 → 0 ≤ x.2.2) ∧ (x.1 = 24 → 0 ≤ x.2.2 ∧ x.2.2 ≤ 8)) :
  ∀ (r : OpL) (i c : Nat) (d : Int) (f : Bool), l.drop i = r → Ag1 c r = true → (f = true → A2q r ≠ some 28) → Bzb l o i d r = Ba5 l pl i d f r := by
 intro r
 induction r with
 | nil => intros; rfl
 | cons x r ih =>
  intro i c d f hd hc hf
  have hlt : i < l.length := by
   rcases Nat.lt_or_ge i l.length with h | h
   ·exact h
   ·rw [List.drop_eq_nil_of_le h] at hd; cases hd
  have hdc := hd
  rw [List.drop_eq_getElem_cons hlt] at hdc
  have hx : l[i] = x := (List.cons.inj hdc).1
  have hr : l.drop (i + 1) = r := (List.cons.inj hdc).2
  have hm : x ∈ l := by rw [← hx]; exact List.getElem_mem hlt
  have hop' := hop x hm
  have hoa : Ab8 l i = x := by rw [A5t hlt]; exact hx
  rw [Cpr c x r hop'.1] at hc
  simp only [Bool.and_eq_true] at hc
  obtain ⟨⟨⟨hc1, hc2⟩, hc3⟩, hc4⟩ := hc
  rw [Bzb, Ba5]
  have hG : ∀ f2 : Bool, (f2 = if x.1 = 19 then f else Akb x.1) → ∀ d2, (x.1 == 19 || A0b l i || decide (l.length ≤ i + 1) || (Ab8 l (Aef l (i + 1))).1 != 28) = true → Bzb l o (i + 1) d2 r = Ba5 l pl (i + 1) d2 f2 r := by
   intro f2 hf2 d2 hg
   refine ih (i + 1) _ d2 f2 hr hc4 ?_
   intro h1
   by_cases h19 : x.1 = 19
   ·rw [if_pos h19] at hf2
    have := hf (by rw [← hf2]; exact h1)
    rw [A2q, if_pos h19] at this; exact this
   ·rw [if_neg h19] at hf2
    have hgo : Akb x.1 = true := by rw [← hf2]; exact h1
    have hne : A0b l i = false := by
     unfold A0b
     rw [hoa]
     simp only [Akb, Bool.and_eq_true, bne_iff_ne, ne_eq] at hgo
     rw [if_neg (by omega), if_neg (by omega), if_neg (by omega)]
    rw [hne, show (x.1 == 19) = false from beq_eq_false_iff_ne.mpr h19, Bool.false_or, Bool.false_or] at hg
    by_cases h2 : i + 1 < l.length
    ·rw [show decide (l.length ≤ i + 1) = false from decide_eq_false (by omega), Bool.false_or, bne_iff_ne] at hg
     rw [← hr, Cpt hol h2]
     intro h; injection h with h; exact hg h
    ·rw [← hr, List.drop_eq_nil_of_le (by omega)]; simp [A2q]
  have hG0 : (x.1 == 19 || A0b l i || decide (l.length ≤ i + 1) || (Ab8 l (Aef l (i + 1))).1 != 28) = false → ∀ d2, Ba5 l pl (i + 1) d2 (if x.1 = 19 then f else Akb x.1) r = false := by
   intro hg d2
   simp only [Bool.or_eq_false_iff, beq_eq_false_iff_ne, decide_eq_false_iff_not, bne_eq_false_iff_eq] at hg
   obtain ⟨⟨⟨g1, g2⟩, g3⟩, g4⟩ := hg
   have hnl : A2q r = some 28 := by rw [← hr, Cpt hol (by omega), g4]
   rw [if_neg g1]
   have hgo : Akb x.1 = true := by
    unfold A0b at g2
    rw [hoa] at g2
    simp only at g2
    by_cases e1 : x.1 = 20 ∨ x.1 = 25 ∨ x.1 = 26 ∨ x.1 = 27
    ·rw [if_pos e1] at g2; cases g2
    rw [if_neg e1] at g2
    by_cases e2 : x.1 = 29
    ·rw [if_pos e2] at g2
     rw [if_pos e2] at hc4
     have h3 := hop'.2.2.1 e2
     have h4 : x.2.2 ≠ 0 := by simpa using g2
     obtain ⟨q, hq⟩ : ∃ q, x.2.2.toNat = q + 1 := ⟨x.2.2.toNat - 1, by omega⟩
     rw [hq] at hc4
     cases r with
     | nil => simp [Ag1] at hc4
     | cons y r =>
      simp only [Ag1, Bool.and_eq_true, beq_iff_eq] at hc4
      rw [A2q, if_neg (by omega), hc4.1] at hnl
      simp at hnl
    rw [if_neg e2] at g2
    by_cases e3 : x.1 = 30
    ·rw [if_pos e3] at g2
     simp only [Bool.or_eq_false_iff, decide_eq_false_iff_not, bne_eq_false_iff_eq] at g2
     have h5 : i + 1 < l.length := by omega
     rw [← hr, List.drop_eq_getElem_cons h5, A2q, ← A5t h5, g2.2] at hnl
     simp at hnl
    ·unfold Akb
     simp only [Bool.and_eq_true, bne_iff_ne, ne_eq]
     omega
   rw [hgo]
   exact Ckx l pl r (i + 1) d2 hnl
  unfold B20
  by_cases h24 : x.1 = 24
  ·have hm8 := hop'.2.2.2 h24
   have ha : Alg x d = 2 + x.2.2 := by unfold Alg; rw [if_neg (by omega), if_pos h24]
   have hfit : Bqm x d (Bdo l i) = true := by unfold Bqm; rw [h24]; rfl
   have hnm : Aak x = 0 := by unfold Aak; rw [if_neg (by omega), if_neg (by omega)]
   rw [if_pos h24, hfit, ha, hnm, show decide (2 ≤ 2 + x.2.2) = true from decide_eq_true (by omega), show decide (2 + x.2.2 ≤ 4000) = true from decide_eq_true (by omega)]
   have hgt : (if x.1 = 19 then f else Akb x.1) = true := by rw [h24]; rfl
   have h1 := hG true hgt.symm (2 + x.2.2)
   have h2 := fun h => hG0 h (2 + x.2.2)
   rw [hgt] at h2
   cases hg : (x.1 == 19 || A0b l i || decide (l.length ≤ i + 1) || (Ab8 l (Aef l (i + 1))).1 != 28)
   ·rw [h2 hg]; rfl
   ·rw [h1 hg]; rfl
  rw [if_neg h24]
  unfold dpB
  have hrel' := hrel x hm
  have hx28 : (x.1 != 28 || !f) = true := by
   by_cases h28 : x.1 = 28
   ·cases f
    ·simp
    ·have := hf rfl
     rw [A2q, if_neg (by omega), h28] at this
     exact absurd rfl this
   ·rw [show (x.1 != 28) = true from bne_iff_ne.mpr h28]; rfl
  have hnm : (decide (Aak x ≤ 0) || (((Ab8 l (Aef l (o.getD (Aak x).toNat 0).toNat)).1 == 28) == (x.1 == 27))) = (decide (Aak x ≤ 0) || (Bnl l (pl.getD (Aak x).toNat 0).toNat == (x.1 == 27))) := by
   by_cases h0 : 0 < Aak x
   ·rw [hrel' h0]; rfl
   ·rw [show decide (Aak x ≤ 0) = true from decide_eq_true (by omega)]; rfl
  rw [hx28, hnm, Bool.and_true]
  have h1 := hG _ rfl (Alg x d)
  have h2 := fun h => hG0 h (Alg x d)
  cases hg : (x.1 == 19 || A0b l i || decide (l.length ≤ i + 1) || (Ab8 l (Aef l (i + 1))).1 != 28)
  ·rw [h2 hg]; simp
  ·rw [h1 hg, Bool.and_true]
   cases Bqm x d (Bdo l i) <;> cases decide (2 ≤ Alg x d) <;> cases decide (Alg x d ≤ 4000) <;> cases (decide (Aak x ≤ 0) || (Bnl l (pl.getD (Aak x).toNat 0).toNat == (x.1 == 27))) <;> rfl
theorem C24 {R : Type} (N : Nat) (nm : List UInt8) (data : Aar) (l : OpL) (gl : Aa5) (procs labels : Int) (hl : l.length ≤ 1099511627776) (hd : data.length ≤ 2000) (hp : procs ≤ 200) (hb : labels ≤ 20000)
  (a : Int → Option R) (b : List UInt8 → Aar → OpL → Aa5 → Int → Int → Option R) :
  ∀ (k i : Nat), i ≤ l.length → l.length - i < k →
   Agy N k i nm data l gl procs labels a b = if (l.drop i).all (Ais data.length procs labels) then b nm data l gl procs labels else a 60 := by
 intro k
 induction k with
 | zero => intro i _ h; omega
 | succ k ih =>
  intro i hi hk
  simp only [Agy, Be6]
  by_cases hlt : i < l.length
  case neg =>
   rw [if_neg (by simp [len]; omega), List.drop_eq_nil_of_le (by omega)]
   simp
  have hin : (0 : Int) ≤ i ∧ (i : Int) < len l := by simp only [len]; omega
  rw [if_pos (by simp [len]; omega), if_pos hin, Ad2 _ _ hlt, Abh (by omega), List.drop_eq_getElem_cons hlt, List.all_cons, Cgu N _ _ _ nm data l gl procs labels hd hp hb]
  have : (inB l[i].1 1 30 && Axf l[i].1 l[i].2.1 l[i].2.2 data.length procs labels) = Ais data.length procs labels l[i] := rfl
  rw [this, ih (i + 1) (by omega) (by omega)]
  cases Ais data.length procs labels l[i] <;> rfl
theorem C44 {nd procs labels : Int} {x : Int × Int × Int} (h : Ais nd procs labels x = true) (h24 : x.1 = 24) : 0 ≤ x.2.2 ∧ x.2.2 ≤ 8 := by
 obtain ⟨op, n, m⟩ := x
 simp only at h24; subst h24
 simp [Ais, Axf, inB] at h
 exact h.2
theorem Bly {R : Type} {N : Nat} {nm : List UInt8} {data : Aar} {gl : Aa5} (F : Bcu N nm data gl) (l : OpL) (procs labels : Int) (K : Int → Option R) :
  Adc N nm data l gl procs labels K = K (Aub nm data l gl procs labels) := by
 have hN := F.N1
 simp only [Adc, Bp3]
 rw [Cgv N _ _ _ _ _ _ F.d0 (by omega)]
 unfold Aub
 cases h : Avm data l procs labels
 case true => rfl
 simp only [Avm, Bool.or_eq_false_iff, decide_eq_false_iff_not] at h
 simp only [Bool.false_eq_true, if_false]
 unfold A90
 by_cases c1 : procs < 0
 ·rw [if_pos (by simpa using c1), show decide (0 ≤ procs) = false from decide_eq_false (by omega)]; simp
 rw [if_neg (by simpa using c1)]
 by_cases c2 : labels < 0
 ·rw [if_pos (by simpa using c2), show decide (0 ≤ labels) = false from decide_eq_false (by omega)]; simp
 rw [if_neg (by simpa using c2), Con N nm data l gl procs labels F.d1 (by omega) F.d3 (by omega) F.g1 F.g2 F.n2 F.n1]
 rw [show decide (0 ≤ procs) = true from decide_eq_true (by omega), show decide (0 ≤ labels) = true from decide_eq_true (by omega)]
 cases c3 : Ayc nm == 0
 case false => simp
 rw [Bool.and_true, Bool.and_true, Bool.and_true, Bool.true_and]
 have hloop := C24 (R := R) N nm data l gl procs labels (by omega) (by omega) (by omega) (by omega) (fun j => K j) (fun c d e f g i => Ajz N c d e f g i (fun m => if ((!m) = true) then (K 60) else (Aiq N c d e f g i (fun n s t => if ((!n) = true) then (K 60) else (Alx N c d e f g i s t (fun A => if ((!A) = true) then (K 61) else (K 0))))))) N 0 (by omega) (by omega)
 rw [List.drop_zero, show ((0 : Nat) : Int) = 0 from rfl] at hloop
 cases c4 : Bvp data gl procs
 case false =>
  rw [if_pos (by decide)]
  cases Apq l procs labels with
  | none => simp
  | some q => obtain ⟨b, o, a⟩ := q; simp
 rw [if_neg (by decide)]
 refine Eq.trans hloop ?_
 by_cases hn : l.all (Ais data.length procs labels) = true
 case neg =>
  rw [if_neg hn, show l.all (Ais data.length procs labels) = false by simpa using hn]; rfl
 rw [if_pos hn, hn, Bool.true_and]
 have hall : ∀ o, o ∈ l → Ais data.length procs labels o = true := List.all_eq_true.mp hn
 rw [C40 N nm data l gl procs labels (by omega) (by omega) (fun o ho => (Bfs (hall o ho)).1) (fun o ho h => Cgw (hall o ho) h)]
 cases c5 : Ag1 0 l && An5 l
 case false =>
  rw [if_pos (by simp)]
  cases Apq l procs labels with
  | none => simp
  | some q => obtain ⟨b, o, a⟩ := q; simp
 simp only [Bool.and_eq_true] at c5
 rw [Bool.true_and]
 have hL : ∀ o, o ∈ l → o.1 = 19 → 1 ≤ o.2.1 ∧ o.2.1 ≤ labels := fun o ho h => Bvq (hall o ho) h
 have hnm : ∀ x, x ∈ l → Aak x = 0 ∨ (1 ≤ Aak x ∧ Aak x ≤ labels) := fun x hx => Bmc (hall x hx)
 have hrel := C22 l procs labels (by omega) c5.2 hL hnm
 have hcode : (match Apq l procs labels with | none => false | some (b, o, a) => b && true && true && A1r 0 l o a) = (Bzf l 0 0 procs labels && (Bf5 l labels).isSome) := by
  rw [← hrel.1]
  cases Apq l procs labels with
  | none => rfl
  | some q => obtain ⟨b, o, a⟩ := q; simp
 refine Eq.trans ?_ (congrArg (fun b : Bool => K (if b = true then (if A91 l procs labels = true then 0 else 61) else 60)) hcode.symm)
 rw [C21 N nm data l gl procs labels (by omega) (by omega) ⟨by omega, by omega⟩ (by omega) hL hnm _ (fun a b a' b' => rfl)]
 cases c6 : Bzf l 0 0 procs labels
 case false => rfl
 rw [if_neg (by decide), Bool.true_and]
 cases hpl : Bf5 l labels with
 | none => rfl
 | some q =>
  obtain ⟨pl, pr⟩ := q
  simp only [Option.isSome_some, Bool.not_true, Bool.false_eq_true, if_false]
  rw [c6, hpl] at hrel
  cases hp : Apq l procs labels with
  | none =>
   rw [hp] at hrel
   exact absurd hrel.1 (by simp)
  | some q =>
   obtain ⟨b, o, a⟩ := q
   have hr1 := hrel.1
   rw [hp] at hr1
   simp only [Option.isSome_some, Bool.and_true, Bool.and_eq_true] at hr1
   have hr2 := hrel.2 b o a pl pr hp hr1.2 rfl
   have hu := hr1.2
   have hlen := Bza hp
   simp only at hlen
   have hpll : pl.length = (labels + 1).toNat := by
    unfold Bf5 at hpl
    split at hpl
    ·cases hpl
    ·rename_i pl' pr' hq
     have := B1l _ _ _ _ _ _ hq
     split at hpl
     ·simp only [Option.some.injEq, Prod.mk.injEq] at hpl
      obtain ⟨rfl, rfl⟩ := hpl
      simpa using this.1
     ·cases hpl
   have huse : ∀ (r : OpL) (p : Int), A1r p r o a = true → ∀ x, x ∈ r → 0 < Aak x → o.getD (Aak x).toNat 0 ≠ 0 := by
    intro r
    induction r with
    | nil => intro p _ x hx; cases hx
    | cons y r ih =>
     intro p h x hx h0
     simp only [A1r, Bool.and_eq_true, Bool.or_eq_true, decide_eq_true_eq, bne_iff_ne, ne_eq, beq_iff_eq] at h
     rcases List.mem_cons.mp hx with rfl | hx
     ·rcases h.1 with h | h
      ·omega
      ·exact h.2
     ·exact ih _ h.2 x hx h0
   have hov := Cdj hp
   have hre : ∀ x, x ∈ l → 0 < Aak x → (pl.getD (Aak x).toNat 0 = o.getD (Aak x).toNat 0) ∧ 0 ≤ Aak x ∧ Aak x < pl.length ∧ 0 ≤ pl.getD (Aak x).toNat 0 ∧ pl.getD (Aak x).toNat 0 < l.length := by
    intro x hx h0
    have h1 := hnm x hx
    have h2 := huse l 0 hu x hx h0
    have h3 := hr2 (Aak x).toNat (by omega)
    have h4 := hov (Aak x).toNat
    simp only at h4
    rcases h3 with ⟨e1, e2⟩ | ⟨e1, e2, e3, e4⟩
    ·exfalso
     have huse2 : ∀ (r : OpL) (p : Int), A1r p r o a = true → (p = 0 → Afp r = none ∨ Afp r = some 24) → 0 ≤ p → (∀ y, y ∈ r → y.1 = 24 → 1 ≤ y.2.1) → ∀ x, x ∈ r → 0 < Aak x → a.getD (Aak x).toNat 0 ≠ 0 := by
      intro r
      induction r with
      | nil => intro p _ _ _ _ x hx; cases hx
      | cons y r ih =>
       intro p h hp0 hp h24 x hx h0
       simp only [A1r, Bool.and_eq_true, Bool.or_eq_true, decide_eq_true_eq, bne_iff_ne, ne_eq, beq_iff_eq] at h
       have hp1 : 1 ≤ (if y.1 = 24 then y.2.1 else p) := by
        split
        ·rename_i h; exact h24 y (by simp) h
        ·rename_i hy
         rcases Int.lt_or_le 0 p with h | h
         ·omega
         ·have := hp0 (by omega)
          simp only [Afp] at this
          rcases this with h | h
          ·cases h
          ·injection h with h; exact absurd h hy
       rcases List.mem_cons.mp hx with rfl | hx
       ·rcases h.1 with h | h
        ·omega
        ·omega
       ·exact ih _ h.2 (by omega) (by omega) (fun z hz => h24 z (by simp [hz])) x hx h0
     have hf := c5.2
     unfold An5 at hf
     simp only [Bool.or_eq_true, beq_iff_eq] at hf
     exact huse2 l 0 hu (fun _ => hf) (by omega) (fun y hy h => by
      have := hall y hy
      obtain ⟨u, v, w⟩ := y
      simp only at h; subst h
      simp [Ais, Axf, inB] at this
      exact this.1.1) x hx h0 e1
    ·exact ⟨e2, by omega, by omega, by omega, by omega⟩
   simp only [Alx, Bu7]
   have hd := C43 (R := R) N nm data l gl procs labels pl pr data.length (by omega) (by omega) (by omega) c5.1 c5.2 hall (fun x hx h0 => (hre x hx h0).2) (fun B => if (!B) = true then K 61 else K 0) (if (!true) = true then K 61 else K 0) N 0 0 false (by omega) (by omega) (by omega)
   rw [List.drop_zero, show ((0 : Nat) : Int) = 0 from rfl] at hd
   refine Eq.trans hd ?_
   have hsd := C7c l o pl c5.1 (fun x hx h0 => (hre x hx h0).1) (fun x hx => ⟨(Bfs (hall x hx)).1, (Bfs (hall x hx)).2, fun h => (Cgw (hall x hx) h).1, fun h => C44 (hall x hx) h⟩) l 0 0 0 false rfl c5.1 (fun h => by cases h)
   have hst : A91 l procs labels = Ba5 l pl 0 0 false l := by unfold A91; rw [hp]; exact hsd
   rw [hst]
   cases Ba5 l pl 0 0 false l <;> rfl
theorem C45 (v : Int) : cls v = Anj v := by
 unfold cls Anj
 repeat' split
 all_goals first | rfl | (exfalso; omega)
theorem C46 {c : Int} (h : 0 ≤ c ∧ c < 4) : wid c = Ahg c := by
 have : c = 0 ∨ c = 1 ∨ c = 2 ∨ c = 3 := by omega
 rcases this with rfl | rfl | rfl | rfl <;> decide
theorem C47 (op : Int) : ext op = Ahr op := by
 unfold ext Ahr
 repeat' split
 all_goals first | rfl | (exfalso; omega)
def Auc (op : Int) : Bool := op == 20 || op == 21 || op == 22 || op == 27 || op == 29
theorem A94 {R : Type} (N : Nat) (op : Int) (K : Bool → Option R) : Aaw N op K = K (Auc op) := by
 unfold Aaw Auc
 cases op == 20 <;> cases op == 21 <;> cases op == 22 <;> cases op == 27 <;> rfl
def k0R (x : Int × Int × Int) : Int := if Auc x.1 = true ∨ x.1 = 19 then 0 else Anj x.2.1
def B9k (l : OpL) : Nat → OpL → List Int → List Int
 | _, [], b => b
 | i, x :: r, b => B9k l (i + 1) r (if x.1 = 19 then b.set x.2.1.toNat (Aef l i) else b)
structure Chk (nd procs labels : Int) (l : OpL) : Prop where
 all : ∀ x, x ∈ l → Ais nd procs labels x = true
 ord : Ag1 0 l = true
 fst : An5 l = true
 lb : 0 ≤ labels ∧ labels ≤ 20000
 len : l.length ≤ 40000
 pr : procs ≤ 200
theorem Cxi {nm : List UInt8} {data : Aar} {l : OpL} {gl : Aa5} {procs labels : Int} (h : Aub nm data l gl procs labels = 0) : Chk data.length procs labels l := by
 obtain ⟨h1, h2, h3⟩ := A5u h
 have ha := Cpp h2
 simp only [Avm, Bool.or_eq_false_iff, decide_eq_false_iff_not] at h1
 simp only [A90, Bool.and_eq_true, decide_eq_true_eq] at h2
 obtain ⟨⟨⟨⟨_, hp0⟩, hl0⟩, hn⟩, hc⟩ := h2
 cases hp : Apq l procs labels with
 | none => rw [hp] at hc; cases hc
 | some r =>
  obtain ⟨b, o, a⟩ := r
  rw [hp] at hc
  simp only [Bool.and_eq_true] at hc
  exact ⟨ha, hc.1.1.2.1, hc.1.1.2.2, ⟨hl0, by omega⟩, by omega, by omega⟩
theorem C25 {R : Type} (N : Nat) (l : OpL) (hl : l.length ≤ 1099511627776) (a : Int) (nm : List UInt8) (data : Aar) (gl : Aa5) (procs labels op n m : Int) (ks pl lab : List Int) (K : Int → Int → List UInt8 → Aar → OpL → Aa5 → Int → Int → Int → Int → Int → List Int → List Int → List Int → Option R) :
  ∀ (k j : Nat), Aef l j < l.length → l.length - j < k → Ade N k a j nm data l gl procs labels op n m ks pl lab K = K a (Aef l j : Nat) nm data l gl procs labels op n m ks pl lab := by
 intro k
 induction k with
 | zero => intro j _ h; omega
 | succ k ih =>
  intro j hj hk
  have hjl : j < l.length := by unfold Aef at hj; omega
  have hin : (0 : Int) ≤ j ∧ (j : Int) < len l := by simp only [len]; omega
  have hd' : l.drop j = l[j] :: l.drop (j + 1) := List.drop_eq_getElem_cons hjl
  simp only [Ade, Blc]
  rw [if_pos hin, Ad2 _ _ hjl, Abh (by omega)]
  by_cases h19 : l[j].1 = 19
  ·have : Aef l j = Aef l (j + 1) := by unfold Aef; rw [hd', A0c, if_pos h19]; omega
   rw [if_pos (by simpa using h19), ih (j + 1) (by omega) (by omega), this]
  ·have : Aef l j = j := by unfold Aef; rw [hd', A0c, if_neg h19]; rfl
   rw [if_neg (by simpa using h19), this]
theorem Cxj {R : Type} (N : Nat) (i : Int) (nm : List UInt8) (data : Aar) (l : OpL) (gl : Aa5) (procs labels : Int) (x : Int × Int × Int) (ks pl lab : List Int) (hk : ks.length ≤ 1000000) (K : Int → List UInt8 → Aar → OpL → Aa5 → Int → Int → List Int → List Int → List Int → Option R) :
  Adq N i nm data l gl procs labels x.1 x.2.1 x.2.2 ks pl lab K = K i nm data l gl procs labels (ks ++ [k0R x]) pl lab := by
 have hs : ∀ v : Int, (ks.length + [v].length) * 8 ≤ 70368744177664 := fun v => by simp only [List.length_cons, List.length_nil]; omega
 simp only [Adq, Ble, Bi2, A94, Adf, if_pos (hs _), k0R, C45]
 cases h : Auc x.1
 ·by_cases h19 : x.1 = 19
  ·simp [h19]
  ·simp [h19]
 ·simp
theorem C48 {R : Type} (N : Nat) (nm : List UInt8) (data : Aar) (l : OpL) (gl : Aa5) (procs labels nd : Int) (hN : l.length < N) (C : Chk nd procs labels l) (pl : List Int) (K : List UInt8 → Aar → OpL → Aa5 → Int → Int → List Int → List Int → List Int → Option R) :
  ∀ (k i : Nat) (ks lab : List Int), i ≤ l.length → l.length - i < k → ks.length = i → (lab.length : Int) = labels + 1 →
  Ad8 N k i nm data l gl procs labels ks pl lab K = K nm data l gl procs labels (ks ++ (l.drop i).map k0R) pl (B9k l i (l.drop i) lab) := by
 have hl := C.len
 intro k
 induction k with
 | zero => intro i _ _ _ h; omega
 | succ k ih =>
  intro i ks lab hi hk hks hlab
  simp only [Ad8, Bp6]
  by_cases hlt : i < l.length
  case neg =>
   rw [if_neg (by simp [len]; omega), List.drop_eq_nil_of_le (by omega)]; simp [B9k]
  have hin : (0 : Int) ≤ i ∧ (i : Int) < len l := by simp only [len]; omega
  have hx' := C.all l[i] (List.getElem_mem hlt)
  rw [if_pos (by simp [len]; omega), if_pos hin, Ad2 _ _ hlt, List.drop_eq_getElem_cons hlt, List.map_cons, B9k]
  obtain ⟨x, hx⟩ : ∃ x, l[i] = x := ⟨_, rfl⟩
  simp only [hx] at hx' ⊢
  by_cases h19 : x.1 = 19
  ·have hv := Bvq hx' h19
   rw [if_pos (by simpa using h19), if_pos h19, C25 N l (by omega) _ _ _ _ _ _ _ _ _ _ _ _ _ N i (A2t C.ord hlt) (by omega), if_pos (by simp only [len]; omega), Cxj N _ _ _ _ _ _ _ x _ _ _ (by omega), Abh (by omega),
    ih (i + 1) _ _ (by omega) (by omega) (by rw [List.length_append]; simp; omega) (by rw [List.length_set]; exact hlab), List.append_assoc]
   rfl
  ·rw [if_neg (by simpa using h19), if_neg h19, Cxj N _ _ _ _ _ _ _ x _ _ _ (by omega), Abh (by omega),
    ih (i + 1) _ _ (by omega) (by omega) (by rw [List.length_append]; simp; omega) hlab, List.append_assoc]
   rfl
def plc (l : OpL) (cs : List Int) (off : Int) : List Int := (Af4 l cs off).2 ++ [(Af4 l cs off).1]
theorem C7d {R : Type} (N : Nat) (l : OpL) (ks : List Int) (hc : ks.length = l.length) (hl : l.length ≤ 1000000) (hcs : ∀ n, 0 ≤ ks.getD n 0 ∧ ks.getD n 0 < 4) (a b : List Int) (K : Int → List Int → List Int → List Int → List Int → Option R) :
  ∀ (k i : Nat) (off : Int) (acc : List Int), i ≤ l.length → l.length - i < k → 0 ≤ off → off ≤ 9 * i → acc.length = i →
   Aft N k l off i ks a b acc K = K (Af4 (l.drop i) (ks.drop i) off).1 ks a b (acc ++ (Af4 (l.drop i) (ks.drop i) off).2) := by
 intro k
 induction k with
 | zero => intro i _ _ _ h; omega
 | succ k ih =>
  intro i off acc hi hk h0 h9 ha
  simp only [Aft, A9u]
  by_cases hlt : i < l.length
  case neg =>
   rw [if_neg (by simp [len]; omega), List.drop_eq_nil_of_le (by omega)]
   simp [Af4]
  have hltc : i < ks.length := by omega
  have hin : (0 : Int) ≤ i ∧ (i : Int) < len l := by simp only [len]; omega
  have hinc : (0 : Int) ≤ i ∧ (i : Int) < len ks := by simp only [len]; omega
  have hci := hcs i
  rw [show ks.getD i 0 = ks[i] by simp [List.getD_eq_getElem?_getD, hltc]] at hci
  have hw := Arx hci
  rw [if_pos (by simp [len]; omega), if_pos (by simp only [List.length_cons, List.length_nil]; omega), if_pos hin, Ad2 _ _ hlt, Abh (by omega), List.drop_eq_getElem_cons hlt, List.drop_eq_getElem_cons hltc, Af4]
  obtain ⟨x, hx⟩ : ∃ x, l[i] = x := ⟨_, rfl⟩
  simp only [hx, if_pos hin]
  have he := Ary x.1
  by_cases h19 : x.1 = 19
  ·rw [if_neg (by simpa using h19), if_pos h19, ih (i + 1) off _ (by omega) (by omega) h0 (by omega) (by simp [ha]), List.append_assoc]; rfl
  ·have hoff : wi (off + wi (wi (1 + Ahg ks[i]) + Ahr x.1)) = off + (1 + Ahg ks[i] + Ahr x.1) := by
    rw [Ac8 (i := 1 + Ahg ks[i]) (by omega) (by omega), Ac8 (i := 1 + Ahg ks[i] + Ahr x.1) (by omega) (by omega), Ac8 (by omega) (by omega)]
   rw [if_pos (by simpa using h19), if_neg h19, if_pos hinc, Ad2 _ _ hltc, Bi4, Bi3, C46 hci, C47, hoff, ih (i + 1) _ _ (by omega) (by omega) (by omega) (by omega) (by simp [ha]), List.append_assoc]; rfl
theorem C49 {R : Type} (N : Nat) (l : OpL) (ks : List Int) (hc : ks.length = l.length) (hl : l.length ≤ 1000000) (hN : l.length < N) (hcs : ∀ n, 0 ≤ ks.getD n 0 ∧ ks.getD n 0 < 4) (pl lab : List Int) (K : List Int → List Int → List Int → List Int → Option R) :
  Abp N l ks pl lab K = K ks pl lab (plc l ks 0) := by
 simp only [Abp, Bfk]
 have := C7d (R := R) N l ks hc hl hcs pl lab (fun a c d e b => if ((((List.length b) + (List.length (a :: ([] : List Int)))) * (8 : Nat)) ≤ (70368744177664 : Nat)) then (K c d e ((b ++ (a :: ([] : List Int))))) else none) N 0 0 [] (by omega) (by omega) (by omega) (by omega) rfl
 rw [List.drop_zero, List.drop_zero, List.nil_append] at this
 refine Eq.trans this ?_
 have hlen := Bft l ks 0 hc
 rw [if_pos (by simp only [List.length_cons, List.length_nil]; omega)]
 rfl
def Sim (l : OpL) (cs ks : List Int) : Prop := ks.length = cs.length ∧ (∀ i, i < l.length → (Ab8 l i).1 ≠ 19 → ks.getD i 0 = cs.getD i 0) ∧ ∀ n, 0 ≤ ks.getD n 0 ∧ ks.getD n 0 < 4
theorem Bvt : ∀ (l : OpL) (cs ks : List Int) (off : Int), cs.length = l.length → Sim l cs ks → Af4 l ks off = Af4 l cs off
 | [], [], ks, off, _, h => by
  have := h.1
  simp only [List.length_nil] at this
  rw [List.eq_nil_of_length_eq_zero this]
 | x :: r, c :: cs, ks, off, hl, h => by
  match ks, h.1 with
  | k :: ks, hk =>
   have hs : Sim r cs ks := ⟨by simpa using hk, fun i hi hne => h.2.1 (i + 1) (by simpa using hi) hne, fun n => h.2.2 (n + 1)⟩
   simp only [Af4]
   by_cases h19 : x.1 = 19
   ·simp only [if_pos h19]; rw [Bvt r cs ks off (by simpa using hl) hs]
   ·have : k = c := h.2.1 0 (by simp) h19
    subst this
    simp only [if_neg h19]; rw [Bvt r cs ks _ (by simpa using hl) hs]
theorem Cg3 : ∀ (l : OpL) (cs : List Int) (off : Int), cs.length = l.length → ∀ i, i < l.length →
  (plc l cs off).getD (i + 1) 0 = (Af4 l cs off).2.getD i 0 + (if (Ab8 l i).1 = 19 then 0 else 1 + Ahg (cs.getD i 0) + Ahr (Ab8 l i).1)
 | x :: r, c :: cs, off, hl, i, hi => by
  have hl' : cs.length = r.length := by simpa using hl
  have e : plc (x :: r) (c :: cs) off = off :: plc r cs (if x.1 = 19 then off else off + (1 + Ahg c + Ahr x.1)) := by simp [plc, Af4]
  rw [e, List.getD_cons_succ]
  cases i with
  | zero =>
   have h0 : (plc r cs (if x.1 = 19 then off else off + (1 + Ahg c + Ahr x.1))).getD 0 0 = (if x.1 = 19 then off else off + (1 + Ahg c + Ahr x.1)) := by
    cases r with
    | nil => cases cs with
     | nil => rfl
     | cons _ _ => simp at hl'
    | cons y r => cases cs with
     | nil => simp at hl'
     | cons _ _ => rfl
   rw [h0]
   show _ = off + (if x.1 = 19 then 0 else 1 + Ahg c + Ahr x.1)
   split <;> omega
  | succ i =>
   rw [Cg3 r cs _ hl' i (by simpa using hi)]; rfl
theorem C5a {l : OpL} {cs : List Int} {off : Int} (hc : cs.length = l.length) {i : Nat} (hi : i < l.length) : (plc l cs off).getD i 0 = (Af4 l cs off).2.getD i 0 := by
 unfold plc
 rw [List.getD_eq_getElem?_getD, List.getElem?_append_left (by rw [Bft l cs off hc]; exact hi), ← List.getD_eq_getElem?_getD]
theorem Cxk {l : OpL} {cs : List Int} (hc : cs.length = l.length) (ho : Ag1 0 l = true) : ∀ (m j : Nat), l.length - j ≤ m → j < l.length → (plc l cs 0).getD (Aef l j) 0 = (Af4 l cs 0).2.getD j 0
 | 0, j, h, hj => by omega
 | m + 1, j, h, hj => by
  have hd' : l.drop j = l[j] :: l.drop (j + 1) := List.drop_eq_getElem_cons hj
  by_cases h19 : l[j].1 = 19
  ·have e : Aef l j = Aef l (j + 1) := by unfold Aef; rw [hd', A0c, if_pos h19]; omega
   have hlt := A2t ho hj
   have hj1 : j + 1 < l.length := by rw [e] at hlt; unfold Aef at hlt; omega
   rw [e, Cxk hc ho m (j + 1) (by omega) hj1, ← C5a hc hj1, Cg3 l cs 0 hc j hj, A5t hj, if_pos h19]; omega
  ·have e : Aef l j = j := by unfold Aef; rw [hd', A0c, if_neg h19]; rfl
   rw [e, C5a hc hj]
theorem A95 (k v n : Int) : ∀ m : Ajp, Aeq n (Bdp k v m) = if n = k then v else Aeq n m
 | [] => by
  simp only [Bdp, Asx, Aeq, Al3, Ty.beq]
  by_cases h : n = k
  ·subst h; simp
  ·have hb : (n == k) = false := by simpa using h
   simp only [hb, if_neg h]
 | (k', v') :: r => by
  have ih := A95 k v n r
  simp only [Bdp, Asx, Aeq, Al3, Ty.beq] at ih ⊢
  by_cases h1 : k = k'
  ·subst h1
   simp only [beq_self_eq_true, Al3, Ty.beq]
   by_cases h : n = k
   ·subst h; simp
   ·have hb : (n == k) = false := by simpa using h
    simp only [hb, if_neg h]
  ·have hb1 : (k == k') = false := by simpa using h1
   simp only [hb1, Al3, Ty.beq]
   by_cases h2 : n = k'
   ·subst h2
    have h3 : ¬ n = k := fun e => h1 e.symm
    simp only [beq_self_eq_true, if_neg h3]
   ·have hb2 : (n == k') = false := by simpa using h2
    simp only [hb2]
    exact ih
theorem Co4 (l : OpL) (labels : Int) (hL : ∀ o, o ∈ l → o.1 = 19 → 1 ≤ o.2.1 ∧ o.2.1 ≤ labels) : ∀ (r : OpL) (i : Nat) (lab : List Int) (m : Ajp), (∀ x, x ∈ r → x ∈ l) → (lab.length : Int) = labels + 1 → (∀ n : Int, 0 ≤ n → n ≤ labels → lab.getD n.toNat 0 = (Aef l (Aeq n m).toNat : Nat)) →
  (B9k l i r lab).length = lab.length ∧ ∀ n : Int, 0 ≤ n → n ≤ labels → (B9k l i r lab).getD n.toNat 0 = (Aef l (Aeq n (Afb i r m)).toNat : Nat)
 | [], _, _, _, _, _, h => ⟨rfl, h⟩
 | x :: r, i, lab, m, hm, hlen, h => by
  rw [B9k, Afb]
  have hr : ∀ y, y ∈ r → y ∈ l := fun y hy => hm y (by simp [hy])
  by_cases h19 : x.1 = 19
  ·have hv := hL x (hm x (by simp)) h19
   rw [if_pos h19, if_pos h19]
   have := Co4 l labels hL r (i + 1) (lab.set x.2.1.toNat (Aef l i : Nat)) (Bdp x.2.1 i m) hr (by rw [List.length_set]; exact hlen) (fun n h0 h1 => by
    rw [Akc, A95]
    by_cases e : n = x.2.1
    ·subst e
     rw [if_pos ⟨rfl, by omega⟩, if_pos rfl, Int.toNat_natCast]
    ·rw [if_neg (by omega), if_neg e]; exact h n h0 h1)
   rw [List.length_set] at this
   exact this
  ·rw [if_neg h19, if_neg h19]
   exact Co4 l labels hL r (i + 1) lab m hr hlen h
def Axh (l : OpL) (labels : Int) : List Int := B9k l 0 l (List.replicate (labels + 1).toNat 0)
theorem Cxl {l : OpL} {nd procs labels : Int} (C : Chk nd procs labels l) : ((Axh l labels).length : Int) = labels + 1 ∧ ∀ n : Int, 0 ≤ n → n ≤ labels → (Axh l labels).getD n.toNat 0 = (Aef l (Aeq n (Afb 0 l [])).toNat : Nat) := by
 have hb := C.lb
 have h0 : Aef l 0 = 0 := by
  unfold Aef
  rw [List.drop_zero]
  have hf := C.fst
  cases l with
  | nil => rfl
  | cons x r =>
   simp only [An5, Afp, Bool.or_eq_true, beq_iff_eq] at hf
   have : x.1 = 24 := by
    rcases hf with h | h
    ·cases h
    ·injection h
   rw [A0c, if_neg (by omega)]
 have := Co4 l labels (fun o ho h => Bvq (C.all o ho) h) l 0 (List.replicate (labels + 1).toNat 0) [] (fun x h => h) (by simp; omega) (fun n h1 h2 => by
  have e : Aeq n [] = 0 := rfl
  rw [e, List.getD_eq_getElem?_getD, List.getElem?_replicate, if_pos (by omega)]
  simp [h0])
 unfold Axh
 refine ⟨?_, this.2⟩
 rw [this.1]; simp; omega
theorem B9l {nd procs labels : Int} {x : Int × Int × Int} (h : Ais nd procs labels x = true) : (Auc x.1 = true ↔ 0 < Aak x ∧ x.1 ≠ 30) ∧ (Auc x.1 = true → Aak x = x.2.1 ∧ 1 ≤ x.2.1 ∧ x.2.1 ≤ labels) ∧ (x.1 = 30 → Aak x = x.2.2 ∧ 1 ≤ x.2.2 ∧ x.2.2 ≤ labels) ∧ ((0 < Aak x ∧ x.1 ≠ 30) → x.1 ≠ 19) := by
 obtain ⟨op, n, m⟩ := x
 have h' := h
 simp only [Ais, Bool.and_eq_true, decide_eq_true_eq] at h'
 obtain ⟨⟨h1, h2⟩, h3⟩ := h'
 rcases Br0 ⟨h1, h2⟩ with rfl | rfl | rfl | rfl | rfl | rfl | rfl | rfl | rfl | rfl | rfl | rfl | rfl | rfl | rfl | rfl | rfl | rfl | rfl | rfl | rfl | rfl | rfl | rfl | rfl | rfl | rfl | rfl | rfl | rfl <;>
  simp [Auc, Aak] <;> simp [Axf, inB] at h3 <;> omega
theorem C9b {l : OpL} {cs ks : List Int} {nd procs labels : Int} (C : Chk nd procs labels l) (hc : cs.length = l.length) (hs : Sim l cs ks) {i : Nat} (hi : i < l.length) (h19 : (Ab8 l i).1 ≠ 19) {n : Int} (h0 : 0 ≤ n) (h1 : n ≤ labels) :
  (plc l ks 0).getD ((Axh l labels).getD n.toNat 0).toNat 0 - (plc l ks 0).getD (i + 1) 0 = Arz (Afb 0 l []) (Af4 l cs 0).2 cs l i n ∧ 0 ≤ (Axh l labels).getD n.toNat 0 ∧ (Axh l labels).getD n.toNat 0 < (plc l ks 0).length ∧ (plc l ks 0).length = l.length + 1 := by
 have hlab := (Cxl C).2 n h0 h1
 have hmk := B21 l n (by omega)
 have hpk : plc l ks 0 = plc l cs 0 := by unfold plc; rw [Bvt l cs ks 0 hc hs]
 have hll := A2t C.ord (j := (Aeq n (Afb 0 l [])).toNat) (by omega)
 have hlen : (plc l cs 0).length = l.length + 1 := by unfold plc; rw [List.length_append, Bft l cs 0 hc]; rfl
 rw [hpk, hlab, Int.toNat_natCast, Cxk hc C.ord l.length _ (by omega) (by omega), Cg3 l cs 0 hc i hi, if_neg h19]
 unfold Arz Ba2
 refine ⟨by omega, by omega, by omega, hlen⟩
theorem Cg4 {R : Type} (N : Nat) {l : OpL} {cs ks : List Int} {nd procs labels : Int} (C : Chk nd procs labels l) (hs : Ara l.length cs) (hk : Sim l cs ks) {i : Nat} (hi : i < l.length) (h19 : (Ab8 l i).1 ≠ 19) {n : Int} (h0 : 0 ≤ n) (h1 : n ≤ labels) (K : Int → List Int → List Int → List Int → Option R) :
  Aap N i n ks (plc l ks 0) (Axh l labels) K = K (Arz (Afb 0 l []) (Af4 l cs 0).2 cs l i n) ks (plc l ks 0) (Axh l labels) := by
 have hd := C9b C hs.1 hk hi h19 h0 h1
 have hlab := Cxl C
 have hl := C.len
 have hpv := B22 l cs 0 hs.1 hs.2 (by omega)
 have hmk := B21 l n (by omega)
 have h2 := hpv.2 (Aeq n (Afb 0 l [])).toNat
 have h3 := hpv.2 i
 have h4 := Arx (hs.2 i)
 have h5 := Ary (Ab8 l i).1
 unfold Aap
 rw [if_pos (by simp only [len]; omega)]
 dsimp only
 rw [if_pos (by simp only [len]; omega), Abh (by omega), if_pos (by simp only [len]; omega), Int.toNat_natCast, hd.1]
 rw [Ac8 (by unfold Arz Ba2; omega) (by unfold Arz Ba2; omega)]
theorem Sim.set {l : OpL} {cs ks : List Int} (h : Sim l cs ks) (i : Nat) (v : Int) (hv : 0 ≤ v ∧ v < 4) : Sim l (cs.set i v) (ks.set i v) := by
 refine ⟨by rw [List.length_set, List.length_set]; exact h.1, fun j hj hne => ?_, fun n => ?_⟩
 ·rw [Akc, Akc, h.1]
  split
  ·rfl
  ·exact h.2.1 j hj hne
 ·rw [Akc]
  split
  ·exact hv
  ·exact h.2.2 n
theorem C26 {R : Type} (N : Nat) (nm : List UInt8) (data : Aar) (l : OpL) (gl : Aa5) (procs labels nd : Int) (C : Chk nd procs labels l) (cs ks : List Int) (hs : Ara l.length cs) (hk : Sim l cs ks) (K : Bool → List UInt8 → Aar → OpL → Aa5 → Int → Int → List Int → List Int → List Int → List Int → Option R) :
  ∀ (k i : Nat) (b : Bool) (s s' : List Int), i ≤ l.length → l.length - i < k → s.length = l.length → Sim l s s' →
  ∃ s'', Sim l (An1 (Afb 0 l []) (Af4 l cs 0).2 cs l i (l.drop i) b s).2 s'' ∧
   Adg N k b i nm data l gl procs labels s' ks (plc l ks 0) (Axh l labels) K = K (An1 (Afb 0 l []) (Af4 l cs 0).2 cs l i (l.drop i) b s).1 nm data l gl procs labels s'' ks (plc l ks 0) (Axh l labels) := by
 have hl := C.len
 intro k
 induction k with
 | zero => intro i _ _ _ _ h; omega
 | succ k ih =>
  intro i b s s' hi hk' hsl hss
  simp only [Adg, Blg]
  by_cases hlt : i < l.length
  case neg =>
   rw [if_neg (by simp [len]; omega), List.drop_eq_nil_of_le (by omega)]
   exact ⟨s', hss, rfl⟩
  have hin : (0 : Int) ≤ i ∧ (i : Int) < len l := by simp only [len]; omega
  have hx' := C.all l[i] (List.getElem_mem hlt)
  have hoa := A5t hlt
  rw [if_pos (by simp [len]; omega), if_pos hin, Ad2 _ _ hlt, List.drop_eq_getElem_cons hlt, Abh (by omega)]
  obtain ⟨x, hx⟩ : ∃ x, l[i] = x := ⟨_, rfl⟩
  simp only [hx, if_pos hin, A94, Bi2, C45] at hx' hoa ⊢
  have hfn := B9l hx'
  cases hf : Auc x.1
  ·have hno : ¬(0 < Aak x ∧ x.1 ≠ 30) := fun h => by rw [hfn.1.2 h] at hf; cases hf
   rw [if_pos (by decide), show An1 (Afb 0 l []) (Af4 l cs 0).2 cs l i (x :: l.drop (i + 1)) b s = An1 (Afb 0 l []) (Af4 l cs 0).2 cs l (i + 1) (l.drop (i + 1)) b s by rw [An1, if_neg (fun h => hno ⟨h.1, h.2.1⟩)]]
   exact ih (i + 1) b s s' (by omega) (by omega) hsl hss
  have hyes := hfn.1.1 hf
  have hrng := hfn.2.1 hf
  have h19 : (Ab8 l i).1 ≠ 19 := by rw [hoa]; exact hfn.2.2.2 hyes
  rw [if_neg (by decide), Cg4 N C hs hk hlt h19 (by omega) hrng.2.2, if_pos (by have := hk.1; have := hs.1; simp only [len]; omega), Int.toNat_natCast, hk.2.1 i hlt h19]
  by_cases hg : cs.getD i 0 < Anj (Arz (Afb 0 l []) (Af4 l cs 0).2 cs l i x.2.1)
  ·rw [if_pos (decide_eq_true hg), if_pos (by have := hss.1; simp only [len]; omega), show An1 (Afb 0 l []) (Af4 l cs 0).2 cs l i (x :: l.drop (i + 1)) b s = An1 (Afb 0 l []) (Af4 l cs 0).2 cs l (i + 1) (l.drop (i + 1)) true (s.set i (Anj (Arz (Afb 0 l []) (Af4 l cs 0).2 cs l i x.2.1))) by rw [An1, if_pos ⟨hyes.1, hyes.2, hg⟩]]
   exact ih (i + 1) true _ _ (by omega) (by omega) (by rw [List.length_set]; exact hsl) (hss.set i _ (Brs _))
  ·rw [if_neg (fun h => hg (of_decide_eq_true h)), show An1 (Afb 0 l []) (Af4 l cs 0).2 cs l i (x :: l.drop (i + 1)) b s = An1 (Afb 0 l []) (Af4 l cs 0).2 cs l (i + 1) (l.drop (i + 1)) b s by rw [An1, if_neg (fun h => hg h.2.2)]]
   exact ih (i + 1) b s s' (by omega) (by omega) hsl hss
theorem Cy6 {R : Type} (N : Nat) (nm : List UInt8) (data : Aar) (l : OpL) (gl : Aa5) (procs labels nd : Int) (C : Chk nd procs labels l) (hN : l.length < N) (K : List Int → List Int → List Int → Option R) :
  ∀ (k f : Nat) (s s' : List Int), Ara l.length s → Sim l s s' → 3 * l.length - s.sum < k → 3 * l.length - s.sum < f →
  ∃ ks, Sim l (A6g (Afb 0 l []) l f s).1 ks ∧ Acz N k nm data l gl procs labels s' (plc l s' 0) (Axh l labels) K = K ks ((A6g (Afb 0 l []) l f s).2.2 ++ [(A6g (Afb 0 l []) l f s).2.1]) (Axh l labels) := by
 have hl := C.len
 intro k
 induction k with
 | zero => intro f s s' hs _ h _; have := At0 hs; omega
 | succ k ih =>
  intro f s s' hs hss hk hf
  have hsum := At0 hs
  obtain ⟨f, rfl⟩ : ∃ g, f = g + 1 := ⟨f - 1, by omega⟩
  simp only [Acz, Blj]
  rw [if_pos (by have := hss.1; have := hs.1; omega)]
  obtain ⟨s'', h1, h2⟩ := C26 (R := R) N nm data l gl procs labels nd C s s' hs hss (fun d i j a m n o p q b c => if ((!d) = true) then (K q b c) else (Abp N a p b c (fun r v t u => Acz N k i j a m n o r u t K)))
   N 0 false s s' (by omega) (by omega) hs.1 hss
  rw [List.drop_zero, show ((0 : Nat) : Int) = 0 from rfl] at h2
  rw [List.drop_zero] at h1
  have hg := Cgz (Afb 0 l []) (Af4 l s 0).2 s l l.length l 0 false s (by omega) hs (fun _ _ => rfl)
  rw [h2]
  have hpk : plc l s' 0 = plc l s 0 := by unfold plc; rw [Bvt l s s' 0 hs.1 hss]
  cases hb : (An1 (Afb 0 l []) (Af4 l s 0).2 s l 0 l false s).1
  ·rw [if_pos (by decide)]
   have e : A6g (Afb 0 l []) l (f + 1) s = (s, (Af4 l s 0).1, (Af4 l s 0).2) := by
    simp only [A6g]
    rw [hb, if_neg (by decide)]
   refine ⟨s', by rw [e]; exact hss, ?_⟩
   rw [e, hpk]; rfl
  ·have hlt : s.sum < (An1 (Afb 0 l []) (Af4 l s 0).2 s l 0 l false s).2.sum := by
    rcases hg.2.2 hb with h | h
    ·cases h
    ·exact h
   rw [if_neg (by decide)]
   have e : A6g (Afb 0 l []) l (f + 1) s = A6g (Afb 0 l []) l f (An1 (Afb 0 l []) (Af4 l s 0).2 s l 0 l false s).2 := by
    simp only [A6g]
    rw [hb, if_pos rfl]
   rw [C49 N l s'' (by rw [h1.1]; exact hg.1.1) (by omega) hN h1.2.2, e]
   exact ih f _ s'' hg.1 h1 (by omega) (by omega)
theorem Cpu : ∀ (r : OpL) (i : Nat) (s : List Int) (j : Nat), i + r.length ≤ s.length → (Brt i r s).getD j 0 = if i ≤ j ∧ j < i + r.length ∧ (Aak (Ab8 r (j - i)) = 0 ∨ (Ab8 r (j - i)).1 = 30) then Anj (Ab8 r (j - i)).2.1 else s.getD j 0
 | [], i, s, j, _ => by
  rw [Brt, if_neg (by simp; omega)]
 | x :: r, i, s, j, h => by
  rw [List.length_cons] at h
  rw [Brt, Cpu r (i + 1) _ j (by split <;> (try rw [List.length_set]) <;> omega)]
  by_cases hj : j = i
  ·subst hj
   rw [if_neg (by omega), Nat.sub_self]
   show _ = if j ≤ j ∧ j < j + (r.length + 1) ∧ (Aak x = 0 ∨ x.1 = 30) then Anj x.2.1 else s.getD j 0
   by_cases hc : Aak x = 0 ∨ x.1 = 30
   ·rw [if_pos hc, if_pos ⟨Nat.le_refl _, by omega, hc⟩, Akc, if_pos ⟨rfl, by omega⟩]
   ·rw [if_neg hc, if_neg (fun h => hc h.2.2)]
  ·have e : (if Aak x = 0 ∨ x.1 = 30 then s.set i (Anj x.2.1) else s).getD j 0 = s.getD j 0 := by
    split
    ·rw [Akc, if_neg (by omega)]
    ·rfl
   rw [e]
   by_cases hlt : i < j
   ·have e2 : Ab8 (x :: r) (j - i) = Ab8 r (j - (i + 1)) := by
     rw [show j - i = (j - (i + 1)) + 1 by omega]; rfl
    rw [e2, List.length_cons]
    by_cases hc : j < i + (r.length + 1) ∧ (Aak (Ab8 r (j - (i + 1))) = 0 ∨ (Ab8 r (j - (i + 1))).1 = 30)
    ·rw [if_pos ⟨by omega, by omega, hc.2⟩, if_pos ⟨by omega, hc.1, hc.2⟩]
    ·rw [if_neg (fun h => hc ⟨by omega, h.2.2⟩), if_neg (fun h => hc h.2)]
   ·rw [if_neg (by omega), if_neg (by omega)]
theorem Dek {l : OpL} {nd procs labels : Int} (C : Chk nd procs labels l) : Sim l (Biy l) (l.map k0R) := by
 have hlen : (Biy l).length = l.length := (A2u l).1
 have hget : ∀ n, (l.map k0R).getD n 0 = if n < l.length then k0R (Ab8 l n) else 0 := by
  intro n
  by_cases h : n < l.length
  ·rw [if_pos h, A5t h, List.getD_eq_getElem?_getD, List.getElem?_map, List.getElem?_eq_getElem h]; rfl
  ·rw [if_neg h, List.getD_eq_getElem?_getD, List.getElem?_eq_none (by rw [List.length_map]; omega)]; rfl
 refine ⟨by rw [List.length_map, hlen], fun i hi h19 => ?_, fun n => ?_⟩
 ·rw [hget, if_pos hi]
  unfold Biy
  rw [Cpu l 0 _ i (by simp), Nat.sub_zero]
  have hx := C.all _ (List.getElem_mem hi)
  rw [← A5t hi] at hx
  have hfn := B9l hx
  unfold k0R
  have hz : (List.replicate l.length (0 : Int)).getD i 0 = 0 := by
   rw [List.getD_eq_getElem?_getD, List.getElem?_replicate]; split <;> rfl
  have hnn := Bmc hx
  by_cases hf : Auc (Ab8 l i).1 = true
  ·have := hfn.1.1 hf
   rw [if_pos (.inl hf), if_neg (fun h => by rcases h.2.2 with h | h <;> omega), hz]
  ·have hne : ¬(Auc (Ab8 l i).1 = true ∨ (Ab8 l i).1 = 19) := fun h => h.elim hf h19
   have hc : Aak (Ab8 l i) = 0 ∨ (Ab8 l i).1 = 30 := by
    by_cases h30 : (Ab8 l i).1 = 30
    ·exact .inr h30
    ·left
     rcases hnn with h | h
     ·exact h
     ·exact absurd (hfn.1.2 ⟨by omega, h30⟩) hf
   rw [if_neg hne, if_pos ⟨by omega, by omega, hc⟩]
 ·rw [hget]
  split
  ·unfold k0R; split
   ·omega
   ·exact Brs _
  ·omega
theorem Cxm {R : Type} (N : Nat) (hN : 120009 ≤ N) (nm : List UInt8) (data : Aar) (l : OpL) (gl : Aa5) (procs labels nd : Int) (C : Chk nd procs labels l) (K : List Int → List Int → List Int → Option R) :
  ∃ ks, Sim l (Afd l).1 ks ∧ Aq9 N nm data l gl procs labels K = K ks ((Afd l).2.2 ++ [(Afd l).2.1]) (Axh l labels) := by
 have hl := C.len
 have hb := C.lb
 have hw : wi (labels + 1) = labels + 1 := Ac8 (by omega) (by omega)
 have h0 := A2u l
 have hs := At0 h0
 have hsim := Dek C
 obtain ⟨ks, h1, h2⟩ := Cy6 (R := R) N nm data l gl procs labels nd C (by omega) (fun a b c => K a b c) N (3 * l.length + 1) (Biy l) (l.map k0R) h0 hsim (by omega) (by omega)
 refine ⟨ks, h1, ?_⟩
 simp only [Aq9, Byy, hw]
 rw [if_pos (by omega)]
 have h7 := C48 (R := R) N nm data l gl procs labels nd (by omega) C [] (fun e f d g h i j m n => Abp N d j m n (fun o r p q => Acz N N e f d g h i o q p (fun a b c => K a b c))) N 0 [] (List.replicate (labels + 1).toNat 0) (by omega) (by omega) rfl (by simp; omega)
 rw [List.drop_zero, show ((0 : Nat) : Int) = 0 from rfl, List.nil_append] at h7
 refine Eq.trans h7 ?_
 rw [C49 N l _ (by rw [List.length_map]) (by omega) (by omega) hsim.2.2]
 exact h2
theorem C9c (x : Int) {a b : Nat} (h : a + b ≤ 64) : Ax8 .i64 (Ax8 .i64 x a) b = Ax8 .i64 x ((a + b : Nat) : Int) := by
 unfold Ax8
 have hb : IntKind.i64.bits = 64 := rfl
 simp only [Int.toNat_natCast, hb]
 rw [Nat.min_eq_left (by omega), Nat.min_eq_left (by omega), Nat.min_eq_left (by omega)]
 have ha : (0 : Int) < 2 ^ a := Int.pow_pos (by decide)
 have hb' : (0 : Int) < 2 ^ b := Int.pow_pos (by decide)
 rw [Int.fdiv_eq_ediv_of_nonneg _ (by omega), Int.fdiv_eq_ediv_of_nonneg _ (by omega), Int.fdiv_eq_ediv_of_nonneg _ (Int.le_of_lt (Int.pow_pos (by decide))), Int.ediv_ediv_of_nonneg (by omega), ← Int.pow_add]
theorem C7e (x : Int) : Ax8 .i64 x 0 = x := by
 unfold Ax8
 simp
theorem C9d (n : Nat) (v : Int) (b : List Int) : (List.replicate (n + 1) (0 : Int) ++ b).set n v = List.replicate n 0 ++ v :: b := by
 rw [List.replicate_succ', List.append_assoc, List.set_append_right _ _ (by simp)]
 simp
theorem C7f {R : Type} (N : Nat) (x : Int) (n : Nat) (hn : n ≤ 7) (K : List Int → Option R) : ∀ (m k j : Nat), m < k → j + m = n →
  Ai6 N k (Ax8 .i64 x ((8 * j : Nat) : Int)) ((m : Int) - 1) (List.replicate m 0 ++ beB x j) K = K (beB x n) := by
 intro m
 induction m with
 | zero =>
  intro k j hk hj
  obtain ⟨k, rfl⟩ := exk hk
  simp only [Ai6, Bde]
  obtain rfl : j = n := by omega
  rw [if_neg (by simp)]; simp
 | succ m ih =>
  intro k j hk hj
  obtain ⟨k, rfl⟩ := exk hk
  simp only [Ai6, Bde]
  have h1 : ((m + 1 : Nat) : Int) - 1 = (m : Int) := by omega
  have hs : Ax8 .i64 (Ax8 .i64 x ((8 * j : Nat) : Int)) 8 = Ax8 .i64 x ((8 * (j + 1) : Nat) : Int) := C9c x (a := 8 * j) (b := 8) (by omega)
  rw [h1, if_pos (by simp), if_pos (by simp only [len, List.length_append, List.length_replicate]; omega), hs, Ac8 (by omega) (by omega), Int.toNat_natCast, C9d]
  have := ih k (j + 1) (by omega) (by omega)
  rw [beB] at this
  have e : ((8 * j : Nat) : Int) = 8 * (j : Int) := by omega
  rw [e]
  exact this
theorem Cky {R : Type} (N : Nat) (hN : 8 ≤ N) (x : Int) (n : Nat) (hn : n ≤ 7) (K : List Int → Option R) : Abj N x n K = K (beB x n) := by
 simp only [Abj, By0]
 rw [if_pos (by omega), Ac8 (by omega) (by omega), Int.toNat_natCast]
 have := C7f N x n hn (fun a => K a) n N 0 (by omega) (by omega)
 rw [show ((8 * 0 : Nat) : Int) = 0 from rfl, C7e, beB, List.append_nil] at this
 exact this
theorem Cg5 (l : OpL) (hl : l.length ≤ 1000000) : Ara l.length (Afd l).1 ∧ (Afd l).2 = Af4 l (Afd l).1 0 := by
 have h0 := At0 (A2u l)
 exact Czq (Afb 0 l []) l (3 * l.length + 1) (Biy l) (A2u l) (by omega)
theorem Cpv (op c n m : Int) (hc : 0 ≤ c ∧ c < 4) : ((Bzc op c n m).length : Int) = 1 + Ahg c + Ahr op := by
 have := Arx hc
 have := Ary op
 unfold Bzc
 rw [List.length_cons, List.length_append, Agi, Agi]; omega
theorem Cg6 (mk : Ajp) (at' cs : List Int) (l : OpL) (hcs : ∀ n, 0 ≤ cs.getD n 0 ∧ cs.getD n 0 < 4) : ∀ (r : OpL) (i : Nat) (off : Int), i + r.length = cs.length → ((Bqn mk at' cs l i r).length : Int) = (Af4 r (cs.drop i) off).1 - off
 | [], i, off, h => by
  rw [Bqn, List.drop_eq_nil_of_le (by simp at h; omega)]; simp [Af4]
 | x :: r, i, off, h => by
  rw [List.length_cons] at h
  have hlt : i < cs.length := by omega
  have hg : cs.getD i 0 = cs[i] := by rw [List.getD_eq_getElem?_getD, List.getElem?_eq_getElem hlt]; rfl
  rw [Bqn, List.drop_eq_getElem_cons hlt, List.length_append]
  simp only [Af4]
  have hi := hcs i
  rw [hg] at hi
  have e : ((opB mk at' cs l i x).length : Int) = if x.1 = 19 then 0 else 1 + Ahg cs[i] + Ahr x.1 := by
   unfold opB
   split
   ·rfl
   ·rw [hg]
    split
    ·rw [Cpv _ _ _ _ hi]
    ·split <;> rw [Cpv _ _ _ _ hi]
  by_cases h19 : x.1 = 19
  ·rw [if_pos h19] at e ⊢
   have := Cg6 mk at' cs l hcs r (i + 1) off (by omega)
   omega
  ·rw [if_neg h19] at e ⊢
   have := Cg6 mk at' cs l hcs r (i + 1) (off + (1 + Ahg cs[i] + Ahr x.1)) (by omega)
   omega
theorem C5b (l : OpL) (hl : l.length ≤ 1000000) : ((Asu l).length : Int) = (Afd l).2.1 := by
 have h := Cg5 l hl
 have hs : Ara l.length (Afd l).1 := h.1
 have := Cg6 (Afb 0 l []) (Afd l).2.2 (Afd l).1 l hs.2 l 0 0 (by rw [hs.1]; omega)
 rw [List.drop_zero] at this
 unfold Asu
 rw [this, show (Afd l).2.1 = (Af4 l (Afd l).1 0).1 by rw [h.2]]; omega
theorem Cpw {R : Type} (N : Nat) (hN : 8 ≤ N) (i : Nat) (n m : Int) (ks pl lab : List Int) (nm : List UInt8) (data : Aar) (l : OpL) (gl : Aa5) (procs labels op N2 M2 : Int) (out : List Int) (hi : i < ks.length) (hks : ∀ n, 0 ≤ ks.getD n 0 ∧ ks.getD n 0 < 4) (hop : 0 ≤ op ∧ op ≤ 31) (ho : out.length + 20 ≤ 70368744177664)
  (K : Int → List Int → List Int → List Int → List UInt8 → Aar → OpL → Aa5 → Int → Int → List Int → Option R) :
  Ab5 N i n m ks pl lab nm data l gl procs labels out op N2 M2 K = K i ks pl lab nm data l gl procs labels (out ++ Bzc op (ks.getD i 0) n m) := by
 have hc := hks i
 have hw := Arx hc
 have he := Ary op
 simp only [Ab5, Aya]
 rw [if_pos (by simp only [len]; omega), Int.toNat_natCast]
 have hw1 : wi (op + wi (32 * ks.getD i 0)) = op + 32 * ks.getD i 0 := by rw [Ac8 (i := 32 * ks.getD i 0) (by omega) (by omega), Ac8 (by omega) (by omega)]
 have h1 : Ahg (ks.getD i 0) = ((Ahg (ks.getD i 0)).toNat : Int) := by omega
 have h2 : Ahr op = ((Ahr op).toNat : Int) := by omega
 rw [hw1, if_pos (by simp only [List.length_cons, List.length_nil]; omega), if_pos (by simp only [len]; omega), Bi4, C46 hc, h1, Cky N hN _ _ (by omega),
  if_pos (by simp only [List.length_append, List.length_cons, List.length_nil, Agi]; omega), Bi3, C47, h2, Cky N hN _ _ (by omega),
  if_pos (by simp only [List.length_append, List.length_cons, List.length_nil, Agi]; omega), List.append_assoc, List.append_assoc]
 rfl
theorem C5c {R : Type} (N : Nat) (hN : 8 ≤ N) (nm : List UInt8) (data : Aar) (l : OpL) (gl : Aa5) (procs labels nd : Int) (C : Chk nd procs labels l) (cs ks : List Int) (hs : Ara l.length cs) (hk : Sim l cs ks) (K : List Int → List Int → List Int → List Int → Option R) :
  ∀ (k i : Nat) (out : List Int), i ≤ l.length → l.length - i < k → out.length ≤ 9 * i →
  Aby N k i ks (plc l ks 0) (Axh l labels) nm data l gl procs labels out K = K ks (plc l ks 0) (Axh l labels) (out ++ Bqn (Afb 0 l []) (Af4 l cs 0).2 cs l i (l.drop i)) := by
 have hl := C.len
 intro k
 induction k with
 | zero => intro i _ _ h; omega
 | succ k ih =>
  intro i out hi hk' ho
  simp only [Aby, A0n]
  by_cases hlt : i < l.length
  case neg =>
   rw [if_neg (by simp [len]; omega), List.drop_eq_nil_of_le (by omega), Bqn, List.append_nil]
  have hin : (0 : Int) ≤ i ∧ (i : Int) < len l := by simp only [len]; omega
  have hx' := C.all l[i] (List.getElem_mem hlt)
  have hoa := A5t hlt
  rw [if_pos (by simp [len]; omega), if_pos hin, Ad2 _ _ hlt, List.drop_eq_getElem_cons hlt, Bqn]
  obtain ⟨x, hx⟩ : ∃ x, l[i] = x := ⟨_, rfl⟩
  simp only [hx, A94] at hx' hoa ⊢
  have hop := Bfs hx'
  have hfn := B9l hx'
  have hik : i < ks.length := by have := hk.1; have := hs.1; omega
  by_cases h19 : x.1 = 19
  ·rw [if_pos (by simpa using h19), Abh (by omega), ih (i + 1) out (by omega) (by omega) (by omega)]
   have : opB (Afb 0 l []) (Af4 l cs 0).2 cs l i x = [] := by unfold opB; rw [if_pos h19]
   rw [this]; rfl
  have h19' : (Ab8 l i).1 ≠ 19 := by rw [hoa]; exact h19
  have hkc := hk.2.1 i hlt h19'
  have hilen : ∀ n m, (Bzc x.1 (ks.getD i 0) n m).length ≤ 9 := fun n m => Cw7 _ _ _ _ (hk.2.2 i)
  rw [if_neg (by simpa using h19)]
  have part : ∀ n, n = (if Auc x.1 = true then Arz (Afb 0 l []) (Af4 l cs 0).2 cs l i x.2.1 else x.2.1) →
    Ab6 N i n x.2.2 ks (plc l ks 0) (Axh l labels) nm data l gl procs labels out x.1 x.2.1 x.2.2 (fun a b c d e f g j o p q => Aby N k (wi (a + 1)) b c d e f g j o p q K) =
    K ks (plc l ks 0) (Axh l labels) (out ++ (opB (Afb 0 l []) (Af4 l cs 0).2 cs l i x ++ Bqn (Afb 0 l []) (Af4 l cs 0).2 cs l (i + 1) (l.drop (i + 1)))) := by
   intro n hn
   simp only [Ab6, Ayb]
   by_cases h30 : x.1 = 30
   ·have hr := hfn.2.2.1 h30
    have hnf : Auc x.1 = false := by rw [h30]; rfl
    rw [hnf, if_neg (by decide)] at hn
    rw [if_pos (by simpa using h30), Cg4 N C hs hk hlt h19' (by omega) hr.2.2, Cpw N hN i _ _ _ _ _ _ _ _ _ _ _ _ _ _ _ hik hk.2.2 (by omega) (by omega), Abh (by omega),
     ih (i + 1) _ (by omega) (by omega) (by have := hilen n (Arz (Afb 0 l []) (Af4 l cs 0).2 cs l i x.2.2); rw [List.length_append]; omega), hkc, hn, List.append_assoc]
    unfold opB
    rw [if_neg h19, if_pos h30]
   ·rw [if_neg (by simpa using h30), Cpw N hN i _ _ _ _ _ _ _ _ _ _ _ _ _ _ _ hik hk.2.2 (by omega) (by omega), Abh (by omega),
     ih (i + 1) _ (by omega) (by omega) (by have := hilen n x.2.2; rw [List.length_append]; omega), hkc, hn, List.append_assoc]
    unfold opB
    rw [if_neg h19, if_neg h30]
    by_cases hf : Auc x.1 = true
    ·rw [if_pos hf, if_pos (hfn.1.1 hf).1]
    ·rw [if_neg hf, if_neg (fun h => hf (hfn.1.2 ⟨h, h30⟩))]
  by_cases hf : Auc x.1 = true
  ·have hr := hfn.2.1 hf
   rw [if_pos hf, Cg4 N C hs hk hlt h19' (by omega) hr.2.2]
   exact part _ (by rw [if_pos hf])
  ·rw [if_neg hf]
   exact part _ (by rw [if_neg hf])
theorem C9e {R : Type} (N : Nat) (hN : 120009 ≤ N) (nm : List UInt8) (data : Aar) (l : OpL) (gl : Aa5) (procs labels nd : Int) (C : Chk nd procs labels l) (ks : List Int) (hk : Sim l (Afd l).1 ks) (K : List Int → List Int → List Int → List Int → Option R) :
  Acg N nm data l gl procs labels ks ((Afd l).2.2 ++ [(Afd l).2.1]) (Axh l labels) K = K ks ((Afd l).2.2 ++ [(Afd l).2.1]) (Axh l labels) (Asu l) := by
 have hl := C.len
 have h := Cg5 l (by omega)
 have hs : Ara l.length (Afd l).1 := h.1
 have hp : (Afd l).2.2 ++ [(Afd l).2.1] = plc l ks 0 := by
  unfold plc; rw [Bvt l (Afd l).1 ks 0 hs.1 hk, ← h.2]
 rw [hp]
 simp only [Acg, A4s]
 have := C5c (R := R) N (by omega) nm data l gl procs labels nd C (Afd l).1 ks hs hk (fun a b c d => K a b c d) N 0 [] (by omega) (by omega) (by simp)
 rw [List.drop_zero, show ((0 : Nat) : Int) = 0 from rfl, List.nil_append, ← h.2] at this
 exact this
theorem Cpx {R : Type} {N : Nat} {nm : List UInt8} {data : Aar} {gl : Aa5} (F : Bcu N nm data gl) (hN : 120009 ≤ N) (l : OpL) (procs labels : Int) (hc : Aub nm data l gl procs labels = 0) (a : Int → Option R) (b : Int → List Int → List Int → List Int → Option R) :
  ∃ ks, Sim l (Afd l).1 ks ∧ Afw N nm data l gl procs labels a b = if 32767 < (Asu l).length ∨ 255 < nm.length ∨ 255 < gl.length then a 2 else b 0 ks ((Afd l).2.2 ++ [(Afd l).2.1]) (Axh l labels) := by
 simp only [Afw, Bdc]
 rw [Bly F]
 have C := Cxi hc
 have hl := C.len
 have h := Cg5 l (by omega)
 have hs : Ara l.length (Afd l).1 := h.1
 have hat : (Afd l).2.2.length = l.length := by rw [h.2]; exact Bft l _ 0 hs.1
 obtain ⟨ks, h1, h2⟩ := Cxm (R := R) N hN nm data l gl procs labels data.length C (fun d c e => if (((0 : Int) ≤ (len l)) ∧ ((len l) < (len c))) then (if ((decide (((List.getD c (Int.toNat (len l)) (0 : Int)) > (32767 : Int)))) = true) then (a 2) else (if ((decide (((len nm) > (255 : Int)))) = true) then (a 2) else (if ((decide (((len gl) > (255 : Int)))) = true) then (a 2) else (b 0 d c e)))) else none)
 have hsz := C5b l (by omega)
 have hg : List.getD ((Afd l).2.2 ++ [(Afd l).2.1]) (Int.toNat (len l)) 0 = (Afd l).2.1 := by
  rw [show Int.toNat (len l) = (Afd l).2.2.length by rw [hat]; simp [len], List.getD_eq_getElem?_getD, List.getElem?_append_right (Nat.le_refl _), Nat.sub_self]; rfl
 refine ⟨ks, h1, ?_⟩
 rw [hc, if_neg (by decide), h2, if_pos (by simp only [len, List.length_append, List.length_cons, List.length_nil]; omega), hg]
 by_cases a1 : (Afd l).2.1 > 32767
 ·rw [if_pos (show 32767 < (Asu l).length ∨ 255 < nm.length ∨ 255 < gl.length by omega), if_pos (decide_eq_true a1)]
 rw [if_neg (show ¬decide ((Afd l).2.1 > 32767) = true by simpa using a1)]
 by_cases a2 : nm.length > 255
 ·rw [if_pos (show 32767 < (Asu l).length ∨ 255 < nm.length ∨ 255 < gl.length by omega), if_pos (by simp only [len, decide_eq_true_eq]; omega)]
 rw [if_neg (show ¬decide (len nm > 255) = true by simp only [len, decide_eq_true_eq]; omega)]
 by_cases a3 : gl.length > 255
 ·rw [if_pos (show 32767 < (Asu l).length ∨ 255 < nm.length ∨ 255 < gl.length by omega), if_pos (by simp only [len, decide_eq_true_eq]; omega)]
 rw [if_neg (show ¬decide (len gl > 255) = true by simp only [len, decide_eq_true_eq]; omega), if_neg (show ¬(32767 < (Asu l).length ∨ 255 < nm.length ∨ 255 < gl.length) by omega)]
theorem C7g {R : Type} {N : Nat} {nm : List UInt8} {data : Aar} {gl : Aa5} (F : Bcu N nm data gl) (hN : 120009 ≤ N) {l : OpL} {procs labels : Int} (he : Agp nm data l gl procs labels = 0) (b : Int → Option R) (a : Int → List Int → List Int → List Int → Option R) :
  ∃ ks, Sim l (Afd l).1 ks ∧ Chk data.length procs labels l ∧ Afw N nm data l gl procs labels b a = a 0 ks ((Afd l).2.2 ++ [(Afd l).2.1]) (Axh l labels) := by
 obtain ⟨h1, h2, h3, h4⟩ := Asm he
 obtain ⟨ks, k1, k2⟩ := Cpx F hN l procs labels h1 b a
 exact ⟨ks, k1, Cxi h1, by rw [k2, if_neg (by omega)]⟩
theorem C5d {R : Type} {N : Nat} {nm : List UInt8} {data : Aar} {gl : Aa5} (F : Bcu N nm data gl) (hN : 120009 ≤ N) {l : OpL} {procs labels : Int} (he : Agp nm data l gl procs labels ≠ 0) (a : Int → Option R) (b : Int → List Int → List Int → List Int → Option R) :
  Afw N nm data l gl procs labels a b = a (Agp nm data l gl procs labels) := by
 by_cases hc : Aub nm data l gl procs labels = 0
 ·obtain ⟨ks, k1, k2⟩ := Cpx F hN l procs labels hc a b
  rw [k2]
  unfold Agp at he ⊢
  rw [if_neg (show ¬Aub nm data l gl procs labels ≠ 0 by omega)] at he ⊢
  by_cases h : 32767 < (Asu l).length ∨ 255 < nm.length ∨ 255 < gl.length
  ·rw [if_pos h, if_pos h]
  ·rw [if_neg h] at he; exact absurd rfl he
 ·have e : Agp nm data l gl procs labels = Aub nm data l gl procs labels := by unfold Agp; rw [if_pos hc]
  simp only [Afw, Bdc]
  rw [Bly F, e, if_pos (by simpa using hc)]
theorem Co5 {R : Type} (N : Nat) (hN : 8 ≤ N) (x : Int) (K : List Int → Option R) : Abj N x 2 K = K (beB x 2) := Cky N hN x 2 (by decide) K
theorem Co6 {R : Type} (N : Nat) (hN : 8 ≤ N) (x : Int) (K : List Int → Option R) : Abj N x 4 K = K (beB x 4) := Cky N hN x 4 (by decide) K
theorem C5e {R : Type} (N : Nat) (l : List Int) (hl : l.length ≤ 1099511627776) (K : Int → Option R) : ∀ (k i : Nat) (s : Int), i ≤ l.length → l.length - i < k → Ajt N k l s i K = K (A92 i s (l.drop i)) := by
 intro k
 induction k with
 | zero => intro i _ _ h; omega
 | succ k ih =>
  intro i s hi hk
  simp only [Ajt, Bo9]
  by_cases hlt : i < l.length
  case neg =>
   rw [if_neg (by simp [len]; omega), List.drop_eq_nil_of_le (by omega)]; rfl
  have hin : (0 : Int) ≤ i ∧ (i : Int) < len l := by simp only [len]; omega
  rw [if_pos (by simp [len]; omega), if_pos hin, Ad2 _ _ hlt, List.drop_eq_getElem_cons hlt, A92, Abh (by omega), ih (i + 1) _ (by omega) (by omega)]
theorem Co7 {R : Type} (N : Nat) (l : List Int) (hl : l.length ≤ 1099511627776) (hN : l.length < N) (K : Int → Option R) : Ac6 N l K = K (A92 0 0 l) := by
 simp only [Ac6, Byu]
 have := C5e (R := R) N l hl (fun a => K a) N 0 0 (by omega) (by omega)
 rw [List.drop_zero, show ((0 : Nat) : Int) = 0 from rfl] at this
 exact this
theorem Cy7 {R : Type} (N : Nat) (w : List Int) (hw : w.length ≤ 1099511627776) (hN : 8 < N) (a : Int) (c : List UInt8) (d : Aar) (e : OpL) (f : Aa5) (g j : Int) (o : List UInt8) (p : Bool) (l m n : List Int)
  (K : Int → List UInt8 → Aar → OpL → Aa5 → Int → Int → List Int → List Int → List Int → List Int → Option R) : ∀ (k i : Nat) (b : List Int), i ≤ w.length → w.length - i < k → b.length + 4 * (w.length - i) ≤ 70368744177664 →
  Afa N k a i c d e f g j b o p w l m n K = K a c d e f g j (b ++ Biz (w.drop i)) l m n := by
 intro k
 induction k with
 | zero => intro i _ _ h; omega
 | succ k ih =>
  intro i b hi hk hb
  simp only [Afa, Bib]
  by_cases hlt : i < w.length
  case neg =>
   rw [if_neg (by simp [len]; omega), List.drop_eq_nil_of_le (by omega)]
   simp [Biz]
  have hin : (0 : Int) ≤ i ∧ (i : Int) < len w := by simp only [len]; omega
  rw [if_pos (by simp [len]; omega), if_pos hin, Ad2 _ _ hlt, List.drop_eq_getElem_cons hlt, Co6 N (by omega), if_pos (by rw [Agi]; omega), Abh (by omega),
   ih (i + 1) _ (by omega) (by omega) (by rw [List.length_append, Agi]; omega), Bzd, List.append_assoc]
theorem C27 {R : Type} (N : Nat) (l : Aar) (hl : l.length ≤ 1099511627776) (hN : 8 < N) (hw : ∀ d, d ∈ l → d.2.2.length < N ∧ d.2.2.length ≤ 1099511627776) (a : List UInt8) (c : OpL) (e : Aa5) (f g : Int) (j m n : List Int)
  (K : List UInt8 → Aar → OpL → Aa5 → Int → Int → List Int → List Int → List Int → List Int → Option R) : ∀ (k i : Nat) (b : List Int), i ≤ l.length → l.length - i < k → b.length + 3 * (l.length - i) + 4 * A2o (l.drop i) ≤ 70368744177664 →
  Aeu N k i a l c e f g b j m n K = K a l c e f g (b ++ A7w (l.drop i)) j m n := by
 intro k
 induction k with
 | zero => intro i _ _ h; omega
 | succ k ih =>
  intro i b hi hk hb
  simp only [Aeu, Bie]
  by_cases hlt : i < l.length
  case neg =>
   rw [if_neg (by simp [len]; omega), List.drop_eq_nil_of_le (by omega)]
   simp [A7w]
  have hin : (0 : Int) ≤ i ∧ (i : Int) < len l := by simp only [len]; omega
  have hd' : l.drop i = l[i] :: l.drop (i + 1) := List.drop_eq_getElem_cons hlt
  have hw' := hw l[i] (List.getElem_mem hlt)
  rw [hd', Bxx] at hb
  rw [if_pos (by simp [len]; omega), if_pos hin, Ad2 _ _ hlt, hd', A7w]
  obtain ⟨x, hx⟩ : ∃ x, l[i] = x := ⟨_, rfl⟩
  simp only [hx] at hw' hb ⊢
  have hx1 := Cg1 x
  have hx2 := B9f x
  have hx3 := Cov (l.drop (i + 1))
  have hnext : ∀ b' : List Int, b'.length = b.length + (A93 x).length → b'.length + 3 * (l.length - (i + 1)) + 4 * A2o (l.drop (i + 1)) ≤ 70368744177664 := by intro b' h; omega
  by_cases ht : x.2.1 = true
  ·have hdl : (A93 x).length = 2 + x.1.length := by unfold A93; rw [if_pos ht]; simp only [List.length_cons, bytesOf, List.length_map]; omega
   rw [if_pos ht, if_pos (by simp only [List.length_cons, List.length_nil]; omega), if_pos (by simp only [List.length_append, List.length_cons, List.length_nil, List.length_map]; omega), Abh (by omega),
    ih (i + 1) _ (by omega) (by omega) (hnext _ (by simp only [List.length_append, List.length_cons, List.length_nil, List.length_map]; omega))]
   unfold A93
   rw [if_pos ht, List.append_assoc, List.append_assoc]; rfl
  ·have hdl : (A93 x).length = 3 + 4 * x.2.2.length := by unfold A93; rw [if_neg ht]; simp only [List.length_cons, List.length_append, Agi, Bi0]; omega
   rw [if_neg ht, if_pos (by omega), Co5 N (by omega), if_pos (by simp only [List.length_append, List.length_cons, List.length_nil, Agi]; omega)]
   have h27 := Cy7 (R := R) N x.2.2 hw'.2 hN i a l c e f g x.1 x.2.1 j m n (fun o p q r s t u v w y z => Aeu N k (wi (o + 1)) p q r s t u v w y z K) N 0
    (b ++ [1] ++ beB (len x.2.2) 2) (by omega) (by omega) (by simp only [List.length_append, List.length_cons, List.length_nil, Agi]; omega)
   refine Eq.trans h27 ?_
   rw [List.drop_zero, Abh (by omega),
    ih (i + 1) _ (by omega) (by omega) (hnext _ (by simp only [List.length_append, List.length_cons, List.length_nil, Agi, Bi0]; omega))]
   unfold A93
   rw [if_neg ht, List.append_assoc, List.append_assoc, List.append_assoc]
   have e1 : Aln 1 = 1 := by decide
   simp [len, e1]
theorem C28 {R : Type} (N : Nat) (g : Aa5) (hg : g.length ≤ 1099511627776) (hN : 8 < N) (a : List UInt8) (c : Aar) (d : OpL) (e f : Int) (j l m : List Int)
  (K : List UInt8 → Aar → OpL → Aa5 → Int → Int → List Int → List Int → List Int → List Int → Option R) : ∀ (k i : Nat) (b : List Int), i ≤ g.length → g.length - i < k → b.length + 3 * (g.length - i) ≤ 70368744177664 →
  Aev N k i a c d g e f b j l m K = K a c d g e f (b ++ Axg (g.drop i)) j l m := by
 intro k
 induction k with
 | zero => intro i _ _ h; omega
 | succ k ih =>
  intro i b hi hk hb
  simp only [Aev, Bih]
  by_cases hlt : i < g.length
  case neg =>
   rw [if_neg (by simp [len]; omega), List.drop_eq_nil_of_le (by omega)]
   simp [Axg]
  have hin : (0 : Int) ≤ i ∧ (i : Int) < len g := by simp only [len]; omega
  rw [if_pos (by simp [len]; omega), if_pos hin, Ad2 _ _ hlt, List.drop_eq_getElem_cons hlt, if_pos (by simp only [List.length_cons, List.length_nil]; omega), if_pos hin, Co5 N (by omega),
   if_pos (by simp only [List.length_append, Agi, List.length_cons, List.length_nil]; omega), Abh (by omega),
   ih (i + 1) _ (by omega) (by omega) (by simp only [List.length_append, Agi, List.length_cons, List.length_nil]; omega), Axg, List.append_assoc, List.append_assoc]
  rfl
theorem Ctc {R : Type} {N : Nat} {nm : List UInt8} {data : Aar} {gl : Aa5} (F : Bcu N nm data gl) (hN : 200000 ≤ N) (l : OpL) (procs labels : Int) (K : Int → List Int → Option R) :
  Afq N nm data l gl procs labels K = if Agp nm data l gl procs labels = 0 then K 0 (Bi1 nm data l gl) else K (Agp nm data l gl procs labels) [] := by
 simp only [Afq, Bvb]
 by_cases he : Agp nm data l gl procs labels = 0
 case neg =>
  rw [C5d F (by omega) he, if_neg he, if_pos (by simpa using he)]
 obtain ⟨h1, h2, h3, h4⟩ := Asm he
 obtain ⟨h5, _, _⟩ := A5u h1
 simp only [Avm, Bool.or_eq_false_iff, decide_eq_false_iff_not] at h5
 have hdl := Bxy data
 have hpl := Bvr he
 rw [if_pos he]
 obtain ⟨ks, hk, C, hr⟩ := C7g (R := R) F (by omega) he _ _
 rw [hr, if_neg (by decide), if_pos (by simp only [List.length_cons, List.length_nil, List.length_map]; omega), Co5 N (by omega), if_pos (by simp only [List.length_cons, List.length_nil, List.length_map, List.append_eq, List.length_append, Agi]; omega)]
 have hd := C27 (R := R) N data (by omega) (by omega) (fun d hd => ⟨(F.d3 d hd).2, (F.d1 d hd).2⟩) nm l gl procs labels ks ((Afd l).2.2 ++ [(Afd l).2.1]) (Axh l labels)
  (fun u v w g x y t z A B => if ((((List.length t) + (List.length ((IntKind.wrap .u8 (len g)) :: ([] : List Int)))) * (1 : Nat)) ≤ (70368744177664 : Nat)) then (Aev N N 0 u v w g x y ((t ++ ((IntKind.wrap .u8 (len g)) :: ([] : List Int)))) z A B (fun h i j m n o a p q r => Acg N h i j m n o p q r (fun D E G c => Abj N ((len c)) 4 (fun e => if ((((List.length a) + (List.length e)) * (1 : Nat)) ≤ (70368744177664 : Nat)) then (if ((((List.length (a ++ e)) + (List.length c)) * (1 : Nat)) ≤ (70368744177664 : Nat)) then (Ac6 N (((a ++ e) ++ c)) (fun s => Abj N s 4 (fun f => if ((((List.length ((a ++ e) ++ c)) + (List.length f)) * (1 : Nat)) ≤ (70368744177664 : Nat)) then (K 0 ((((a ++ e) ++ c) ++ f))) else none))) else none) else none)))) else none) N 0
  (98 :: 98 :: 1 :: IntKind.wrap .u8 (len nm) :: List.append (List.append [] (List.map (fun b : UInt8 => ((UInt8.toNat b : Nat) : Int)) nm)) (beB (len data) 2)) (by omega) (by omega)
  (by rw [List.drop_zero]; simp only [List.length_cons, List.length_nil, List.length_map, List.append_eq, List.length_append, Agi]; omega)
 refine Eq.trans hd ?_
 rw [List.drop_zero, if_pos (by simp only [List.length_cons, List.length_nil, List.length_map, List.append_eq, List.length_append, Agi]; omega)]
 have hg := C28 (R := R) N gl (by omega) (by omega) nm data l procs labels ks ((Afd l).2.2 ++ [(Afd l).2.1]) (Axh l labels)
  (fun h i j m n o a p q r => Acg N h i j m n o p q r (fun D E G c => Abj N ((len c)) 4 (fun e => if ((((List.length a) + (List.length e)) * (1 : Nat)) ≤ (70368744177664 : Nat)) then (if ((((List.length (a ++ e)) + (List.length c)) * (1 : Nat)) ≤ (70368744177664 : Nat)) then (Ac6 N (((a ++ e) ++ c)) (fun s => Abj N s 4 (fun f => if ((((List.length ((a ++ e) ++ c)) + (List.length f)) * (1 : Nat)) ≤ (70368744177664 : Nat)) then (K 0 ((((a ++ e) ++ c) ++ f))) else none))) else none) else none))) N 0
  ((98 :: 98 :: 1 :: IntKind.wrap .u8 (len nm) :: List.append (List.append [] (List.map (fun b : UInt8 => ((UInt8.toNat b : Nat) : Int)) nm)) (beB (len data) 2)) ++ A7w data ++ [IntKind.wrap .u8 (len gl)]) (by omega) (by omega)
  (by simp only [List.length_cons, List.length_nil, List.length_map, List.append_eq, List.length_append, Agi]; omega)
 refine Eq.trans hg ?_
 rw [List.drop_zero, C9e N (by omega) nm data l gl procs labels data.length C ks hk, Co6 N (by omega)]
 have hb1 : Aln 98 = 98 := by decide
 have hb2 : Aln 1 = 1 := by decide
 have hpre : (98 :: 98 :: 1 :: IntKind.wrap .u8 (len nm) :: List.append (List.append [] (List.map (fun b : UInt8 => ((UInt8.toNat b : Nat) : Int)) nm)) (beB (len data) 2)) ++ A7w data ++ [IntKind.wrap .u8 (len gl)] ++ Axg gl ++ beB (len (Asu l)) 4 ++ Asu l = Bze nm data l gl := by
  unfold Bze
  rw [hb1, hb2]
  simp only [List.append_eq, List.nil_append, List.cons_append, List.append_assoc, bytesOf, Aln, len]
 have hpl2 := hpl
 rw [← hpre] at hpl2
 rw [if_pos (by simp only [List.length_append] at hpl2 ⊢; omega), if_pos (by simp only [List.length_append] at hpl2 ⊢; omega), hpre, Co7 N _ (by omega) (by omega), Co6 N (by omega), if_pos (by rw [Agi]; omega)]
 rfl
def Ap7 (n : Nat) (s : Rd) : List Int × Rd := if s.2 = true ∨ s.1.length < n then ([], s.1, true) else (s.1.take n, s.1.drop n, false)
def rwT : Nat → Rd → List Int × Rd
 | 0, s => ([], s)
 | k + 1, s => if s.2 = true then ([], s) else ((Anq 4 s).1 :: (rwT k (Anq 4 s).2).1, (rwT k (Anq 4 s).2).2)
def Ar1 (s : Rd) : List UInt8 × Bool × List Int × Rd :=
 if (Aaq 1 s).1 = 0 then
  if (Aaq 1 s).2.2 = true then ([], false, [], (Aaq 1 s).2.1, true)
  else (txt (Ap7 (Aaq 1 (Aaq 1 s).2).1.toNat (Aaq 1 (Aaq 1 s).2).2).1, true, [], (Ap7 (Aaq 1 (Aaq 1 s).2).1.toNat (Aaq 1 (Aaq 1 s).2).2).2)
 else if (Aaq 1 s).1 = 1 then ([], false, (rwT (Aaq 2 (Aaq 1 s).2).1.toNat (Aaq 2 (Aaq 1 s).2).2).1, (rwT (Aaq 2 (Aaq 1 s).2).1.toNat (Aaq 2 (Aaq 1 s).2).2).2)
 else ([], false, [], (Aaq 1 s).2.1, true)
def rdT : Nat → Rd → Aar → Aar × Rd
 | 0, s, acc => (acc, s)
 | k + 1, s, acc => if s.2 = true then (acc, s) else rdT k (Ar1 s).2.2.2 (acc ++ [((Ar1 s).1, (Ar1 s).2.1, (Ar1 s).2.2.1)])
def reT : Nat → Rd → Aa5 → Aa5 × Rd
 | 0, s, acc => (acc, s)
 | k + 1, s, acc => if s.2 = true then (acc, s) else reT k (Aaq 2 (Aaq 1 s).2).2 (acc ++ [((Aaq 1 s).1, (Aaq 2 (Aaq 1 s).2).1)])
theorem C5f {b : List Int} {n : Nat} {s : Rd} (h : Sfx b s.1) : Sfx b (Ap7 n s).2.1 := by
 unfold Ap7; split
 ·exact h
 ·exact h.drop n
theorem Czu {b : List Int} : ∀ {k : Nat} {s : Rd}, Sfx b s.1 → Sfx b (rwT k s).2.1
 | 0, _, h => h
 | k + 1, s, h => by
  unfold rwT; split
  ·exact h
  ·exact Czu (k := k) (s := (Anq 4 s).2) (B24 h)
theorem Cpy {b : List Int} {s : Rd} (h : Sfx b s.1) : Sfx b (Ar1 s).2.2.2.1 := by
 unfold Ar1
 repeat' split
 ·exact Ady h
 ·exact C5f (Ady (Ady h))
 ·exact Czu (Ady (Ady h))
 ·exact Ady h
theorem Czv {b : List Int} : ∀ {k : Nat} {s : Rd} {acc : Aar}, Sfx b s.1 → Sfx b (rdT k s acc).2.1
 | 0, _, _, h => h
 | k + 1, s, acc, h => by
  unfold rdT; split
  ·exact h
  ·exact Czv (k := k) (Cpy h)
theorem Czw {b : List Int} : ∀ {k : Nat} {s : Rd} {acc : Aa5}, Sfx b s.1 → Sfx b (reT k s acc).2.1
 | 0, _, _, h => h
 | k + 1, s, acc, h => by
  unfold reT; split
  ·exact h
  ·exact Czw (k := k) (Ady (Ady h))
theorem B1m {R : Type} {N : Nat} {b : List Int} (hl : b.length ≤ 4398046511104) {n : Nat} (hn : n ≤ 4398046511104) {s : Rd} (h : Sfx b s.1) (a : List Int → Int → Bool → List Int → Option R) (c : List Int → List Int → Int → Bool → Option R) :
  Aat N n b (pos b s.1) s.2 a c = if s.2 = true ∨ s.1.length < n then a b (pos b s.1) true [] else c (Ap7 n s).1 b (pos b (Ap7 n s).2.1) (Ap7 n s).2.2 := by
 obtain ⟨r, q⟩ := s
 unfold Ap7 Aat
 cases q
 ·simp only [Bool.false_eq_true, false_or] at h ⊢
  have h1 := h.1
  have h2 := Bnk b r
  have hw : wi (len b - ((pos b r : Nat) : Int)) = (r.length : Int) := by rw [Ac8 (by simp only [len]; omega) (by simp only [len]; omega)]; simp only [len]; unfold pos; omega
  rw [if_neg (by decide), hw]
  by_cases h3 : r.length < n
  ·rw [if_pos (by simp only [decide_eq_true_eq]; omega), if_pos h3]
  ·have hw1 : wi (((pos b r : Nat) : Int) + (n : Int)) = ((pos b r + n : Nat) : Int) := by rw [Ac8 (by omega) (by omega)]; omega
   have hw2 : wi (((pos b r + n : Nat) : Int) - (n : Int)) = ((pos b r : Nat) : Int) := by rw [Ac8 (by omega) (by omega)]; omega
   have hp : pos b r + n ≤ b.length := by unfold pos; omega
   rw [if_neg (by simp only [decide_eq_true_eq]; omega), if_neg h3, hw1, hw2]
   rw [if_pos (by simp only [len]; omega), if_pos (by omega), if_neg h3]
   simp only [Int.toNat_natCast]
   have e : List.drop (pos b r) (List.take (pos b r + n) b) = r.take n := by
    rw [← B23, h.seg]
   rw [e, Bfu h (by omega)]
 ·simp
theorem Cxn {R : Type} {N : Nat} {b : List Int} (hb : Ad9 b) (hl : b.length ≤ 4398046511104) (hN : 8 ≤ N) {n : Nat} (hn : n ≤ 7) {s : Rd} (h : Sfx b s.1) (K : Int → List Int → Int → Bool → Option R) :
  Aal N n b (pos b s.1) s.2 K = K (Aaq n s).1 b (pos b (Aaq n s).2.1) (Aaq n s).2.2 := by
 simp only [Aal, A19]
 rw [B1m hl (by omega) h]
 unfold Aaq Ap7
 by_cases hc : s.2 = true ∨ s.1.length < n
 ·rw [if_pos hc, if_pos hc, A0d N hN [] (fun _ h => by cases h) (by simp)]; rfl
 ·rw [if_neg hc, if_neg hc, if_neg hc, A0d N hN _ ((h.bytes hb).take n) (by rw [List.length_take]; omega)]
theorem B1n {R : Type} {N : Nat} {b : List Int} (hb : Ad9 b) (hl : b.length ≤ 4398046511104) (hN : 8 ≤ N) {s : Rd} (h : Sfx b s.1) (K : Int → List Int → Int → Bool → Option R) :
  Aal N 1 b (pos b s.1) s.2 K = K (Aaq 1 s).1 b (pos b (Aaq 1 s).2.1) (Aaq 1 s).2.2 := Cxn hb hl hN (n := 1) (by decide) h K
theorem Co8 {R : Type} {N : Nat} {b : List Int} (hb : Ad9 b) (hl : b.length ≤ 4398046511104) (hN : 8 ≤ N) {s : Rd} (h : Sfx b s.1) (K : Int → List Int → Int → Bool → Option R) :
  Aal N 2 b (pos b s.1) s.2 K = K (Aaq 2 s).1 b (pos b (Aaq 2 s).2.1) (Aaq 2 s).2.2 := Cxn hb hl hN (n := 2) (by decide) h K
theorem C9f {R : Type} {N : Nat} {b : List Int} (hb : Ad9 b) (hl : b.length ≤ 4398046511104) (hN : 8 ≤ N) {s : Rd} (h : Sfx b s.1) (K : Int → List Int → Int → Bool → Option R) :
  Aal N 4 b (pos b s.1) s.2 K = K (Aaq 4 s).1 b (pos b (Aaq 4 s).2.1) (Aaq 4 s).2.2 := Cxn hb hl hN (n := 4) (by decide) h K
theorem Del {R : Type} {N : Nat} {b : List Int} (hb : Ad9 b) (hl : b.length ≤ 4398046511104) (hN : 8 ≤ N) (n : Int) (hn : n ≤ 1000000) (a : List UInt8) (c : Bool) (d : List UInt8) (e : Bool) (f : List Int)
  (K : List Int → Int → Bool → List UInt8 → Bool → List UInt8 → Bool → List Int → List Int → Option R) : ∀ (m k : Nat) (i : Int) (s : Rd) (acc : List Int), m < k → i + m = n → 0 ≤ i → Sfx b s.1 → acc.length ≤ i →
  Abx N k n i b (pos b s.1) s.2 a c d e f acc K = K b (pos b (rwT m s).2.1) (rwT m s).2.2 a c d e f (acc ++ (rwT m s).1) := by
 intro m
 induction m with
 | zero =>
  intro k i s acc hk hi h0 h ha
  obtain ⟨k, rfl⟩ := exk hk
  simp only [Abx, Atv, rwT]
  rw [if_neg (by simp only [decide_eq_true_eq]; omega), List.append_nil]
 | succ m ih =>
  intro k i s acc hk hi h0 h ha
  obtain ⟨k, rfl⟩ := exk hk
  simp only [Abx, Atv]
  rw [if_pos (by simp only [decide_eq_true_eq]; omega)]
  cases hq : s.2
  case true =>
   rw [if_neg (by decide), rwT, if_pos hq, List.append_nil, hq]
  rw [if_pos (by decide), rwT, if_neg (by rw [hq]; decide)]
  have hsz : ∀ v : Int, (acc.length + [v].length) * 8 ≤ 70368744177664 := fun v => by simp only [List.length_cons, List.length_nil]; omega
  have hw : wi (i + 1) = i + 1 := Ac8 (by omega) (by omega)
  have ht := B1m (R := R) (N := N) hl (n := 4) (by decide) h (fun l o p q => Ac4 N q (fun g => if ((((List.length acc) + (List.length (g :: ([] : List Int)))) * (8 : Nat)) ≤ (70368744177664 : Nat)) then (Abx N k n (wi (i + 1)) l o p a c d e f (acc ++ (g :: ([] : List Int))) K) else none))
   (fun r t u w => Ac4 N r (fun j => if ((((List.length acc) + (List.length (j :: ([] : List Int)))) * (8 : Nat)) ≤ (70368744177664 : Nat)) then (Abx N k n (wi (i + 1)) t u w a c d e f (acc ++ (j :: ([] : List Int))) K) else none))
  rw [hq] at ht
  have hstep : ∀ v : Int, v = (Anq 4 s).1 → ∀ s2 : Rd, s2 = (Anq 4 s).2 → (if ((((List.length acc) + (List.length (v :: ([] : List Int)))) * (8 : Nat)) ≤ (70368744177664 : Nat)) then (Abx N k n (wi (i + 1)) b (pos b s2.1) s2.2 a c d e f (acc ++ (v :: ([] : List Int))) K) else none) =
    K b (pos b (rwT m (Anq 4 s).2).2.1) (rwT m (Anq 4 s).2).2.2 a c d e f (acc ++ ((Anq 4 s).1 :: (rwT m (Anq 4 s).2).1)) := by
   intro v hv s2 hs2
   subst hv hs2
   rw [if_pos (hsz _), hw, ih k (i + 1) (Anq 4 s).2 _ (by omega) (by omega) (by omega) (B24 h) (by rw [List.length_append]; simp only [List.length_cons, List.length_nil]; omega), List.append_assoc]
   rfl
  refine Eq.trans ht ?_
  unfold Anq Ap7 at *
  rw [hq] at hstep ⊢
  by_cases hc : s.1.length < 4
  ·rw [if_pos (.inr hc), Bdq N hN [] (fun _ h => by cases h) (.inl rfl)]
   simp only [hc, or_true, if_true, Bool.false_eq_true] at hstep ⊢
   exact hstep 0 rfl (s.1, true) rfl
  ·rw [if_neg (by simp [hc])]
   simp only [hc, or_false, Bool.false_eq_true, if_false] at hstep ⊢
   rw [Bdq N hN _ ((h.bytes hb).take 4) (by rw [List.length_take]; omega)]
   exact hstep _ rfl (s.1.drop 4, false) rfl
theorem Db5 {R : Type} {N : Nat} {b : List Int} (hb : Ad9 b) (hl : b.length ≤ 4398046511104) (hN : 65536 ≤ N) {s : Rd} (h : Sfx b s.1) (K : List UInt8 → Bool → List Int → Int → Bool → List Int → Option R) :
  Ael N b (pos b s.1) s.2 K = K (Ar1 s).1 (Ar1 s).2.1 b (pos b (Ar1 s).2.2.2.1) (Ar1 s).2.2.2.2 (Ar1 s).2.2.1 := by
 have h1 := Ady (n := 1) h
 have h2 := Ady (n := 2) h1
 have h3 := Ady (n := 1) h1
 have hv := Atm hb (n := 2) h1
 have hv1 := Atm hb (n := 1) h1
 simp only [Ael, A54]
 rw [B1n hb hl (by omega) h]
 unfold Ar1
 by_cases e0 : (Aaq 1 s).1 = 0
 ·rw [if_pos (by simpa using e0), if_pos e0]
  cases e1 : (Aaq 1 s).2.2
  ·rw [if_pos (by decide), if_neg (by decide)]
   have hn := B1n (R := R) (N := N) hb hl (by omega) h1 (fun a c d e => Aat N a c d e (fun f g i j => K ((List.map (fun n : Int => (UInt8.ofNat (Int.toNat n))) j)) true f g i (([] : List Int))) (fun l m o p => K ((List.map (fun n : Int => (UInt8.ofNat (Int.toNat n))) l)) true m o p (([] : List Int))))
   rw [e1] at hn
   refine Eq.trans hn ?_
   obtain ⟨n, hne⟩ := Int.eq_ofNat_of_zero_le hv1.1
   rw [hne, B1m hl (by omega) h3, Int.toNat_natCast]
   by_cases hc : (Aaq 1 (Aaq 1 s).2).2.2 = true ∨ (Aaq 1 (Aaq 1 s).2).2.1.length < n
   ·rw [if_pos hc]; unfold Ap7; simp only [if_pos hc]; rfl
   ·rw [if_neg hc]; rfl
  ·rw [if_neg (by decide), if_pos rfl]; rfl
 ·rw [if_neg (by simpa using e0), if_neg e0]
  by_cases e1 : (Aaq 1 s).1 = 1
  ·rw [if_pos (by simpa using e1), if_pos e1, Co8 hb hl (by omega) h1,
    Del hb hl (by omega) _ (by omega) _ _ _ _ _ _ (Aaq 2 (Aaq 1 s).2).1.toNat N 0 (Aaq 2 (Aaq 1 s).2).2 [] (by omega) (by omega) (by omega) h2 (by simp)]
   rfl
  ·rw [if_neg (by simpa using e1), if_neg e1]; rfl
theorem Axi {n : Nat} {s : Rd} (h : s.2 = true) : (Aaq n s).2.2 = true := by unfold Aaq; rw [if_pos (.inl h)]
theorem Cxo {n : Nat} {s : Rd} (h : s.2 = true) : (Anq n s).2.2 = true := by unfold Anq; rw [if_pos (.inl h)]
theorem Ckz : ∀ {k : Nat} {s : Rd}, s.2 = true → (Akd k s).2.2 = true
 | 0, _, h => h
 | k + 1, s, h => Ckz (k := k) (s := (Anq 4 s).2) (Cxo h)
theorem B9m : ∀ {k : Nat} {s : Rd} {acc : Aa5}, s.2 = true → (A1s k s acc).2.2 = true
 | 0, _, _, h => h
 | k + 1, s, acc, h => B9m (k := k) (s := (Aaq 2 (Aaq 1 s).2).2) (Axi (Axi h))
theorem Cpz {s : Rd} (h : s.2 = true) : (An9 s).2.2 = true := by unfold An9; rw [if_pos (Axi h)]
theorem Cxp : ∀ (k : Nat) (s : Rd), if (Akd k s).2.2 = false then rwT k s = Akd k s else (rwT k s).2.2 = true
 | 0, s => by
  rw [show Akd 0 s = ([], s) from rfl, show rwT 0 s = ([], s) from rfl]
  split
  ·rfl
  ·rename_i h; simpa using h
 | k + 1, s => by
  have ih := Cxp k (Anq 4 s).2
  have e : Akd (k + 1) s = ((Anq 4 s).1 :: (Akd k (Anq 4 s).2).1, (Akd k (Anq 4 s).2).2) := rfl
  rw [e]
  dsimp only
  cases hq : s.2
  case true =>
   rw [if_neg (by rw [Ckz (Cxo hq)]; decide), rwT, if_pos hq]; exact hq
  rw [show rwT (k + 1) s = ((Anq 4 s).1 :: (rwT k (Anq 4 s).2).1, (rwT k (Anq 4 s).2).2) by rw [rwT, if_neg (by rw [hq]; decide)]]
  by_cases hb : (Akd k (Anq 4 s).2).2.2 = false
  ·rw [if_pos hb] at ih ⊢
   rw [ih]
  ·rw [if_neg hb] at ih ⊢
   exact ih
theorem B9n (s : Rd) : An9 s = (txt (Ap7 (Aaq 1 s).1.toNat (Aaq 1 s).2).1, (Ap7 (Aaq 1 s).1.toNat (Aaq 1 s).2).2) := by
 unfold An9 Ap7
 by_cases h1 : (Aaq 1 s).2.2 = true
 ·rw [if_pos h1, if_pos (.inl h1)]; rfl
 rw [if_neg h1]
 by_cases h2 : (Aaq 1 s).2.1.length < (Aaq 1 s).1.toNat
 ·rw [if_pos h2, if_pos (.inr h2)]; rfl
 ·rw [if_neg h2, if_neg (fun h => h.elim h1 h2)]
theorem Co9 : ∀ (k : Nat) (s : Rd) (acc : Aar), if (Ahv k s acc).1 = true ∧ (Ahv k s acc).2.2.2 = false then rdT k s acc = (Ahv k s acc).2 else (rdT k s acc).2.2 = true
 | 0, s, acc => by
  rw [show Ahv 0 s acc = (true, acc, s) from rfl, show rdT 0 s acc = (acc, s) from rfl]
  split
  ·rfl
  ·rename_i h; simpa using h
 | k + 1, s, acc => by
  cases hq : s.2
  case true =>
   have hr : rdT (k + 1) s acc = (acc, s) := by rw [rdT, if_pos hq]
   have h0 : (Aaq 1 s).1 = 0 := by unfold Aaq; rw [if_pos (.inl hq)]
   have hd : (Ahv (k + 1) s acc).1 = false := by
    rw [Ahv, if_pos h0, if_pos (Cpz (Axi hq))]
   rw [if_neg (fun h => by rw [hd] at h; exact absurd h.1 (by decide)), hr]; exact hq
  have hr : rdT (k + 1) s acc = rdT k (Ar1 s).2.2.2 (acc ++ [((Ar1 s).1, (Ar1 s).2.1, (Ar1 s).2.2.1)]) := by rw [rdT, if_neg (by rw [hq]; decide)]
  have stop : ∀ (k : Nat) (s : Rd) (acc : Aar), s.2 = true → (rdT k s acc).2.2 = true := by
   intro k s acc h
   cases k with
   | zero => exact h
   | succ k => rw [rdT, if_pos h]; exact h
  by_cases e0 : (Aaq 1 s).1 = 0
  ·by_cases e1 : (Aaq 1 s).2.2 = true
   ·have hd : (Ahv (k + 1) s acc).1 = false := by rw [Ahv, if_pos e0, if_pos (Cpz e1)]
    rw [if_neg (fun h => by rw [hd] at h; exact absurd h.1 (by decide)), hr]
    exact stop _ _ _ (by unfold Ar1; rw [if_pos e0, if_pos e1])
   ·have ha : Ar1 s = ((An9 (Aaq 1 s).2).1, true, [], (An9 (Aaq 1 s).2).2) := by
     unfold Ar1; rw [if_pos e0, if_neg e1, B9n]
    by_cases e2 : (An9 (Aaq 1 s).2).2.2 = true
    ·have hd : (Ahv (k + 1) s acc).1 = false := by rw [Ahv, if_pos e0, if_pos e2]
     rw [if_neg (fun h => by rw [hd] at h; exact absurd h.1 (by decide)), hr, ha]
     exact stop _ _ _ e2
    ·have hd : Ahv (k + 1) s acc = Ahv k (An9 (Aaq 1 s).2).2 (acc ++ [((An9 (Aaq 1 s).2).1, true, [])]) := by rw [Ahv, if_pos e0, if_neg e2]
     rw [hd, hr, ha]
     exact Co9 k _ _
  by_cases e1 : (Aaq 1 s).1 = 1
  ·have ha : Ar1 s = ([], false, (rwT (Aaq 2 (Aaq 1 s).2).1.toNat (Aaq 2 (Aaq 1 s).2).2).1, (rwT (Aaq 2 (Aaq 1 s).2).1.toNat (Aaq 2 (Aaq 1 s).2).2).2) := by
    unfold Ar1; rw [if_neg e0, if_pos e1]
   have hw := Cxp (Aaq 2 (Aaq 1 s).2).1.toNat (Aaq 2 (Aaq 1 s).2).2
   by_cases e2 : (Akd (Aaq 2 (Aaq 1 s).2).1.toNat (Aaq 2 (Aaq 1 s).2).2).2.2 = true
   ·have hd : (Ahv (k + 1) s acc).1 = false := by rw [Ahv, if_neg e0, if_pos e1, if_pos e2]
    rw [if_neg (by rw [e2]; decide)] at hw
    rw [if_neg (fun h => by rw [hd] at h; exact absurd h.1 (by decide)), hr, ha]
    exact stop _ _ _ hw
   ·rw [if_pos (by simpa using e2)] at hw
    have hd : Ahv (k + 1) s acc = Ahv k (Akd (Aaq 2 (Aaq 1 s).2).1.toNat (Aaq 2 (Aaq 1 s).2).2).2 (acc ++ [([], false, (Akd (Aaq 2 (Aaq 1 s).2).1.toNat (Aaq 2 (Aaq 1 s).2).2).1)]) := by rw [Ahv, if_neg e0, if_pos e1, if_neg e2]
    rw [hd, hr, ha, hw]
    exact Co9 k _ _
  ·have hd : (Ahv (k + 1) s acc).1 = false := by rw [Ahv, if_neg e0, if_neg e1]
   rw [if_neg (fun h => by rw [hd] at h; exact absurd h.1 (by decide)), hr]
   exact stop _ _ _ (by unfold Ar1; rw [if_neg e0, if_neg e1])
theorem Czx : ∀ (k : Nat) (s : Rd) (acc : Aa5), if (A1s k s acc).2.2 = false then reT k s acc = A1s k s acc else (reT k s acc).2.2 = true
 | 0, s, acc => by
  rw [show A1s 0 s acc = (acc, s) from rfl, show reT 0 s acc = (acc, s) from rfl]
  split
  ·rfl
  ·rename_i h; simpa using h
 | k + 1, s, acc => by
  have ih := Czx k (Aaq 2 (Aaq 1 s).2).2 (acc ++ [((Aaq 1 s).1, (Aaq 2 (Aaq 1 s).2).1)])
  have e : A1s (k + 1) s acc = A1s k (Aaq 2 (Aaq 1 s).2).2 (acc ++ [((Aaq 1 s).1, (Aaq 2 (Aaq 1 s).2).1)]) := rfl
  rw [e]
  cases hq : s.2
  case true =>
   rw [if_neg (by rw [B9m (Axi (Axi hq))]; decide), reT, if_pos hq]; exact hq
  have er : reT (k + 1) s acc = reT k (Aaq 2 (Aaq 1 s).2).2 (acc ++ [((Aaq 1 s).1, (Aaq 2 (Aaq 1 s).2).1)]) := by rw [reT, if_neg (by rw [hq]; decide)]
  rw [er]
  exact ih
theorem C9g {R : Type} {N : Nat} {b : List Int} (hb : Ad9 b) (hl : b.length ≤ 4398046511104) (hN : 65536 ≤ N) (n : Int) (hn : n ≤ 1000000) (a : Int) (c : List UInt8) (d e : Int) (f : List UInt8) (g j : Int) (l : Aar) (o : OpL) (p : Aa5) (q : OpL) (r : Aa5)
  (K : Int → List UInt8 → Int → Int → List UInt8 → Int → Int → List Int → Int → Bool → Aar → OpL → Aa5 → Aar → OpL → Aa5 → Option R) : ∀ (m k : Nat) (i : Int) (s : Rd) (acc : Aar), m < k → i + m = n → 0 ≤ i → Sfx b s.1 → acc.length ≤ i →
  Adu N k a n i c d e f g j b (pos b s.1) s.2 l o p acc q r K = K a c d e f g j b (pos b (rdT m s acc).2.1) (rdT m s acc).2.2 l o p (rdT m s acc).1 q r := by
 intro m
 induction m with
 | zero =>
  intro k i s acc hk hi h0 h ha
  obtain ⟨k, rfl⟩ := exk hk
  simp only [Adu, A3v, rdT]
  rw [if_neg (by simp only [decide_eq_true_eq]; omega)]
 | succ m ih =>
  intro k i s acc hk hi h0 h ha
  obtain ⟨k, rfl⟩ := exk hk
  simp only [Adu, A3v]
  rw [if_pos (by simp only [decide_eq_true_eq]; omega)]
  cases hq : s.2
  case true => rw [if_neg (by decide), rdT, if_pos hq, hq]
  have ha2 := Db5 (R := R) hb hl hN h (fun t u w x y v => if ((((List.length acc) + (List.length ((t, (u, v)) :: ([] : List (List UInt8 × Bool × List Int))))) * (48 : Nat)) ≤ (70368744177664 : Nat)) then (Adu N k a n (wi (i + 1)) c d e f g j w x y l o p (acc ++ ((t, (u, v)) :: ([] : List (List UInt8 × Bool × List Int)))) q r K) else none)
  rw [hq] at ha2
  rw [if_pos (by decide), rdT, if_neg (by rw [hq]; decide)]
  refine Eq.trans ha2 ?_
  rw [if_pos (by simp only [List.length_cons, List.length_nil]; omega), Ac8 (by omega) (by omega)]
  exact ih k (i + 1) (Ar1 s).2.2.2 _ (by omega) (by omega) (by omega) (Cpy h) (by rw [List.length_append]; simp only [List.length_cons, List.length_nil]; omega)
theorem C9h {R : Type} {N : Nat} {b : List Int} (hb : Ad9 b) (hl : b.length ≤ 4398046511104) (hN : 8 ≤ N) (n : Int) (hn : n ≤ 1000000) (a : Int) (c : List UInt8) (d e : Int) (f : List UInt8) (g j : Int) (l : Aar) (o : OpL) (p : Aa5) (q : Aar) (r : OpL)
  (K : Int → List UInt8 → Int → Int → List UInt8 → Int → Int → List Int → Int → Bool → Aar → OpL → Aa5 → Aar → OpL → Aa5 → Option R) : ∀ (m k : Nat) (i : Int) (s : Rd) (acc : Aa5), m < k → i + m = n → 0 ≤ i → Sfx b s.1 → acc.length ≤ i →
  Adv N k a n i c d e f g j b (pos b s.1) s.2 l o p q r acc K = K a c d e f g j b (pos b (reT m s acc).2.1) (reT m s acc).2.2 l o p q r (reT m s acc).1 := by
 intro m
 induction m with
 | zero =>
  intro k i s acc hk hi h0 h ha
  obtain ⟨k, rfl⟩ := exk hk
  simp only [Adv, A3x, reT]
  rw [if_neg (by simp only [decide_eq_true_eq]; omega)]
 | succ m ih =>
  intro k i s acc hk hi h0 h ha
  obtain ⟨k, rfl⟩ := exk hk
  simp only [Adv, A3x]
  rw [if_pos (by simp only [decide_eq_true_eq]; omega)]
  cases hq : s.2
  case true => rw [if_neg (by decide), reT, if_pos hq, hq]
  have h1 := Ady (n := 1) h
  have hw : wi (i + 1) = i + 1 := Ac8 (by omega) (by omega)
  have ha2 := B1n (R := R) (N := N) hb hl (by omega) h (fun t v w x => Aal N 2 v w x (fun u y z A => if ((((List.length acc) + (List.length ((t, u) :: ([] : List (Int × Int))))) * (16 : Nat)) ≤ (70368744177664 : Nat)) then (Adv N k a n (wi (i + 1)) c d e f g j y z A l o p q r (acc ++ ((t, u) :: ([] : List (Int × Int)))) K) else none))
  rw [hq] at ha2
  rw [if_pos (by decide), reT, if_neg (by rw [hq]; decide)]
  refine Eq.trans ha2 ?_
  rw [Co8 hb hl (by omega) h1, if_pos (by simp only [List.length_cons, List.length_nil]; omega), hw]
  exact ih k (i + 1) (Aaq 2 (Aaq 1 s).2).2 _ (by omega) (by omega) (by omega) (Ady h1) (by rw [List.length_append]; simp only [List.length_cons, List.length_nil]; omega)
noncomputable def Bx4 {R : Type} (N : Nat) (o : Int) (b : List Int) (a : Int) (q : Bool) (w : List Int) (c : List UInt8 → Int → Int → Int → Int → Int → Aar → OpL → Aa5 → Option R) : Option R :=
 Aal N 2 b a q (fun p r s t => Adu N N o p 0 (([] : List UInt8)) 0 0 ((List.map (fun n : Int => (UInt8.ofNat (Int.toNat n))) w)) 0 0 r s t (([] : List (List UInt8 × Bool × List Int))) (([] : List (Int × Int × Int))) (([] : List (Int × Int))) (([] : List (List UInt8 × Bool × List Int))) (([] : List (Int × Int × Int))) (([] : List (Int × Int))) (fun u v x y z A B C D E F G H I J L => Aal N 1 C D E (fun M O P Q => Adv N N u M 0 v x y z A B O P Q F G H I J L (fun m ab ac ad d e f S T U ae af ag g h i => Aal N 4 S T U (fun j V l W => Aat N j V l W (fun ah X Y ai => if (Y = true) then (c d e f 0 0 3 g h i) else (if ((X != m) = true) then (c d e f 0 0 3 g h i) else (c d e f l j 0 g h i))) (fun aj ak Z aa => if (aa = true) then (c d e f 0 0 3 g h i) else (if ((Z != m) = true) then (c d e f 0 0 3 g h i) else (c d e f l j 0 g h i))))))))
def Ba6 (b : List Int) : Option (List UInt8 × Aar × Aa5 × Nat × Int) :=
 if (hdT b).1 ≠ 6447617 then none
 else if (daT b).1 = false then none
 else if (szT b).2.2 = true then none
 else if (szT b).1 ≠ (szT b).2.1.length then none
 else some ((nmT b).1, (daT b).2.1, (enT b).1, pos (Aax b) (szT b).2.1, (szT b).1)
theorem C9i {R : Type} {N : Nat} {b : List Int} (hb : Ad9 b) (hl : b.length ≤ 200000) (hN : 500000 ≤ N) (w : List Int) (hw : txt w = (nmT b).1) (hh : (hdT b).1 = 6447617) :
  match Ba6 b with
  | some (nm, data, gl, fr, sz) => ∀ K : List UInt8 → Int → Int → Int → Int → Int → Aar → OpL → Aa5 → Option R, Bx4 N (Aax b).length (Aax b) (pos (Aax b) (nmT b).2.1) (nmT b).2.2 w K = K nm 0 0 fr sz 0 data [] gl
  | none => ∃ nm data gl, ∀ K : List UInt8 → Int → Int → Int → Int → Int → Aar → OpL → Aa5 → Option R, Bx4 N (Aax b).length (Aax b) (pos (Aax b) (nmT b).2.1) (nmT b).2.2 w K = K nm 0 0 0 0 3 data [] gl := by
 have hB : Ad9 (Aax b) := hb.take _
 have hL : (Aax b).length ≤ 200000 := by unfold Aax; rw [List.length_take]; omega
 have hL2 : (Aax b).length ≤ 4398046511104 := by omega
 have s1 : Sfx (Aax b) (hdT b).2.1 := Ady (s := (Aax b, false)) (Sfx.refl _)
 have s2 : Sfx (Aax b) (nmT b).2.1 := A0e s1
 have s3 : Sfx (Aax b) (dcT b).2.1 := Ady s2
 have c : 0 ≤ (dcT b).1 ∧ (dcT b).1 < 256 ^ 2 := Atm hB (n := 2) s2
 obtain ⟨d, hd⟩ : ∃ d, rdT (dcT b).1.toNat (dcT b).2 [] = d := ⟨_, rfl⟩
 have s4 : Sfx (Aax b) d.2.1 := by rw [← hd]; exact Czv s3
 have s5 : Sfx (Aax b) (Aaq 1 d.2).2.1 := Ady s4
 have f := Atm hB (n := 1) s4
 obtain ⟨e, he⟩ : ∃ e, reT (Aaq 1 d.2).1.toNat (Aaq 1 d.2).2 [] = e := ⟨_, rfl⟩
 have s6 : Sfx (Aax b) e.2.1 := by rw [← he]; exact Czw s5
 have s7 : Sfx (Aax b) (Aaq 4 e.2).2.1 := Ady s6
 have a := Atm hB (n := 4) s6
 obtain ⟨z, hz⟩ : ∃ z, Aaq 4 e.2 = z := ⟨_, rfl⟩
 rw [hz] at s7 a
 obtain ⟨n, hn⟩ := Int.eq_ofNat_of_zero_le a.1
 have main : ∀ K : List UInt8 → Int → Int → Int → Int → Int → Aar → OpL → Aa5 → Option R, Bx4 N (Aax b).length (Aax b) (pos (Aax b) (nmT b).2.1) (nmT b).2.2 w K =
   if z.2.2 = true ∨ z.2.1.length ≠ n then K (nmT b).1 0 0 0 0 3 d.1 [] e.1 else K (nmT b).1 0 0 (pos (Aax b) z.2.1) n 0 d.1 [] e.1 := by
  intro K
  unfold Bx4
  have t3 : ∀ K, Aal N 2 (Aax b) (pos (Aax b) (nmT b).2.1) (nmT b).2.2 K = K (dcT b).1 (Aax b) (pos (Aax b) (dcT b).2.1) (dcT b).2.2 := fun K => Co8 (R := R) hB hL2 (by omega) s2 K
  rw [t3, C9g hB hL2 (by omega) _ (by omega) _ _ _ _ _ _ _ _ _ _ _ _ _ (dcT b).1.toNat N 0 (dcT b).2 [] (by omega) (by omega) (by omega) s3 (by simp), hd, B1n hB hL2 (by omega) s4,
   C9h hB hL2 (by omega) _ (by omega) _ _ _ _ _ _ _ _ _ _ _ _ _ (Aaq 1 d.2).1.toNat N 0 (Aaq 1 d.2).2 [] (by omega) (by omega) (by omega) s5 (by simp), he, C9f hB hL2 (by omega) s6, hz, hn, B1m hL2 (by omega) s7]
  have hw' : List.map (fun n : Int => UInt8.ofNat (Int.toNat n)) w = (nmT b).1 := hw
  rw [hw']
  by_cases c1 : z.2.2 = true ∨ z.2.1.length < n
  ·rw [if_pos c1, if_pos rfl, if_pos (by rcases c1 with h | h; exact .inl h; exact .inr (by omega))]
  ·rw [if_neg c1]
   have c1' : ¬z.2.2 = true := fun h => c1 (.inl h)
   have hlen : n ≤ z.2.1.length := by
    rcases Nat.lt_or_ge z.2.1.length n with h | h
    ·exact absurd (.inr h) c1
    ·exact h
   have ht : Ap7 n z.2 = (z.2.1.take n, z.2.1.drop n, false) := by unfold Ap7; rw [if_neg c1]
   rw [ht]
   dsimp only
   rw [if_neg (by decide), Bfu s7 hlen]
   have h7 := s7.1
   have hpz : pos (Aax b) z.2.1 + z.2.1.length = (Aax b).length := by unfold pos; omega
   by_cases c2 : z.2.1.length = n
   ·rw [if_neg (by simp only [bne_iff_ne, ne_eq]; omega), if_neg (fun h => h.elim c1' (fun h => h c2))]
   ·rw [if_pos (by simp only [bne_iff_ne, ne_eq]; omega), if_pos (.inr c2)]
 unfold Ba6
 rw [if_neg (fun h => h hh)]
 have hr := Co9 (dcT b).1.toNat (dcT b).2 []
 rw [hd] at hr
 change if (daT b).1 = true ∧ (daT b).2.2.2 = false then d = (daT b).2 else d.2.2 = true at hr
 have badz : e.2.2 = true → z.2.2 = true := fun h => by rw [← hz]; exact Axi h
 by_cases g1 : (daT b).1 = true ∧ (daT b).2.2.2 = false
 case neg =>
  rw [if_neg g1] at hr
  have hez : z.2.2 = true := badz (by
   rw [← he]
   have h1 : (Aaq 1 d.2).2.2 = true := Axi hr
   cases (Aaq 1 d.2).1.toNat with
   | zero => exact h1
   | succ k => rw [reT, if_pos h1]; exact h1)
  have hnone : (if (daT b).1 = false then none else if (szT b).2.2 = true then none else if (szT b).1 ≠ (szT b).2.1.length then none else some ((nmT b).1, (daT b).2.1, (enT b).1, pos (Aax b) (szT b).2.1, (szT b).1)) = none := by
   by_cases h1 : (daT b).1 = false
   ·rw [if_pos h1]
   ·rw [if_neg h1]
    have h2 : (daT b).2.2.2 = true := by
     cases h : (daT b).2.2.2
     ·exact absurd ⟨by simpa using h1, h⟩ g1
     ·rfl
    have h3 : (szT b).2.2 = true := Axi (B9m (Axi h2))
    rw [if_pos h3]
  rw [hnone]
  exact ⟨_, _, _, fun K => by rw [main, if_pos (.inl hez)]⟩
 rw [if_pos g1] at hr
 subst hr
 rw [if_neg (by rw [g1.1]; decide)]
 have hg := Czx (gcT b).1.toNat (gcT b).2 []
 change reT (gcT b).1.toNat (gcT b).2 [] = e at he
 rw [he] at hg
 change if (enT b).2.2 = false then e = enT b else e.2.2 = true at hg
 by_cases g2 : (enT b).2.2 = false
 case neg =>
  rw [if_neg g2] at hg
  have h3 : (szT b).2.2 = true := Axi (by simpa using g2)
  rw [if_pos h3]
  exact ⟨_, _, _, fun K => by rw [main, if_pos (.inl (badz hg))]⟩
 rw [if_pos g2] at hg
 subst hg
 change szT b = z at hz
 rw [hz]
 by_cases c3 : z.2.2 = true
 ·rw [if_pos c3]
  exact ⟨_, _, _, fun K => by rw [main, if_pos (.inl c3)]⟩
 rw [if_neg c3]
 by_cases c4 : z.1 ≠ z.2.1.length
 ·rw [if_pos c4]
  exact ⟨_, _, _, fun K => by rw [main, if_pos (.inr (by omega))]⟩
 ·rw [if_neg c4]
  intro K
  rw [main, if_neg (fun h => h.elim c3 (fun h => h (by omega))), ← hn]
def Aer (ps : List Pc) : List Int := ps.map fun p => p.2.1
def Alz (ps : List Pc) : OpL := ps.map fun p => p.1
theorem B9o : ∀ (k : Nat) (r : List Int) (a : Nat) (ps : List Pc), Ad9 r → Aiz k r a = some ps →
  Aer ps ++ [((a + r.length : Nat) : Int)] = (a : Int) :: ps.map (fun p => p.2.2.1) ∧
  (∀ p, p ∈ ps → (a : Int) ≤ p.2.1 ∧ p.2.1 < ((a + r.length : Nat) : Int) ∧ p.2.2.2 = A6h p.1 p.2.2.1 ∧ p.2.2.1 ≤ ((a + r.length : Nat) : Int) ∧ (-4294967296 ≤ p.1.2.1 ∧ p.1.2.1 < 4294967296) ∧ (-4294967296 ≤ p.1.2.2 ∧ p.1.2.2 < 4294967296) ∧ (1 ≤ p.1.1 ∧ p.1.1 ≤ 30 ∧ p.1.1 ≠ 19) ∧ 0 ≤ p.2.2.1) ∧ (Aer ps).Pairwise (· < ·)
 | 0, r, a, ps, _, h => by
  rw [Aiz] at h
  split at h
  ·rename_i hr; subst hr; cases h
   refine ⟨rfl, ?_, List.Pairwise.nil⟩
   intro p hp; cases hp
  ·cases h
 | k + 1, r, a, ps, hb, h => by
  rw [Aiz] at h
  split at h
  ·rename_i hr; subst hr; cases h
   refine ⟨rfl, ?_, List.Pairwise.nil⟩
   intro p hp; cases hp
  split at h
  ·cases h
  rename_i o n hi
  split at h
  ·cases h
  rename_i l hl
  cases h
  have hin := Cow hb hi
  obtain ⟨h1, h2, h3⟩ := B9o k (r.drop n) (a + n) l (hb.drop n) hl
  have hlen : a + n + (r.drop n).length = a + r.length := by rw [List.length_drop]; omega
  rw [hlen] at h1 h2
  refine ⟨?_, ?_, ?_⟩
  ·simp only [Aer, List.map_cons, List.cons_append] at h1 ⊢
   rw [h1]
  ·intro p hp
   rcases List.mem_cons.mp hp with rfl | hp
   ·simp only; refine ⟨by omega, by omega, trivial, by omega, hin.2.1, hin.2.2.1, hin.1, by omega⟩
   ·have := h2 p hp; refine ⟨by omega, this.2⟩
  ·simp only [Aer, List.map_cons]
   refine List.Pairwise.cons ?_ h3
   intro x hx
   obtain ⟨p, hp, rfl⟩ := List.mem_map.mp hx
   have := h2 p hp
   omega
theorem C29 {R : Type} {N : Nat} {b : List Int} (hb : Ad9 b) (hl : b.length ≤ 1000000) (hN : 8 ≤ N) (a : Bool → OpL → List Int → Option R) (c : Int → OpL → List Int → Option R) : ∀ (m k : Nat) (r : List Int) (acc : OpL) (acc2 : List Int), r.length ≤ m → m < k → Sfx b r → acc.length ≤ pos b r → acc2.length ≤ pos b r →
  Ahy N k b (pos b r) acc acc2 a c = match Aiz m r (pos b r) with | none => a false [] [] | some l => c b.length (acc ++ Alz l) (acc2 ++ Aer l) := by
 intro m
 induction m with
 | zero =>
  intro k r acc acc2 h0 hk h ha ha2
  obtain ⟨k, rfl⟩ := exk hk
  obtain rfl : r = [] := List.eq_nil_of_length_eq_zero (by omega)
  have hp : pos b [] = b.length := by unfold pos; simp
  simp only [Ahy, Bat, Aiz, hp]
  rw [if_neg (by simp [len]), if_pos trivial]
  simp [Alz, Aer]
 | succ m ih =>
  intro k r acc acc2 h0 hk h ha ha2
  obtain ⟨k, rfl⟩ := exk hk
  simp only [Ahy, Bat]
  by_cases hr : r = []
  ·subst hr
   have hp : pos b [] = b.length := by unfold pos; simp
   rw [hp, if_neg (by simp [len]), Aiz, if_pos rfl]
   simp [Alz, Aer]
  have hr0 : 0 < r.length := List.length_pos_iff.mpr hr
  have hrl := h.1
  rw [if_pos (by unfold pos; simp [len]; omega), Aiz, if_neg hr, Cy2 N hN b hb (by unfold reachBytes; omega)]
  have hat := C4w h hr
  cases hi : Cg2 r with
  | none =>
   rw [hi] at hat
   obtain ⟨e, he, hat⟩ := hat
   rw [hat, if_pos (by simpa using he)]
  | some on =>
   obtain ⟨o, n⟩ := on
   rw [hi] at hat
   simp only at hat
   have hin := Cow (h.bytes hb) hi
   have hpl := Bnk b r
   have hpd := Bfu h (n := n) hin.2.2.2.2.2
   have he : wi (((pos b r : Nat) : Int) + (n : Int)) = ((pos b r + n : Nat) : Int) := by rw [Ac8 (by omega) (by omega)]; omega
   rw [hat, if_neg (by decide), if_pos (by simp only [List.length_cons, List.length_nil]; omega), if_pos (by simp only [List.length_cons, List.length_nil]; omega), he]
   have := ih k (r.drop n) (acc ++ [o]) (acc2 ++ [((pos b r : Nat) : Int)]) (by rw [List.length_drop]; omega) (by omega) (h.drop n) (by rw [hpd, List.length_append]; simp only [List.length_cons, List.length_nil]; omega) (by rw [hpd, List.length_append]; simp only [List.length_cons, List.length_nil]; omega)
   rw [hpd] at this
   refine Eq.trans this ?_
   dsimp only
   cases Aiz m (r.drop n) (pos b r + n) with
   | none => rfl
   | some l => simp only [List.append_assoc, Alz, Aer, List.map_cons]; rfl
theorem C7h {R : Type} {N : Nat} {b : List Int} (hb : Ad9 b) (hl : b.length ≤ 1000000) (hN : 8 ≤ N) (hN2 : b.length < N) (K : Bool → OpL → List Int → Option R) :
  Ags N b K = match Aiz b.length b 0 with | none => K false [] [] | some l => K true (Alz l) (Aer l ++ [(b.length : Int)]) := by
 simp only [Ags, Bue]
 have := C29 (R := R) hb hl hN (fun d e f => K d e f) (fun a g c => if ((((List.length c) + (List.length (a :: ([] : List Int)))) * (8 : Nat)) ≤ (70368744177664 : Nat)) then (K true g ((c ++ (a :: ([] : List Int))))) else none) b.length N b [] [] (Nat.le_refl _) hN2 (Sfx.refl b) (by simp) (by simp)
 rw [show pos b b = 0 by unfold pos; omega] at this
 refine Eq.trans this ?_
 cases hp : Aiz b.length b 0 with
 | none => rfl
 | some l =>
  have := Bme _ _ _ _ hp
  simp only [List.nil_append]
  rw [if_pos (by simp only [Aer, List.length_map, List.length_cons, List.length_nil]; omega)]
structure B28 (sz : Nat) (ps : List Pc) : Prop where
 next : ∀ i, (h : i < ps.length) → (Aer ps ++ [(sz : Int)]).getD (i + 1) 0 = (ps[i]'h).2.2.1
 mem : ∀ p, p ∈ ps → 0 ≤ p.2.1 ∧ p.2.1 < sz ∧ p.2.2.2 = A6h p.1 p.2.2.1 ∧ 0 ≤ p.2.2.1 ∧ p.2.2.1 ≤ sz ∧ (-4294967296 ≤ p.1.2.1 ∧ p.1.2.1 < 4294967296) ∧ (-4294967296 ≤ p.1.2.2 ∧ p.1.2.2 < 4294967296) ∧ (1 ≤ p.1.1 ∧ p.1.1 ≤ 30 ∧ p.1.1 ≠ 19)
 inc : (Aer ps).Pairwise (· < ·)
 le : ps.length ≤ sz
 sz : sz ≤ 1000000
theorem Dem {b : List Int} (hb : Ad9 b) (hl : b.length ≤ 1000000) {ps : List Pc} (h : Aiz b.length b 0 = some ps) : B28 b.length ps := by
 obtain ⟨h1, h2, h3⟩ := B9o _ _ _ _ hb h
 rw [Nat.zero_add] at h1 h2
 refine ⟨fun i hi => ?_, fun p hp => ?_, h3, Bme _ _ _ _ h, hl⟩
 ·rw [h1, List.getD_cons_succ, List.getD_eq_getElem?_getD, List.getElem?_map, List.getElem?_eq_getElem hi]; rfl
 ·have := h2 p hp
  refine ⟨by omega, by omega, this.2.2.1, by omega, by omega, this.2.2.2.2.1, this.2.2.2.2.2.1, this.2.2.2.2.2.2.1⟩
theorem Cpa {ps : List Pc} {sz : Int} {i : Nat} (h : i < ps.length) : (Aer ps ++ [sz]).getD i 0 = (ps[i]).2.1 := by
 unfold Aer
 rw [List.getD_eq_getElem?_getD, List.getElem?_append_left (by rw [List.length_map]; exact h), List.getElem?_map, List.getElem?_eq_getElem h]; rfl
theorem Czy {ps : List Pc} {i : Nat} (h : i < ps.length) : (Alz ps).getD i (0, 0, 0) = (ps[i]).1 := by
 unfold Alz
 rw [List.getD_eq_getElem?_getD, List.getElem?_map, List.getElem?_eq_getElem h]; rfl
def jmp (op : Int) : Bool := op == 30 || Auc op
def la0 : List Pc → List Int → List Int
 | [], la => la
 | p :: r, la => la0 r (la.set p.2.1.toNat 0)
def la1 (sz : Int) : List Pc → List Int → Option (List Int)
 | [], la => some la
 | p :: r, la => if jmp p.1.1 = true then (if p.2.2.2 < 0 ∨ sz ≤ p.2.2.2 ∨ la.getD p.2.2.2.toNat 0 < 0 then none else la1 sz r (la.set p.2.2.2.toNat 1)) else la1 sz r la
def la2 : List Pc → Int → List Int → Int × List Int
 | [], n, la => (n, la)
 | p :: r, n, la => if 0 < la.getD p.2.1.toNat 0 then la2 r (n + 1) (la.set p.2.1.toNat (n + 1)) else la2 r n la
def B9p (la : List Int) (p : Pc) : Int × Int × Int :=
 if p.1.1 = 30 then (p.1.1, p.1.2.1, la.getD p.2.2.2.toNat 0) else if Auc p.1.1 = true then (p.1.1, la.getD p.2.2.2.toNat 0, p.1.2.2) else p.1
def Cg7 (la : List Int) (p : Pc) : OpL := if 0 < la.getD p.2.1.toNat 0 then [(19, la.getD p.2.1.toNat 0, 0)] else []
def Ax6 (la : List Int) : List Pc → OpL
 | [] => []
 | p :: r => Cg7 la p ++ B9p la p :: Ax6 la r
theorem B1o : ∀ (ps : List Pc) (la : List Int), (la0 ps la).length = la.length
 | [], _ => rfl
 | p :: r, la => by rw [la0, B1o r]; simp
theorem Cah (sz : Int) : ∀ (ps : List Pc) (la q : List Int), la1 sz ps la = some q → q.length = la.length
 | [], la, q, h => by simp only [la1, Option.some.injEq] at h; subst h; rfl
 | p :: r, la, q, h => by
  rw [la1] at h
  split at h
  ·split at h
   ·cases h
   ·have := Cah sz r _ _ h; simpa using this
  ·exact Cah sz r _ _ h
theorem Cpb : ∀ (ps : List Pc) (n : Int) (la : List Int), (la2 ps n la).2.length = la.length
 | [], _, _ => rfl
 | p :: r, n, la => by
  rw [la2]; split
  ·rw [Cpb r]; simp
  ·exact Cpb r _ _
theorem C5g {R : Type} (N : Nat) (a : List Int) (sz : Nat) (b : List UInt8) (c d : Int) (f : List UInt8) (g h : Int) (j : OpL) (l : List Int) (n : Aar) (o : OpL) (p : Aa5) (q : Aar) (r : OpL) (s : Aa5) (hb : sz ≤ 1000000)
  (K : List Int → Int → List UInt8 → Int → Int → List UInt8 → Int → Int → OpL → List Int → List Int → Aar → OpL → Aa5 → Aar → OpL → Aa5 → Option R) :
  ∀ (m k i : Nat) (la : List Int), m < k → i + m = sz + 1 → la.length = sz + 1 →
  Acu N k a sz i b c d f g h j l la n o p q r s K = K a sz b c d f g h j l (la.take i ++ List.replicate m (-1)) n o p q r s := by
 intro m
 induction m with
 | zero =>
  intro k i la hk hi hl
  obtain ⟨k, rfl⟩ := exk hk
  simp only [Acu, A08]
  rw [if_neg (by simp only [decide_eq_true_eq]; omega), List.take_of_length_le (by omega)]; simp
 | succ m ih =>
  intro k i la hk hi hl
  obtain ⟨k, rfl⟩ := exk hk
  simp only [Acu, A08]
  rw [if_pos (by simp only [decide_eq_true_eq]; omega), if_pos (by simp only [len]; omega), Abh (by omega), Int.toNat_natCast, ih k (i + 1) _ (by omega) (by omega) (by rw [List.length_set]; exact hl)]
  have e : (la.set i (-1)).take (i + 1) = la.take i ++ [-1] := by
   rw [List.take_add_one, List.take_set, List.getElem?_set_self (by omega), List.set_eq_of_length_le (by rw [List.length_take]; omega)]; rfl
  rw [e, List.append_assoc, List.replicate_succ]; rfl
theorem C5h {R : Type} (N : Nat) (a : List Int) (b : Int) (c : List UInt8) (d e : Int) (f : List UInt8) (g j : Int) (ps : List Pc) (sz : Nat) (H : B28 sz ps) (l : Aar) (m : OpL) (n : Aa5) (o : Aar) (p : OpL) (q : Aa5)
  (K : List Int → Int → List UInt8 → Int → Int → List UInt8 → Int → Int → OpL → List Int → List Int → Aar → OpL → Aa5 → Aar → OpL → Aa5 → Option R) :
  ∀ (k i : Nat) (la : List Int), i ≤ ps.length → ps.length - i < k → la.length = sz + 1 →
  Acv N k a b i c d e f g j (Alz ps) (Aer ps ++ [(sz : Int)]) la l m n o p q K = K a b c d e f g j (Alz ps) (Aer ps ++ [(sz : Int)]) (la0 (ps.drop i) la) l m n o p q := by
 have hsz := H.sz
 have hle := H.le
 intro k
 induction k with
 | zero => intro i _ _ h; omega
 | succ k ih =>
  intro i la hi hk hl
  simp only [Acv, Bbs]
  by_cases hlt : i < ps.length
  case neg =>
   rw [if_neg (by simp [len, Alz]; omega), List.drop_eq_nil_of_le (by omega)]; rfl
  have hm := H.mem ps[i] (List.getElem_mem hlt)
  rw [if_pos (by simp [len, Alz]; omega), if_pos (by simp [len, Aer]; omega), Int.toNat_natCast, Cpa hlt, if_pos (by simp only [len]; omega), Abh (by omega), List.drop_eq_getElem_cons hlt, la0]
  exact ih (i + 1) _ (by omega) (by omega) (by rw [List.length_set]; exact hl)
theorem Bvu {o : Int × Int × Int} {e : Int} (h : jmp o.1 = true) : A6h o e = if o.1 = 30 then e + o.2.2 else e + o.2.1 := by
 unfold A6h
 by_cases h30 : o.1 = 30
 ·rw [if_neg (by omega), if_pos h30, if_pos h30]
 ·simp only [jmp, Auc, Bool.or_eq_true, beq_iff_eq] at h
  rw [if_pos (by omega), if_neg h30]
theorem Czz {o : Int × Int × Int} {e : Int} (h : jmp o.1 = false) : A6h o e = -1 := by
 unfold A6h
 simp only [jmp, Auc, Bool.or_eq_false_iff, beq_eq_false_iff_ne] at h
 rw [if_neg (by omega), if_neg (by omega)]
theorem C5i {R : Type} (N : Nat) (b : List Int) (c : List UInt8) (e f : Int) (g : List UInt8) (j l : Int) (ps : List Pc) (sz : Nat) (H : B28 sz ps) (m : Aar) (n : OpL) (o : Aa5) (p : Aar) (r : OpL) (s : Aa5)
  (a : Int → List UInt8 → Int → Int → Aar → OpL → Aa5 → Option R) (t : List Int → List UInt8 → Int → Int → List UInt8 → Int → Int → OpL → List Int → List Int → Aar → OpL → Aa5 → Aar → OpL → Aa5 → Option R) :
  ∀ (k i : Nat) (la : List Int), i ≤ ps.length → ps.length - i < k → la.length = sz + 1 →
  Acf N k b sz i c e f g j l (Alz ps) (Aer ps ++ [(sz : Int)]) la m n o p r s a t = match la1 sz (ps.drop i) la with
   | none => a 3 [] 0 0 [] [] []
   | some q => t b c e f g j l (Alz ps) (Aer ps ++ [(sz : Int)]) q m n o p r s := by
 have hsz := H.sz
 have hle := H.le
 intro k
 induction k with
 | zero => intro i _ _ h; omega
 | succ k ih =>
  intro i la hi hk hl
  simp only [Acf, Bbv]
  by_cases hlt : i < ps.length
  case neg =>
   rw [if_neg (by simp [len, Alz]; omega), List.drop_eq_nil_of_le (by omega)]; rfl
  have hm := H.mem ps[i] (List.getElem_mem hlt)
  have hin : (0 : Int) ≤ i ∧ (i : Int) < len (Alz ps) := by simp only [len, Alz, List.length_map]; omega
  have hnx := H.next i hlt
  rw [if_pos (by simp [len, Alz]; omega), List.drop_eq_getElem_cons hlt, la1]
  simp only [if_pos hin, Int.toNat_natCast, Czy hlt, A94]
  obtain ⟨x, hx⟩ : ∃ x, ps[i] = x := ⟨_, rfl⟩
  simp only [hx] at hm hnx ⊢
  have h46 : ∀ d : Int, (-4294967296 ≤ d ∧ d < 4294967296) → ∀ is : Bool, (is = true → jmp x.1.1 = true ∧ x.2.2.1 + d = x.2.2.2) → (is = false → jmp x.1.1 = false) →
    Ac7 N b sz i d is c e f g j l (Alz ps) (Aer ps ++ [(sz : Int)]) la m n o p r s (fun u v w y z A B => a u v w y z A B) (fun C D E F G I J L M O P Q S T U V W X => Acf N k C D (wi (E + 1)) F G I J L M O P Q S T U V W X a t) =
    match (if jmp x.1.1 = true then (if x.2.2.2 < 0 ∨ (sz : Int) ≤ x.2.2.2 ∨ la.getD x.2.2.2.toNat 0 < 0 then none else la1 sz (ps.drop (i + 1)) (la.set x.2.2.2.toNat 1)) else la1 sz (ps.drop (i + 1)) la) with
     | none => a 3 [] 0 0 [] [] []
     | some q => t b c e f g j l (Alz ps) (Aer ps ++ [(sz : Int)]) q m n o p r s := by
   intro d hd is h1 h0
   simp only [Ac7]
   rw [Abh (by omega), if_pos (by simp only [len, Aer, List.length_append, List.length_map, List.length_cons, List.length_nil]; omega), Int.toNat_natCast, hnx, Ac8 (by omega) (by omega)]
   cases is
   ·rw [if_neg (by decide), if_neg (by decide), if_neg (by rw [h0 rfl]; decide)]
    exact ih (i + 1) la (by omega) (by omega) hl
   ·obtain ⟨hj, ht⟩ := h1 rfl
    rw [if_pos rfl, if_pos hj, ht]
    by_cases c1 : x.2.2.2 < 0
    ·rw [if_pos (by simpa using c1), if_pos (.inl c1)]
    rw [if_neg (by simpa using c1)]
    by_cases c2 : (sz : Int) ≤ x.2.2.2
    ·rw [if_pos (by simpa using c2), if_pos (.inr (.inl c2))]
    have hil : 0 ≤ x.2.2.2 ∧ x.2.2.2 < len la := by simp only [len]; omega
    rw [if_neg (by simpa using c2), if_pos hil]
    by_cases c3 : la.getD x.2.2.2.toNat 0 < 0
    ·rw [if_pos (by simpa using c3), if_pos (.inr (.inr c3))]
    rw [if_neg (by simpa using c3), if_pos rfl, if_pos hil, if_neg (by omega)]
    exact ih (i + 1) _ (by omega) (by omega) (by rw [List.length_set]; exact hl)
  have hto := hm.2.2.1
  by_cases h30 : x.1.1 = 30
  ·have hj : jmp x.1.1 = true := by unfold jmp; rw [h30]; rfl
   rw [if_pos (by simpa using h30)]
   exact h46 x.1.2.2 hm.2.2.2.2.2.2.1 true (fun _ => ⟨hj, by rw [hto, Bvu hj, if_pos h30]⟩) (fun h => by cases h)
  ·rw [if_neg (by simpa using h30)]
   have hjf : jmp x.1.1 = Auc x.1.1 := by unfold jmp; rw [show (x.1.1 == 30) = false from beq_eq_false_iff_ne.mpr h30, Bool.false_or]
   exact h46 x.1.2.1 hm.2.2.2.2.2.1 (Auc x.1.1) (fun h => ⟨by rw [hjf]; exact h, by rw [hto, Bvu (by rw [hjf]; exact h), if_neg h30]⟩) (fun h => by rw [hjf]; exact h)
theorem Cp0 (k n : Int) (v : Bool) : ∀ m : Bi6, A1t n (Ckt k v m) = if n = k then v else A1t n m
 | [] => by
  simp only [Ckt, Asx, A1t, Al3, Ty.beq]
  by_cases h : n = k
  ·subst h; simp
  ·have hb : (n == k) = false := by simpa using h
   simp only [hb, if_neg h]
 | (k', v') :: r => by
  have ih := Cp0 k n v r
  simp only [Ckt, Asx, A1t, Al3, Ty.beq] at ih ⊢
  by_cases h1 : k = k'
  ·subst h1
   simp only [beq_self_eq_true, Al3, Ty.beq]
   by_cases h : n = k
   ·subst h; simp
   ·have hb : (n == k) = false := by simpa using h
    simp only [hb, if_neg h]
  ·have hb1 : (k == k') = false := by simpa using h1
   simp only [hb1, Al3, Ty.beq]
   by_cases h2 : n = k'
   ·subst h2
    have h3 : ¬ n = k := fun e => h1 e.symm
    simp only [beq_self_eq_true, if_neg h3]
   ·have hb2 : (n == k') = false := by simpa using h2
    simp only [hb2]
    exact ih
theorem Bvv : ∀ (r : List Pc) (bg : Bi6) (lb : Ajp) (k : Int),
  (A1t k (Ao3 r bg lb).1 = true ↔ A1t k bg = true ∨ k ∈ Aer r) ∧
  Aeq k (Ao3 r bg lb).2 = if ∃ p, p ∈ r ∧ 0 ≤ p.2.2.2 ∧ p.2.2.2 = k then -1 else Aeq k lb
 | [], bg, lb, k => by simp [Ao3, Aer]
 | p :: r, bg, lb, k => by
  have ih := Bvv r (Ckt p.2.1 true bg) (if 0 ≤ p.2.2.2 then Bdp p.2.2.2 (-1) lb else lb) k
  rw [Ao3]
  refine ⟨?_, ?_⟩
  ·rw [ih.1, Cp0]
   simp only [Aer, List.map_cons, List.mem_cons]
   by_cases h : k = p.2.1
   ·simp [h]
   ·simp [h]
  ·rw [ih.2]
   by_cases h1 : ∃ q, q ∈ r ∧ 0 ≤ q.2.2.2 ∧ q.2.2.2 = k
   ·rw [if_pos h1, if_pos]
    obtain ⟨q, hq, h2⟩ := h1
    exact ⟨q, by simp [hq], h2⟩
   ·rw [if_neg h1]
    by_cases h2 : 0 ≤ p.2.2.2
    ·rw [if_pos h2, A95]
     by_cases h3 : k = p.2.2.2
     ·rw [if_pos h3, if_pos ⟨p, by simp, h2, h3.symm⟩]
     ·rw [if_neg h3, if_neg]
      rintro ⟨q, hq, h4, h5⟩
      rcases List.mem_cons.mp hq with rfl | hq
      ·exact h3 h5.symm
      ·exact h1 ⟨q, hq, h4, h5⟩
    ·rw [if_neg h2, if_neg]
     rintro ⟨q, hq, h4, h5⟩
     rcases List.mem_cons.mp hq with rfl | hq
     ·exact h2 h4
     ·exact h1 ⟨q, hq, h4, h5⟩
theorem Cpc : ∀ (r : List Pc) (la : List Int) (k : Nat), (∀ p, p ∈ r → 0 ≤ p.2.1 ∧ p.2.1 < la.length) → (la0 r la).getD k 0 = if (k : Int) ∈ Aer r then 0 else la.getD k 0
 | [], la, k, _ => by simp [la0, Aer]
 | p :: r, la, k, h => by
  have hp := h p (by simp)
  rw [la0, Cpc r _ k (fun q hq => by rw [List.length_set]; exact h q (by simp [hq])), Akc]
  have e : ((k : Int) ∈ Aer (p :: r)) ↔ ((k : Int) = p.2.1 ∨ (k : Int) ∈ Aer r) := List.mem_cons
  by_cases h1 : (k : Int) ∈ Aer r
  ·rw [if_pos h1, if_pos (e.2 (.inr h1))]
  ·rw [if_neg h1]
   by_cases h2 : (k : Int) = p.2.1
   ·rw [if_pos (by omega), if_pos (e.2 (.inl h2))]
   ·rw [if_neg (by omega), if_neg (fun h => (e.1 h).elim h2 h1)]
theorem Cai (sz : Nat) : ∀ (r : List Pc) (la q : List Int), la.length = sz + 1 → la1 sz r la = some q →
  (∀ p, p ∈ r → jmp p.1.1 = true → 0 ≤ p.2.2.2 ∧ p.2.2.2 < sz ∧ 0 ≤ la.getD p.2.2.2.toNat 0) ∧
  ∀ k : Nat, q.getD k 0 = if ∃ p, p ∈ r ∧ jmp p.1.1 = true ∧ p.2.2.2 = k then 1 else la.getD k 0
 | [], la, q, _, h => by
  simp only [la1, Option.some.injEq] at h; subst h
  refine ⟨fun p hp => (by cases hp), fun k => ?_⟩
  rw [if_neg]; rintro ⟨p, hp, _⟩; cases hp
 | p :: r, la, q, hl, h => by
  rw [la1] at h
  by_cases hj : jmp p.1.1 = true
  ·rw [if_pos hj] at h
   split at h
   ·cases h
   rename_i hc
   have h0 : 0 ≤ p.2.2.2 := by omega
   have h1 : p.2.2.2 < sz := by omega
   have h2 : 0 ≤ la.getD p.2.2.2.toNat 0 := by omega
   have ih := Cai sz r _ q (by rw [List.length_set]; exact hl) h
   refine ⟨fun x hx hjx => ?_, fun k => ?_⟩
   ·rcases List.mem_cons.mp hx with rfl | hx
    ·exact ⟨h0, h1, h2⟩
    ·have := ih.1 x hx hjx
     rw [Akc] at this
     refine ⟨this.1, this.2.1, ?_⟩
     by_cases e : p.2.2.2.toNat = x.2.2.2.toNat
     ·rw [← e]; exact h2
     ·rw [if_neg (fun h => e h.1)] at this; exact this.2.2
   ·rw [ih.2 k, Akc]
    by_cases c1 : ∃ x, x ∈ r ∧ jmp x.1.1 = true ∧ x.2.2.2 = k
    ·rw [if_pos c1, if_pos]
     obtain ⟨x, hx, c⟩ := c1
     exact ⟨x, by simp [hx], c⟩
    ·rw [if_neg c1]
     by_cases c2 : p.2.2.2 = k
     ·rw [if_pos ⟨by omega, by omega⟩, if_pos ⟨p, by simp, hj, c2⟩]
     ·rw [if_neg (fun h => c2 (by omega)), if_neg]
      rintro ⟨x, hx, c⟩
      rcases List.mem_cons.mp hx with rfl | hx
      ·exact c2 c.2
      ·exact c1 ⟨x, hx, c⟩
  ·rw [if_neg hj] at h
   have ih := Cai sz r _ q hl h
   refine ⟨fun x hx hjx => ?_, fun k => ?_⟩
   ·rcases List.mem_cons.mp hx with rfl | hx
    ·exact absurd hjx hj
    ·exact ih.1 x hx hjx
   ·rw [ih.2 k]
    have : (∃ x, x ∈ r ∧ jmp x.1.1 = true ∧ x.2.2.2 = (k : Int)) ↔ ∃ x, x ∈ p :: r ∧ jmp x.1.1 = true ∧ x.2.2.2 = (k : Int) := by
     refine ⟨fun ⟨x, hx, c⟩ => ⟨x, by simp [hx], c⟩, fun ⟨x, hx, c⟩ => ?_⟩
     rcases List.mem_cons.mp hx with rfl | hx
     ·exact absurd c.1 hj
     ·exact ⟨x, hx, c⟩
    simp only [this]
theorem Cg8 (sz : Nat) : ∀ (r : List Pc) (la : List Int), la.length = sz + 1 → la1 sz r la = none → ∃ p, p ∈ r ∧ jmp p.1.1 = true ∧ (p.2.2.2 < 0 ∨ (sz : Int) ≤ p.2.2.2 ∨ la.getD p.2.2.2.toNat 0 < 0)
 | [], la, _, h => by cases h
 | p :: r, la, hl, h => by
  rw [la1] at h
  by_cases hj : jmp p.1.1 = true
  ·rw [if_pos hj] at h
   split at h
   ·rename_i hc; exact ⟨p, by simp, hj, hc⟩
   rename_i hc
   obtain ⟨x, hx, hjx, h1⟩ := Cg8 sz r _ (by rw [List.length_set]; exact hl) h
   refine ⟨x, by simp [hx], hjx, ?_⟩
   rw [Akc] at h1
   split at h1
   ·omega
   ·exact h1
  ·rw [if_neg hj] at h
   obtain ⟨x, hx, c⟩ := Cg8 sz r _ hl h
   exact ⟨x, by simp [hx], c⟩
theorem Cxq (sz : Nat) : ∀ (r : List Pc) (P : List Int) (n : Int) (lb : Ajp) (la : List Int), la.length = sz + 1 → (∀ p, p ∈ r → 0 ≤ p.2.1 ∧ p.2.1 < sz) → (Aer r).Nodup → (∀ k, k ∈ P → k ∉ Aer r) → (∀ k, k ∈ P → 0 ≤ k) → 0 ≤ n →
  (∀ k, k ∈ P → la.getD k.toNat 0 = Aeq k lb ∧ 0 ≤ la.getD k.toNat 0) → (∀ k, k ∈ Aer r → (la.getD k.toNat 0 = 1 ∧ Aeq k lb = -1) ∨ (la.getD k.toNat 0 = 0 ∧ Aeq k lb = 0)) →
  (la2 r n la).1 = (Ar0 r n lb).1 ∧ ∀ k, k ∈ P ∨ k ∈ Aer r → (la2 r n la).2.getD k.toNat 0 = Aeq k (Ar0 r n lb).2 ∧ 0 ≤ (la2 r n la).2.getD k.toNat 0
 | [], P, n, lb, la, _, _, _, _, _, _, h1, _ => ⟨rfl, fun k hk => h1 k (hk.elim id (fun h => by cases h))⟩
 | p :: r, P, n, lb, la, hl, hm, hnd, hP, hP0, hn, h1, h2 => by
  have hmp := hm p (by simp)
  have hmr : ∀ q, q ∈ r → 0 ≤ q.2.1 ∧ q.2.1 < sz := fun q hq => hm q (by simp [hq])
  simp only [Aer, List.map_cons, List.nodup_cons] at hnd
  have hpr : p.2.1 ∉ Aer r := hnd.1
  have hat := h2 p.2.1 (by simp [Aer])
  have hpP : p.2.1 ∉ P := fun h => hP _ h (by simp [Aer])
  have hrP : ∀ k, k ∈ Aer r → k ≠ p.2.1 ∧ 0 ≤ k := fun k hk => ⟨fun e => hpr (e ▸ hk), by
   obtain ⟨q, hq, rfl⟩ := List.mem_map.mp hk
   exact (hmr q hq).1⟩
  have fin : ∀ (n2 : Int) (lb2 : Ajp) (la2' : List Int), la2'.length = sz + 1 → 0 ≤ n2 → (∀ k, k ∈ P → la2'.getD k.toNat 0 = Aeq k lb2 ∧ 0 ≤ la2'.getD k.toNat 0) → (la2'.getD p.2.1.toNat 0 = Aeq p.2.1 lb2 ∧ 0 ≤ la2'.getD p.2.1.toNat 0) →
    (∀ k, k ∈ Aer r → (la2'.getD k.toNat 0 = 1 ∧ Aeq k lb2 = -1) ∨ (la2'.getD k.toNat 0 = 0 ∧ Aeq k lb2 = 0)) →
    (la2 r n2 la2').1 = (Ar0 r n2 lb2).1 ∧ ∀ k, k ∈ P ∨ k ∈ Aer (p :: r) → (la2 r n2 la2').2.getD k.toNat 0 = Aeq k (Ar0 r n2 lb2).2 ∧ 0 ≤ (la2 r n2 la2').2.getD k.toNat 0 := by
   intro n2 lb2 la2' a1 a2 a3 a4 a5
   have := Cxq sz r (p.2.1 :: P) n2 lb2 la2' a1 hmr hnd.2 (fun k hk => by
    rcases List.mem_cons.mp hk with rfl | hk
    ·exact hpr
    ·exact fun h => hP k hk (by simp only [Aer, List.map_cons, List.mem_cons]; exact .inr h)) (fun k hk => by
    rcases List.mem_cons.mp hk with rfl | hk
    ·exact hmp.1
    ·exact hP0 k hk) a2 (fun k hk => by
    rcases List.mem_cons.mp hk with rfl | hk
    ·exact a4
    ·exact a3 k hk) a5
   refine ⟨this.1, fun k hk => this.2 k ?_⟩
   rcases hk with hk | hk
   ·exact .inl (by simp [hk])
   ·simp only [Aer, List.map_cons, List.mem_cons] at hk
    rcases hk with rfl | hk
    ·exact .inl (by simp)
    ·exact .inr hk
  rw [la2, Ar0]
  rcases hat with ⟨e1, e2⟩ | ⟨e1, e2⟩
  ·rw [if_pos (by omega), if_pos e2]
   refine fin (n + 1) _ _ (by rw [List.length_set]; exact hl) (by omega) (fun k hk => ?_) ?_ (fun k hk => ?_)
   ·have hne : k ≠ p.2.1 := fun e => hpP (e ▸ hk)
    have := hP0 k hk
    rw [Akc, if_neg (by omega), A95, if_neg hne]; exact h1 k hk
   ·rw [Akc, if_pos ⟨rfl, by omega⟩, A95, if_pos rfl]; exact ⟨rfl, by omega⟩
   ·have hne := hrP k hk
    rw [Akc, if_neg (by omega), A95, if_neg hne.1]
    exact h2 k (by simp only [Aer, List.map_cons, List.mem_cons]; exact .inr hk)
  ·rw [if_neg (by omega), if_neg (by omega)]
   exact fin n lb la hl hn h1 ⟨by omega, by omega⟩ (fun k hk => h2 k (by simp only [Aer, List.map_cons, List.mem_cons]; exact .inr hk))
def B9q (sz : Nat) (ps : List Pc) : Option (Int × OpL) :=
 match la1 sz ps (la0 ps (List.replicate (sz + 1) (-1))) with
 | none => none
 | some la => some ((la2 ps 0 la).1, Ax6 (la2 ps 0 la).2 ps)
theorem C5j {ps : List Pc} {sz : Nat} (H : B28 sz ps) {p : Pc} (hp : p ∈ ps) (h : 0 ≤ p.2.2.2) : jmp p.1.1 = true := by
 have := (H.mem p hp).2.2.1
 cases hj : jmp p.1.1
 ·rw [Czz hj] at this; omega
 ·rfl
theorem C5k {ps : List Pc} {sz : Nat} (H : B28 sz ps) {n : Int} {o : OpL} (h : B9q sz ps = some (n, o)) : Bfv ps = some (n, o) := by
 unfold B9q at h
 cases hla : la1 sz ps (la0 ps (List.replicate (sz + 1) (-1))) with
 | none => rw [hla] at h; cases h
 | some la =>
  rw [hla] at h
  simp only [Option.some.injEq, Prod.mk.injEq] at h
  have hl0 : (la0 ps (List.replicate (sz + 1) (-1))).length = sz + 1 := by rw [B1o]; simp
  have hl1 : la.length = sz + 1 := by rw [Cah _ _ _ _ hla]; exact hl0
  obtain ⟨hj, hg⟩ := Cai sz ps _ la hl0 hla
  have hm2 : ∀ p, p ∈ ps → 0 ≤ p.2.1 ∧ p.2.1 < sz := fun p hp => ⟨(H.mem p hp).1, (H.mem p hp).2.1⟩
  have hg0 : ∀ k : Nat, k < sz + 1 → (la0 ps (List.replicate (sz + 1) (-1))).getD k 0 = if (k : Int) ∈ Aer ps then 0 else -1 := by
   intro k hk
   rw [Cpc ps _ k (fun p hp => by rw [List.length_replicate]; have := hm2 p hp; omega)]
   split
   ·rfl
   ·rw [List.getD_eq_getElem?_getD, List.getElem?_replicate, if_pos hk]; rfl
  have hat : ∀ k, k ∈ Aer ps → 0 ≤ k ∧ k < sz := fun k hk => by
   obtain ⟨q, hq, rfl⟩ := List.mem_map.mp hk
   exact hm2 q hq
  have hto : ∀ p, p ∈ ps → jmp p.1.1 = true → p.2.2.2 ∈ Aer ps := by
   intro p hp hjp
   have h1 := hj p hp hjp
   have h2 := hg0 p.2.2.2.toNat (by omega)
   rw [h2] at h1
   by_cases h3 : ((p.2.2.2.toNat : Nat) : Int) ∈ Aer ps
   ·rw [show ((p.2.2.2.toNat : Nat) : Int) = p.2.2.2 by omega] at h3; exact h3
   ·rw [if_neg h3] at h1; omega
  have hstart : ∀ k, k ∈ Aer ps → (la.getD k.toNat 0 = 1 ∧ Aeq k (Ao3 ps [] []).2 = -1) ∨ (la.getD k.toNat 0 = 0 ∧ Aeq k (Ao3 ps [] []).2 = 0) := by
   intro k hk
   have hk2 := hat k hk
   have h1 := (Bvv ps [] [] k).2
   have h2 := hg k.toNat
   rw [hg0 _ (by omega), show ((k.toNat : Nat) : Int) = k by omega, if_pos hk] at h2
   by_cases c : ∃ p, p ∈ ps ∧ jmp p.1.1 = true ∧ p.2.2.2 = k
   ·left
    rw [if_pos c] at h2
    obtain ⟨p, hp, c1, c2⟩ := c
    rw [if_pos ⟨p, hp, by omega, c2⟩] at h1
    exact ⟨h2, h1⟩
   ·right
    rw [if_neg c] at h2
    rw [if_neg (by rintro ⟨p, hp, c1, c2⟩; exact c ⟨p, hp, C5j H hp c1, c2⟩)] at h1
    exact ⟨h2, h1⟩
  have hrel := Cxq sz ps [] 0 (Ao3 ps [] []).2 la hl1 hm2 (H.inc.imp (fun h => Int.ne_of_lt h)) (fun k hk => by cases hk) (fun k hk => by cases hk) (Int.le_refl 0) (fun k hk => by cases hk) hstart
  have hlk : ∀ k, k ∈ Aer ps → (la2 ps 0 la).2.getD k.toNat 0 = Aeq k (Ar0 ps 0 (Ao3 ps [] []).2).2 := fun k hk => (hrel.2 k (.inr hk)).1
  have hops : ∀ r : List Pc, (∀ p, p ∈ r → p ∈ ps) → A4z r (Ao3 ps [] []).1 (Ar0 ps 0 (Ao3 ps [] []).2).2 = some (Ax6 (la2 ps 0 la).2 r) := by
   intro r
   induction r with
   | nil => intro _; rfl
   | cons p r ih =>
    intro hr
    have hp := hr p (by simp)
    rw [A4z, if_neg, ih (fun q hq => hr q (by simp [hq]))]
    ·simp only [Ax6]
     have e1 : Caf (Ar0 ps 0 (Ao3 ps [] []).2).2 p = Cg7 (la2 ps 0 la).2 p := by
      unfold Caf Cg7
      rw [hlk p.2.1 (List.mem_map.mpr ⟨p, hp, rfl⟩)]
     have e2 : B25 (Ar0 ps 0 (Ao3 ps [] []).2).2 p = B9p (la2 ps 0 la).2 p := by
      unfold B25 B9p
      by_cases h30 : p.1.1 = 30
      ·have hjp : jmp p.1.1 = true := by unfold jmp; rw [h30]; rfl
       rw [if_pos h30, if_pos h30, hlk _ (hto p hp hjp)]
      ·rw [if_neg h30, if_neg h30]
       have hjf : jmp p.1.1 = Auc p.1.1 := by unfold jmp; rw [show (p.1.1 == 30) = false from beq_eq_false_iff_ne.mpr h30, Bool.false_or]
       by_cases hf : Auc p.1.1 = true
       ·have := hj p hp (by rw [hjf]; exact hf)
        rw [if_pos hf, if_pos this.1, hlk _ (hto p hp (by rw [hjf]; exact hf))]
       ·have : p.2.2.2 = -1 := by rw [(H.mem p hp).2.2.1, Czz (by rw [hjf]; simpa using hf)]
        rw [if_neg hf, if_neg (by omega)]
     rw [e1, e2]
    ·rintro ⟨h1, h2⟩
     have := (Bvv ps [] [] p.2.2.2).1.2 (.inr (hto p hp (C5j H hp h1)))
     rw [this] at h2; cases h2
  unfold Bfv
  rw [hops ps (fun _ h => h), ← h.1, ← h.2, hrel.1]
theorem C5l {ps : List Pc} {sz : Nat} (H : B28 sz ps) (h : B9q sz ps = none) {n : Int} {o : OpL} (ho : Bfv ps = some (n, o)) (nd procs : Int) : ∃ x, x ∈ o ∧ Ais nd procs n x = false := by
 unfold B9q at h
 cases hla : la1 sz ps (la0 ps (List.replicate (sz + 1) (-1))) with
 | some la => rw [hla] at h; cases h
 | none =>
  have hl0 : (la0 ps (List.replicate (sz + 1) (-1))).length = sz + 1 := by rw [B1o]; simp
  obtain ⟨p, hp, hj, hc⟩ := Cg8 sz ps _ hl0 hla
  have hm2 : ∀ p, p ∈ ps → 0 ≤ p.2.1 ∧ p.2.1 < sz := fun p hp => ⟨(H.mem p hp).1, (H.mem p hp).2.1⟩
  have hm := H.mem p hp
  have hg0 : ∀ k : Nat, k < sz + 1 → (la0 ps (List.replicate (sz + 1) (-1))).getD k 0 = if (k : Int) ∈ Aer ps then 0 else -1 := by
   intro k hk
   rw [Cpc ps _ k (fun p hp => by rw [List.length_replicate]; have := hm2 p hp; omega)]
   split
   ·rfl
   ·rw [List.getD_eq_getElem?_getD, List.getElem?_replicate, if_pos hk]; rfl
  have hat : ∀ k, k ∈ Aer ps → 0 ≤ k ∧ k < sz := fun k hk => by
   obtain ⟨q, hq, rfl⟩ := List.mem_map.mp hk
   exact hm2 q hq
  unfold Bfv at ho
  cases hoo : A4z ps (Ao3 ps [] []).1 (Ar0 ps 0 (Ao3 ps [] []).2).2 with
  | none => rw [hoo] at ho; cases ho
  | some o' =>
   rw [hoo] at ho
   simp only [Option.some.injEq, Prod.mk.injEq] at ho
   obtain ⟨_, rfl⟩ := ho
   have hall : ∀ (r : List Pc) (q : OpL), A4z r (Ao3 ps [] []).1 (Ar0 ps 0 (Ao3 ps [] []).2).2 = some q → ∀ p, p ∈ r → B25 (Ar0 ps 0 (Ao3 ps [] []).2).2 p ∈ q ∧ (0 ≤ p.2.2.2 → A1t p.2.2.2 (Ao3 ps [] []).1 = true) := by
    intro r
    induction r with
    | nil => intro q _ p hp; cases hp
    | cons x r ih =>
     intro q hq p hp
     rw [A4z] at hq
     split at hq
     ·cases hq
     rename_i hcx
     split at hq
     ·cases hq
     rename_i l hl
     cases hq
     rcases List.mem_cons.mp hp with rfl | hp
     ·refine ⟨by simp, fun h => ?_⟩
      cases hb : A1t p.2.2.2 (Ao3 ps [] []).1
      ·exact absurd ⟨h, hb⟩ hcx
      ·rfl
     ·have := ih l hl p hp
      exact ⟨by simp [this.1], this.2⟩
   obtain ⟨h1, h2⟩ := hall ps o' hoo p hp
   have hneg : p.2.2.2 < 0 := by
    rcases Int.lt_or_le p.2.2.2 0 with h | h
    ·exact h
    ·exfalso
     have h3 := (Bvv ps [] [] p.2.2.2).1.1 (h2 h)
     rcases h3 with h3 | h3
     ·simp [A1t, Al3] at h3
     ·have h4 := hat _ h3
      have h5 := hg0 p.2.2.2.toNat (by omega)
      rw [show ((p.2.2.2.toNat : Nat) : Int) = p.2.2.2 by omega, if_pos h3] at h5
      omega
   refine ⟨_, h1, ?_⟩
   have hto := hm.2.2.1
   rw [Bvu hj] at hto
   have hneg2 : ∀ (r : List Pc) (n : Int) (lb : Ajp), (∀ p, p ∈ r → 0 ≤ p.2.1) → Aeq p.2.2.2 (Ar0 r n lb).2 = Aeq p.2.2.2 lb := by
    intro r
    induction r with
    | nil => intros; rfl
    | cons x r ih =>
     intro n lb hx
     have hx0 := hx x (by simp)
     rw [Ar0]
     split
     ·rw [ih _ _ (fun q hq => hx q (by simp [hq])), A95, if_neg (by omega)]
     ·exact ih _ _ (fun q hq => hx q (by simp [hq]))
   have h0 : Aeq p.2.2.2 (Ar0 ps 0 (Ao3 ps [] []).2).2 = 0 := by
    rw [hneg2 ps 0 _ (fun q hq => (hm2 q hq).1), (Bvv ps [] [] p.2.2.2).2, if_neg (by rintro ⟨q, _, c1, c2⟩; omega)]; rfl
   unfold B25
   by_cases h30 : p.1.1 = 30
   ·rw [if_pos h30, h0, h30]
    simp [Ais, Axf, inB]
   ·rw [if_neg h30, if_neg (by omega)]
    rw [if_neg h30] at hto
    have hn : p.1.2.1 < 0 := by omega
    simp only [jmp, Auc, Bool.or_eq_true, beq_iff_eq] at hj
    generalize p.1 = x at hn hj h30
    obtain ⟨a, b, c⟩ := x
    simp only at hn hj h30
    have hj' : a = 20 ∨ a = 21 ∨ a = 22 ∨ a = 27 ∨ a = 29 := by omega
    have hd : decide (1 ≤ b) = false := decide_eq_false (by omega)
    rcases hj' with rfl | rfl | rfl | rfl | rfl <;> simp [Ais, Axf, inB, hd]
theorem C5m {R : Type} (N : Nat) (ps : List Pc) (sz : Nat) (H : B28 sz ps) (a : Aar) (b : OpL) (c : Aa5) (d : List UInt8) (e : Int) (f : List UInt8) (g j : Int) (l : Aar) (m : OpL) (o : Aa5)
  (K : OpL → List Int → Aar → OpL → Aa5 → List Int → List UInt8 → Int → Int → List UInt8 → Int → Int → Aar → OpL → Aa5 → Option R) :
  ∀ (k i : Nat) (n : Int) (la : List Int), i ≤ ps.length → ps.length - i < k → la.length = sz + 1 → 0 ≤ n → n ≤ i →
  Abq N k (Alz ps) (Aer ps ++ [(sz : Int)]) i a b c la d e n f g j l m o K = K (Alz ps) (Aer ps ++ [(sz : Int)]) a b c (la2 (ps.drop i) n la).2 d e (la2 (ps.drop i) n la).1 f g j l m o := by
 have hsz := H.sz
 have hle := H.le
 intro k
 induction k with
 | zero => intro i _ _ _ h; omega
 | succ k ih =>
  intro i n la hi hk hl h0 hn
  simp only [Abq, A84]
  by_cases hlt : i < ps.length
  case neg =>
   rw [if_neg (by simp [len, Alz]; omega), List.drop_eq_nil_of_le (by omega)]; rfl
  have hm := H.mem ps[i] (List.getElem_mem hlt)
  have hin : (0 : Int) ≤ i ∧ (i : Int) < len (Aer ps ++ [(sz : Int)]) := by simp only [len, Aer, List.length_append, List.length_map, List.length_cons, List.length_nil]; omega
  rw [if_pos (by simp [len, Alz]; omega), if_pos hin, Int.toNat_natCast, Cpa hlt, if_pos (by simp only [len]; omega), Abh (by omega), List.drop_eq_getElem_cons hlt, la2]
  obtain ⟨x, hx⟩ : ∃ x, ps[i] = x := ⟨_, rfl⟩
  simp only [hx] at hm ⊢
  by_cases hp : 0 < la.getD x.2.1.toNat 0
  ·rw [if_pos (decide_eq_true hp), if_pos hp, if_pos hin, if_pos (by simp only [len]; omega), Ac8 (by omega) (by omega)]
   exact ih (i + 1) (n + 1) _ (by omega) (by omega) (by rw [List.length_set]; exact hl) (by omega) (by omega)
  ·rw [if_neg (fun h => hp (of_decide_eq_true h)), if_neg hp]
   exact ih (i + 1) n la (by omega) (by omega) hl h0 (by omega)
theorem Ck0 : ∀ (a b : OpL) (n : Int), An2 (a ++ b) n = An2 b (An2 a n)
 | [], _, _ => rfl
 | x :: r, b, n => Ck0 r b _
theorem C3a (la : List Int) (p : Pc) (n : Int) : An2 (Cg7 la p) n = n := by
 unfold Cg7; split
 ·rfl
 ·rfl
theorem C3b {R : Type} (N : Nat) (ps : List Pc) (sz : Nat) (H : B28 sz ps) (hj : ∀ p, p ∈ ps → jmp p.1.1 = true → 0 ≤ p.2.2.2 ∧ p.2.2.2 < sz) (a : Aar) (b : Aa5) (la : List Int) (hl : la.length = sz + 1) (d : List UInt8) (f : Int) (g : List UInt8) (j l : Int) (m : Aar) (n : OpL) (o : Aa5)
  (K : Aar → OpL → Aa5 → List Int → List UInt8 → Int → Int → List UInt8 → Int → Int → Aar → OpL → Aa5 → Option R) :
  ∀ (k i : Nat) (c : Int) (out : OpL), i ≤ ps.length → ps.length - i < k → 0 ≤ c → c ≤ i → out.length ≤ 2 * i →
  Aba N k (Alz ps) (Aer ps ++ [(sz : Int)]) i a out b la d c f g j l m n o K = K a (out ++ Ax6 la (ps.drop i)) b la d (An2 (Ax6 la (ps.drop i)) c) f g j l m n o := by
 have hsz := H.sz
 have hle := H.le
 intro k
 induction k with
 | zero => intro i _ _ _ h; omega
 | succ k ih =>
  intro i c out hi hk h0 hc ho
  simp only [Aba, A6b]
  by_cases hlt : i < ps.length
  case neg =>
   rw [if_neg (by simp [len, Alz]; omega), List.drop_eq_nil_of_le (by omega)]; simp [Ax6, An2]
  have hm := H.mem ps[i] (List.getElem_mem hlt)
  have hj' := hj ps[i] (List.getElem_mem hlt)
  have hnx := H.next i hlt
  have hin : (0 : Int) ≤ i ∧ (i : Int) < len (Aer ps ++ [(sz : Int)]) := by simp only [len, Aer, List.length_append, List.length_map, List.length_cons, List.length_nil]; omega
  have hino : (0 : Int) ≤ i ∧ (i : Int) < len (Alz ps) := by simp only [len, Alz, List.length_map]; omega
  have hin1 : (0 : Int) ≤ ((i + 1 : Nat) : Int) ∧ ((i + 1 : Nat) : Int) < len (Aer ps ++ [(sz : Int)]) := by simp only [len, Aer, List.length_append, List.length_map, List.length_cons, List.length_nil]; omega
  rw [if_pos (by simp [len, Alz]; omega), if_pos hin, Int.toNat_natCast, Cpa hlt, if_pos (by simp only [len]; omega), List.drop_eq_getElem_cons hlt, Ax6]
  have step : ∀ out2 : OpL, out2.length ≤ 2 * i + 1 → Abn N (Alz ps) (Aer ps ++ [(sz : Int)]) i a out2 b la d c f g j l m n o (fun q r s t u v w z A B C D E F G I => Aba N k q r (wi (s + 1)) t u v w z A B C D E F G I K) =
    K a (out2 ++ (B9p la ps[i] :: Ax6 la (ps.drop (i + 1)))) b la d (An2 (B9p la ps[i] :: Ax6 la (ps.drop (i + 1))) c) f g j l m n o := by
   intro out2 h2
   obtain ⟨x, hx⟩ : ∃ x, ps[i] = x := ⟨_, rfl⟩
   have hog : (Alz ps).getD i (0, 0, 0) = x.1 := by rw [Czy hlt, hx]
   simp only [hx] at hm hnx hj' ⊢
   have hto := hm.2.2.1
   have fin : ∀ y : Int × Int × Int, y.1 = x.1.1 → Abm N (Alz ps) (Aer ps ++ [(sz : Int)]) i a out2 b la d c f g j l y.1 y.2.1 y.2.2 m n o (fun q r s t u v w z A B C D E F G I => Aba N k q r (wi (s + 1)) t u v w z A B C D E F G I K) =
     K a (out2 ++ (y :: Ax6 la (ps.drop (i + 1)))) b la d (An2 (y :: Ax6 la (ps.drop (i + 1))) c) f g j l m n o := by
    intro y hy
    simp only [Abm, A57, Abl, An2]
    have hs : (out2.length + List.length [(y.1, y.2.1, y.2.2)]) * 24 ≤ 70368744177664 := by simp only [List.length_cons, List.length_nil]; omega
    by_cases h24 : y.1 = 24
    ·rw [if_pos (by simpa using h24), if_pos hs, if_pos h24, Abh (by omega), Ac8 (by omega) (by omega), ih (i + 1) (c + 1) _ (by omega) (by omega) (by omega) (by omega) (by rw [List.length_append]; simp only [List.length_cons, List.length_nil]; omega), List.append_assoc]
     rfl
    ·rw [if_neg (by simpa using h24), if_pos hs, if_neg h24, Abh (by omega), ih (i + 1) c _ (by omega) (by omega) (by omega) (by omega) (by rw [List.length_append]; simp only [List.length_cons, List.length_nil]; omega), List.append_assoc]
     rfl
   simp only [Abn, A59, Abr, A58, A94, if_pos hino, Int.toNat_natCast, hog, Abh (show i < 4611686018427387904 by omega), if_pos hin1, hnx]
   unfold B9p
   by_cases h30 : x.1.1 = 30
   ·have hjx : jmp x.1.1 = true := by unfold jmp; rw [h30]; rfl
    have hr := hj' hjx
    have hnf : Auc x.1.1 = false := by rw [h30]; rfl
    rw [Bvu hjx, if_pos h30] at hto
    rw [hnf, if_neg (by decide), if_pos (by simpa using h30), Ac8 (by omega) (by omega), ← hto, if_pos (by simp only [len]; omega)]
    simp only [if_pos h30]
    exact fin (x.1.1, x.1.2.1, la.getD x.2.2.2.toNat 0) rfl
   ·have hjf : jmp x.1.1 = Auc x.1.1 := by unfold jmp; rw [show (x.1.1 == 30) = false from beq_eq_false_iff_ne.mpr h30, Bool.false_or]
    by_cases hf : Auc x.1.1 = true
    ·have hr := hj' (by rw [hjf]; exact hf)
     rw [Bvu (by rw [hjf]; exact hf), if_neg h30] at hto
     rw [if_pos hf, Ac8 (by omega) (by omega), ← hto, if_pos (by simp only [len]; omega), if_neg (by simpa using h30)]
     simp only [if_neg h30, if_pos hf]
     exact fin (x.1.1, la.getD x.2.2.2.toNat 0, x.1.2.2) rfl
    ·rw [if_neg hf, if_neg (by simpa using h30)]
     simp only [if_neg h30, if_neg hf]
     exact fin x.1 rfl
  have e : An2 (Cg7 la ps[i] ++ B9p la ps[i] :: Ax6 la (ps.drop (i + 1))) c = An2 (B9p la ps[i] :: Ax6 la (ps.drop (i + 1))) c := by rw [Ck0, C3a]
  rw [e]
  unfold Cg7
  by_cases hp : 0 < la.getD (ps[i]).2.1.toNat 0
  ·rw [if_pos (decide_eq_true hp), if_pos hp, if_pos hin, if_pos (by simp only [len]; omega), if_pos (by simp only [List.length_cons, List.length_nil]; omega),
    step _ (by rw [List.length_append]; simp only [List.length_cons, List.length_nil]; omega), List.append_assoc]
  ·rw [if_neg (fun h => hp (of_decide_eq_true h)), if_neg hp, step _ (by omega)]
   rfl
theorem Cxr {R : Type} (N : Nat) (ps : List Pc) (sz : Nat) (H : B28 sz ps) (hN : ps.length < N) {la : List Int} (hla : la1 sz ps (la0 ps (List.replicate (sz + 1) (-1))) = some la) (nm : List UInt8) (data : Aar) (gl : Aa5)
  (K : List UInt8 → Int → Int → Aar → OpL → Aa5 → List Int → Option R) :
  Ac5 N nm 0 0 (Alz ps) (Aer ps ++ [(sz : Int)]) data [] gl la K = K nm (An2 (Ax6 (la2 ps 0 la).2 ps) 0) (la2 ps 0 la).1 data (Ax6 (la2 ps 0 la).2 ps) gl (la2 ps 0 la).2 := by
 have hl0 : (la0 ps (List.replicate (sz + 1) (-1))).length = sz + 1 := by rw [B1o]; simp
 have hl1 : la.length = sz + 1 := by rw [Cah _ _ _ _ hla]; exact hl0
 obtain ⟨hj, _⟩ := Cai sz ps _ la hl0 hla
 simp only [Ac5, Bey]
 have h5 := C5m (R := R) N ps sz H data [] gl nm 0 [] 0 0 [] [] [] (fun i j l m n o q r s t u v w x y => Aba N N i j 0 l m n o q r s t u v w x y (fun a b c d e f g z A B C D E => K e f g a b c d)) N 0 0 la (by omega) (by omega) hl1 (by omega) (by omega)
 rw [List.drop_zero, show ((0 : Nat) : Int) = 0 from rfl] at h5
 refine Eq.trans h5 ?_
 have h17 := C3b (R := R) N ps sz H (fun p hp h => ⟨(hj p hp h).1, (hj p hp h).2.1⟩) data gl (la2 ps 0 la).2 (by rw [Cpb]; exact hl1) nm (la2 ps 0 la).1 [] 0 0 [] [] [] (fun a b c d e f g z A B C D E => K e f g a b c d) N 0 0 [] (by omega) (by omega) (by omega) (by omega) (by simp)
 rw [List.drop_zero, show ((0 : Nat) : Int) = 0 from rfl, List.nil_append] at h17
 exact h17
theorem B9r (b : List Int) : Ba4 b = match Ba6 b with
  | none => none
  | some (nm, data, gl, fr, sz) => match Aiz (szT b).2.1.length (szT b).2.1 0 with
   | none => none
   | some ps => match Bfv ps with
    | none => none
    | some (n, o) => some (nm, data, o, gl, An2 o 0, n, fr, sz) := by
 unfold Ba4 Ba6
 split
 ·rfl
 split
 ·rfl
 split
 ·rfl
 split
 ·rfl
 rfl
theorem Db6 {a b c : Int} (h : 0 ≤ a ∧ a < 256 ∧ 0 ≤ b ∧ b < 256 ∧ 0 ≤ c ∧ c < 256) : (txt [a, b, c] == [(98 : UInt8), 98, 1]) = (uns 0 [a, b, c] == 6447617) := by
 have key : ∀ x : Int, 0 ≤ x ∧ x < 256 → ∀ n : Nat, n < 256 → (UInt8.ofNat x.toNat = UInt8.ofNat n ↔ x = n) := by
  intro x hx n hn
  constructor
  ·intro e
   have := congrArg UInt8.toNat e
   simp only [UInt8.toNat_ofNat'] at this
   omega
  ·intro e; subst e; simp
 have ka := key a ⟨h.1, h.2.1⟩ 98 (by decide)
 have kb := key b ⟨h.2.2.1, h.2.2.2.1⟩ 98 (by decide)
 have kc := key c ⟨h.2.2.2.2.1, h.2.2.2.2.2⟩ 1 (by decide)
 have e1 : (txt [a, b, c] = [(98 : UInt8), 98, 1]) ↔ (a = 98 ∧ b = 98 ∧ c = 1) := by
  simp only [txt, List.map_cons, List.map_nil, List.cons.injEq, and_true]
  exact ⟨fun ⟨h1, h2, h3⟩ => ⟨ka.1 h1, kb.1 h2, kc.1 h3⟩, fun ⟨h1, h2, h3⟩ => ⟨ka.2 h1, kb.2 h2, kc.2 h3⟩⟩
 have e2 : (uns 0 [a, b, c] = 6447617) ↔ (a = 98 ∧ b = 98 ∧ c = 1) := by
  simp only [uns, List.foldl_cons, List.foldl_nil]
  constructor
  ·intro e; omega
  ·rintro ⟨rfl, rfl, rfl⟩; rfl
 by_cases hh : a = 98 ∧ b = 98 ∧ c = 1
 ·rw [beq_iff_eq.mpr (e1.2 hh), beq_iff_eq.mpr (e2.2 hh)]
 ·rw [beq_eq_false_iff_ne.mpr (fun e => hh (e1.1 e)), beq_eq_false_iff_ne.mpr (fun e => hh (e2.1 e))]
theorem Cxs {R : Type} {N : Nat} {b : List Int} (h : b.length < 15) (K : List UInt8 → Int → Int → Int → Int → Int → Aar → OpL → Aa5 → Option R) : Acp N b K = K [] 0 0 0 0 7 [] [] [] := by
 simp only [Acp, Bc9]
 rw [if_pos (by simp only [len, decide_eq_true_eq]; omega)]
theorem Cxt {R : Type} {b : List Int} (hb : Ad9 b) (h15 : 15 ≤ b.length) (hl : b.length ≤ 200000) :
  if uns 0 (seg b (b.length - 4) 4) ≠ A92 0 0 (b.take (b.length - 4)) then ∀ K : List UInt8 → Int → Int → Int → Int → Int → Aar → OpL → Aa5 → Option R, Acp 500000 b K = K [] 0 0 0 0 8 [] [] []
  else match Ba6 b with
  | some (nm, data, gl, fr, sz) => ∀ K : List UInt8 → Int → Int → Int → Int → Int → Aar → OpL → Aa5 → Option R, Acp 500000 b K = K nm 0 0 fr sz 0 data [] gl
  | none => ∃ nm data gl, ∀ K : List UInt8 → Int → Int → Int → Int → Int → Aar → OpL → Aa5 → Option R, Acp 500000 b K = K nm 0 0 0 0 3 data [] gl := by
 have hw : wi (len b - 4) = ((b.length - 4 : Nat) : Int) := by rw [Ac8 (by simp only [len]; omega) (by simp only [len]; omega)]; simp only [len]; omega
 have hB : Ad9 (Aax b) := hb.take _
 have hlB : (Aax b).length = b.length - 4 := by unfold Aax; rw [List.length_take]; omega
 have hL2 : (Aax b).length ≤ 4398046511104 := by omega
 have s0 : Sfx (Aax b) (Aax b) := Sfx.refl _
 have s1 : Sfx (Aax b) (hdT b).2.1 := Ady (s := (Aax b, false)) s0
 have a := Atm hB (n := 1) s1
 obtain ⟨n, hn⟩ := Int.eq_ofNat_of_zero_le a.1
 have t3 : Ap7 3 (Aax b, false) = ((Aax b).take 3, (hdT b).2) := by
  unfold Ap7 hdT Aaq
  rw [if_neg (by simp; omega), if_neg (by simp; omega)]
 have hd3 : (hdT b).1 = uns 0 ((Aax b).take 3) := by
  unfold hdT Aaq
  rw [if_neg (by simp; omega)]
 have hmag : (List.map (fun n : Int => UInt8.ofNat (Int.toNat n)) ((Aax b).take 3) == [(98 : UInt8), 98, 1]) = ((hdT b).1 == 6447617) := by
  rw [hd3]
  have hlen : ((Aax b).take 3).length = 3 := by rw [List.length_take]; omega
  have hB3 : Ad9 ((Aax b).take 3) := hB.take 3
  match hq : (Aax b).take 3, hlen with
  | [x, y, z], _ =>
   rw [hq] at hB3
   have hx := hB3 x (by simp)
   have hy := hB3 y (by simp)
   have hz := hB3 z (by simp)
   exact Db6 ⟨hx.1, hx.2, hy.1, hy.2, hz.1, hz.2⟩
 have main : ∀ K : List UInt8 → Int → Int → Int → Int → Int → Aar → OpL → Aa5 → Option R, Acp 500000 b K =
   if (uns 0 (seg b (b.length - 4) 4) != A92 0 0 (b.take (b.length - 4))) = true then K [] 0 0 0 0 8 [] [] []
   else if ((hdT b).1 == 6447617) = true then Bx4 500000 (Aax b).length (Aax b) (pos (Aax b) (nmT b).2.1) (nmT b).2.2 (Ap7 n (Aaq 1 (hdT b).2).2).1 K else K [] 0 0 0 0 3 [] [] [] := by
  intro K
  simp only [Acp, Bc9]
  rw [if_neg (by simp only [len, decide_eq_true_eq]; omega), hw, if_pos (by simp only [len]; omega), if_pos (by simp only [len]; omega)]
  have hlast : List.drop (Int.toNat ((b.length - 4 : Nat) : Int)) (List.take (Int.toNat (len b)) b) = seg b (b.length - 4) 4 := by
   rw [Int.toNat_natCast, show Int.toNat (len b) = b.length by simp [len], List.take_length, C4t b (by omega)]
  rw [hlast, A0d 500000 (by omega) _ (Bnj hb _ _) (by rw [A5v (by omega)]; omega), if_pos (by simp only [len]; omega), if_pos (by omega), Int.toNat_natCast, List.drop_zero,
   Co7 500000 _ (by rw [List.length_take]; omega) (by rw [List.length_take]; omega)]
  split
  ·rfl
  rw [if_pos (by simp only [len]; omega), if_pos (by omega)]
  have h3 := B1m (R := R) (N := 500000) hL2 (n := 3) (by decide) (s := (Aax b, false)) s0
  rw [show ((pos (Aax b) (Aax b, false).1 : Nat) : Int) = 0 by unfold pos; simp] at h3
  refine Eq.trans (h3 _ _) ?_
  rw [if_neg (by simp; omega), t3]
  dsimp only
  rw [hmag]
  cases (hdT b).1 == 6447617
  ·rfl
  rw [if_neg (by decide), if_pos rfl]
  refine Eq.trans (B1n hB hL2 (by omega) s1 _) ?_
  rw [hn]
  have hv : ((b.length - 4 : Nat) : Int) = ((Aax b).length : Int) := by rw [hlB]
  rw [hv]
  change Aat 500000 n (Aax b) (pos (Aax b) (Aaq 1 (hdT b).2).2.1) (Aaq 1 (hdT b).2).2.2 (fun c d e f => Bx4 500000 (Aax b).length c d e f K) (fun g i j l => Bx4 500000 (Aax b).length i j l g K) = _
  rw [B1m hL2 (by omega) (Ady s1)]
  have hnm : nmT b = (txt (Ap7 n (Aaq 1 (hdT b).2).2).1, (Ap7 n (Aaq 1 (hdT b).2).2).2) := by
   unfold nmT; rw [B9n, hn, Int.toNat_natCast]
  rw [hnm]
  dsimp only
  by_cases hc : (Aaq 1 (hdT b).2).2.2 = true ∨ (Aaq 1 (hdT b).2).2.1.length < n
  ·have ht : Ap7 n (Aaq 1 (hdT b).2).2 = ([], (Aaq 1 (hdT b).2).2.1, true) := by unfold Ap7; rw [if_pos hc]
   rw [if_pos hc, ht]
  ·rw [if_neg hc]
 by_cases hs : uns 0 (seg b (b.length - 4) 4) ≠ A92 0 0 (b.take (b.length - 4))
 ·rw [if_pos hs]
  intro K
  rw [main, if_pos (by simpa using hs)]
 rw [if_neg hs]
 have main2 : ∀ K : List UInt8 → Int → Int → Int → Int → Int → Aar → OpL → Aa5 → Option R, Acp 500000 b K = if ((hdT b).1 == 6447617) = true then Bx4 500000 (Aax b).length (Aax b) (pos (Aax b) (nmT b).2.1) (nmT b).2.2 (Ap7 n (Aaq 1 (hdT b).2).2).1 K else K [] 0 0 0 0 3 [] [] [] := fun K => by rw [main, if_neg (by simpa using hs)]
 by_cases hm : (hdT b).1 = 6447617
 ·have hnm : txt (Ap7 n (Aaq 1 (hdT b).2).2).1 = (nmT b).1 := by
   unfold nmT; rw [B9n, hn, Int.toNat_natCast]
  have := C9i (R := R) hb hl (N := 500000) (by omega) (Ap7 n (Aaq 1 (hdT b).2).2).1 hnm hm
  cases hh : Ba6 b with
  | none =>
   rw [hh] at this
   obtain ⟨nm, data, gl, h⟩ := this
   exact ⟨nm, data, gl, fun K => by rw [main2, if_pos (by simpa using hm), h]⟩
  | some q =>
   obtain ⟨nm, data, gl, fr, sz⟩ := q
   rw [hh] at this
   intro K
   rw [main2, if_pos (by simpa using hm)]
   exact this K
 ·have : Ba6 b = none := by unfold Ba6; rw [if_pos hm]
  rw [this]
  exact ⟨[], [], [], fun K => by rw [main2, if_neg (by simpa using hm)]⟩
theorem Cg9 {b : List Int} {nm : List UInt8} {data : Aar} {gl : Aa5} {fr : Nat} {sz : Int} (h : Ba6 b = some (nm, data, gl, fr, sz)) : nm = (nmT b).1 ∧ data = (daT b).2.1 ∧ gl = (enT b).1 ∧ fr = pos (Aax b) (szT b).2.1 ∧ sz = (szT b).2.1.length := by
 unfold Ba6 at h
 split at h
 ·cases h
 split at h
 ·cases h
 split at h
 ·cases h
 split at h
 ·cases h
 rename_i h4
 simp only [Option.some.injEq, Prod.mk.injEq] at h
 obtain ⟨rfl, rfl, rfl, rfl, rfl⟩ := h
 exact ⟨rfl, rfl, rfl, rfl, by omega⟩
theorem Ck1 {b : List Int} (hb : Ad9 b) : Bcu 500000 (nmT b).1 (daT b).2.1 (enT b).1 := by
 have hB : Ad9 (Aax b) := hb.take _
 have s1 : Sfx (Aax b) (hdT b).2.1 := Ady (s := (Aax b, false)) (Sfx.refl _)
 have s2 : Sfx (Aax b) (nmT b).2.1 := A0e s1
 have s3 : Sfx (Aax b) (dcT b).2.1 := Ady s2
 have s4 : Sfx (Aax b) (daT b).2.2.1 := Bf4 s3
 have a : 0 ≤ (gcT b).1 ∧ (gcT b).1 < 256 ^ 1 := Atm hB (n := 1) s4
 have hn : (nmT b).1.length ≤ 255 := B9h hB s1
 have hd : ∀ d, d ∈ (daT b).2.1 → d.1.length ≤ 255 ∧ d.2.2.length ≤ 65535 := Bx2 hB _ _ _ s3 (fun d hd => by cases hd)
 have hg : (enT b).1.length = (gcT b).1.toNat := by unfold enT; rw [B9i]; simp
 exact ⟨by omega, by omega, fun d h => by have := hd d h; omega, fun d h => by have := hd d h; omega, fun d h => by have := hd d h; omega, by omega, by omega, by omega⟩
theorem C5n {nm : List UInt8} {data : Aar} {l : OpL} {gl : Aa5} {procs labels : Int} {x : Int × Int × Int} (hx : x ∈ l) (h : Ais data.length procs labels x = false) : Agp nm data l gl procs labels ≠ 0 := by
 intro he
 have := (Cxi (Asm he).1).all x hx
 rw [h] at this; cases this
theorem Bx5 {R : Type} {b : List Int} (hb : Ad9 b) (hl : b.length ≤ 200000) (K : List UInt8 → Int → Int → Int → Aar → OpL → Aa5 → Option R) :
  Agz 500000 b K = K (Afg b).1 (Afg b).2.1 (Afg b).2.2.1 (Afg b).2.2.2.2.2.1 (Afg b).2.2.2.2.2.2.1 (Afg b).2.2.2.2.2.2.2.1 (Afg b).2.2.2.2.2.2.2.2 := by
 simp only [Agz, Blm]
 unfold Afg
 by_cases h15 : b.length < 15
 ·rw [Cxs h15, if_pos (by decide)]; simp only [if_pos h15]
 simp only [if_neg h15]
 have hwh := Cxt (R := R) hb (by omega) hl
 by_cases hs : uns 0 (seg b (b.length - 4) 4) ≠ A92 0 0 (b.take (b.length - 4))
 ·rw [if_pos hs] at hwh
  rw [hwh, if_pos (by decide)]; simp only [if_pos hs]
 rw [if_neg hs] at hwh
 simp only [if_neg hs, B9r]
 cases hh : Ba6 b with
 | none =>
  rw [hh] at hwh
  obtain ⟨nm, data, gl, hwh⟩ := hwh
  rw [hwh, if_pos (by decide)]
 | some q =>
  obtain ⟨nm, data, gl, fr, sz⟩ := q
  rw [hh] at hwh
  have hin := Cg9 hh
  have F := Ck1 hb
  obtain ⟨rfl, rfl, rfl, rfl, rfl⟩ := hin
  have hlB : (Aax b).length = b.length - 4 := by unfold Aax; rw [List.length_take]; omega
  have hB : Ad9 (Aax b) := hb.take _
  have s1 : Sfx (Aax b) (hdT b).2.1 := Ady (s := (Aax b, false)) (Sfx.refl _)
  have s4 : Sfx (Aax b) (daT b).2.2.1 := Bf4 (Ady (A0e s1))
  have s7 : Sfx (Aax b) (szT b).2.1 := Ady (B9g (Ady s4))
  have h7 := s7.1
  have hps : pos (Aax b) (szT b).2.1 + (szT b).2.1.length = b.length - 4 := by unfold pos; omega
  have hv : wi (((pos (Aax b) (szT b).2.1 : Nat) : Int) + ((szT b).2.1.length : Int)) = ((b.length - 4 : Nat) : Int) := by rw [Ac8 (by omega) (by omega)]; omega
  have hsl : List.drop (Int.toNat ((pos (Aax b) (szT b).2.1 : Nat) : Int)) (List.take (Int.toNat ((b.length - 4 : Nat) : Int)) b) = (szT b).2.1 := by
   rw [Int.toNat_natCast, Int.toNat_natCast]; exact s7.2
  rw [hwh, if_neg (by decide)]
  dsimp only
  rw [hv, if_pos (by simp only [len]; omega), if_pos (by omega), hsl, C7h (s7.bytes hB) (by omega) (by omega) (by omega)]
  cases hp : Aiz (szT b).2.1.length (szT b).2.1 0 with
  | none => rfl
  | some ps =>
   have H := Dem (s7.bytes hB) (by omega) hp
   have hle := H.le
   have hw1 : wi (((szT b).2.1.length : Int) + 1) = (((szT b).2.1.length + 1 : Nat) : Int) := Abh (by omega)
   dsimp only
   rw [if_neg (by decide), hw1, if_pos (by omega), Int.toNat_natCast]
   have h19 := C5g (R := R) 500000 b (szT b).2.1.length [] 0 0 (nmT b).1 0 0 (Alz ps) (Aer ps ++ [((szT b).2.1.length : Int)]) [] [] [] (daT b).2.1 [] (enT b).1 (by omega)
    (fun am an ao ap aq ar au av aw ax ay az ba bb bc bd be => Acv 500000 500000 am an 0 ao ap aq ar au av aw ax ay az ba bb bc bd be (fun M O P Q S T U V W X Y Z aa ab ac ad ae => Acf 500000 500000 M O 0 P Q S T U V W X Y Z aa ab ac ad ae (fun i j l m p r t => K j l m i p r t) (fun u af ag ah v w y z A B ai aj ak C D E => Ac5 500000 v w y z A C D E B (fun a c d e f g al => Adc 500000 a e f g c d (fun G => if ((G != (0 : Int)) = true) then (K (([] : List UInt8)) 0 0 3 (([] : List (List UInt8 × Bool × List Int))) (([] : List (Int × Int × Int))) (([] : List (Int × Int)))) else (Afq 500000 a e f g c d (fun I J => if ((I != (0 : Int)) = true) then (K (([] : List UInt8)) 0 0 3 (([] : List (List UInt8 × Bool × List Int))) (([] : List (Int × Int × Int))) (([] : List (Int × Int)))) else (Adx 500000 J u (fun L => if ((!L) = true) then (K (([] : List UInt8)) 0 0 3 (([] : List (List UInt8 × Bool × List Int))) (([] : List (Int × Int × Int))) (([] : List (Int × Int)))) else (K a c d 0 e f g))))))))))
    ((szT b).2.1.length + 1) 500000 0 (List.replicate ((szT b).2.1.length + 1) 0) (by omega) (by omega) (by simp)
   rw [show ((0 : Nat) : Int) = 0 from rfl] at h19
   refine Eq.trans h19 ?_
   rw [List.take_zero, List.nil_append]
   have h27 := C5h (R := R) 500000 b (szT b).2.1.length [] 0 0 (nmT b).1 0 0 ps (szT b).2.1.length H [] [] [] (daT b).2.1 [] (enT b).1
    (fun M O P Q S T U V W X Y Z aa ab ac ad ae => Acf 500000 500000 M O 0 P Q S T U V W X Y Z aa ab ac ad ae (fun i j l m p r t => K j l m i p r t) (fun u af ag ah v w y z A B ai aj ak C D E => Ac5 500000 v w y z A C D E B (fun a c d e f g al => Adc 500000 a e f g c d (fun G => if ((G != (0 : Int)) = true) then (K (([] : List UInt8)) 0 0 3 (([] : List (List UInt8 × Bool × List Int))) (([] : List (Int × Int × Int))) (([] : List (Int × Int)))) else (Afq 500000 a e f g c d (fun I J => if ((I != (0 : Int)) = true) then (K (([] : List UInt8)) 0 0 3 (([] : List (List UInt8 × Bool × List Int))) (([] : List (Int × Int × Int))) (([] : List (Int × Int)))) else (Adx 500000 J u (fun L => if ((!L) = true) then (K (([] : List UInt8)) 0 0 3 (([] : List (List UInt8 × Bool × List Int))) (([] : List (Int × Int × Int))) (([] : List (Int × Int)))) else (K a c d 0 e f g)))))))))
    500000 0 (List.replicate ((szT b).2.1.length + 1) (-1)) (by omega) (by omega) (by simp)
   rw [List.drop_zero, show ((0 : Nat) : Int) = 0 from rfl] at h27
   refine Eq.trans h27 ?_
   have h35 := C5i (R := R) 500000 b [] 0 0 (nmT b).1 0 0 ps (szT b).2.1.length H [] [] [] (daT b).2.1 [] (enT b).1
    (fun i j l m p r t => K j l m i p r t) (fun u af ag ah v w y z A B ai aj ak C D E => Ac5 500000 v w y z A C D E B (fun a c d e f g al => Adc 500000 a e f g c d (fun G => if ((G != (0 : Int)) = true) then (K (([] : List UInt8)) 0 0 3 (([] : List (List UInt8 × Bool × List Int))) (([] : List (Int × Int × Int))) (([] : List (Int × Int)))) else (Afq 500000 a e f g c d (fun I J => if ((I != (0 : Int)) = true) then (K (([] : List UInt8)) 0 0 3 (([] : List (List UInt8 × Bool × List Int))) (([] : List (Int × Int × Int))) (([] : List (Int × Int)))) else (Adx 500000 J u (fun L => if ((!L) = true) then (K (([] : List UInt8)) 0 0 3 (([] : List (List UInt8 × Bool × List Int))) (([] : List (Int × Int × Int))) (([] : List (Int × Int)))) else (K a c d 0 e f g))))))))
    500000 0 (la0 ps (List.replicate ((szT b).2.1.length + 1) (-1))) (by omega) (by omega) (by rw [B1o]; simp)
   rw [List.drop_zero, show ((0 : Nat) : Int) = 0 from rfl] at h35
   refine Eq.trans h35 ?_
   cases hro : la1 (szT b).2.1.length ps (la0 ps (List.replicate ((szT b).2.1.length + 1) (-1))) with
   | none =>
    have hr : B9q (szT b).2.1.length ps = none := by unfold B9q; rw [hro]
    cases ho : Bfv ps with
    | none => rfl
    | some no =>
     obtain ⟨n, o⟩ := no
     obtain ⟨x, hx, hbad⟩ := C5l H hr ho (daT b).2.1.length (An2 o 0)
     have := C5n (nm := (nmT b).1) (data := (daT b).2.1) (gl := (enT b).1) hx hbad
     dsimp only
     rw [if_neg (fun h => this h.1)]
   | some la =>
    have hr : B9q (szT b).2.1.length ps = some ((la2 ps 0 la).1, Ax6 (la2 ps 0 la).2 ps) := by unfold B9q; rw [hro]
    have ho := C5k H hr
    rw [ho]
    dsimp only
    rw [Cxr 500000 ps _ H (by omega) hro]
    generalize Ax6 (la2 ps 0 la).2 ps = o at ho ⊢
    generalize (la2 ps 0 la).1 = n at ho ⊢
    rw [Bly F]
    by_cases hc : Aub (nmT b).1 (daT b).2.1 o (enT b).1 (An2 o 0) n = 0
    ·rw [if_neg (by simpa using hc), Ctc F (by omega)]
     by_cases he : Agp (nmT b).1 (daT b).2.1 o (enT b).1 (An2 o 0) n = 0
     ·have hpl := Bvr he
      rw [if_pos he, if_neg (by decide), C2z 500000 _ _ (by rw [Bxz]; omega) (by rw [Bxz]; omega)]
      by_cases hpk : Bi1 (nmT b).1 (daT b).2.1 o (enT b).1 = b
      ·rw [if_neg (by rw [hpk]; simp), if_pos ⟨he, hpk⟩]
      ·rw [if_pos (by simp [hpk]), if_neg (fun h => hpk h.2)]
     ·rw [if_neg he, if_pos (by simpa using he), if_neg (fun h => he h.1)]
    ·rw [if_pos (by simpa using hc), if_neg (fun h => hc (Asm h.1).1)]
theorem Cy8 {R : Type} (N : Nat) (a : List Int) (hl : a.length ≤ 1000000) (hN : a.length < N) (K : Bool → Option R) : Ahe N a a K = K true := by
 simp only [Ahe, Blq]
 rw [if_neg (by simp)]
 have h : ∀ (k i : Nat), i ≤ a.length → a.length - i < k → Ag0 N k a a i (fun b => K b) (K true) = K true := by
  intro k
  induction k with
  | zero => intro i _ h; omega
  | succ k ih =>
   intro i hi hk
   simp only [Ag0, Bfm]
   by_cases hlt : i < a.length
   case neg => rw [if_neg (by simp [len]; omega)]
   rw [if_pos (by simp [len]; omega), if_pos (by simp only [len]; omega), if_pos (by simp only [len]; omega), if_neg (by simp), Abh (by omega)]
   exact ih (i + 1) (by omega) (by omega)
 exact h N 0 (by omega) (by omega)
theorem C3c {R : Type} (N : Nat) (a : OpL) (hl : a.length ≤ 1000000) (hN : a.length < N) (K : Bool → Option R) : Ag9 N a a K = K true := by
 simp only [Ag9, Bqd]
 rw [if_neg (by simp)]
 have h : ∀ (k i : Nat), i ≤ a.length → a.length - i < k → Ahk N k a a i (fun b => K b) (K true) = K true := by
  intro k
  induction k with
  | zero => intro i _ h; omega
  | succ k ih =>
   intro i hi hk
   simp only [Ahk, Bin]
   by_cases hlt : i < a.length
   case neg => rw [if_neg (by simp [len]; omega)]
   rw [if_pos (by simp [len]; omega), if_pos (by simp only [len]; omega), if_pos (by simp only [len]; omega), if_neg (by simp), Abh (by omega)]
   exact ih (i + 1) (by omega) (by omega)
 exact h N 0 (by omega) (by omega)
theorem Cdl {R : Type} (N : Nat) (nm : List UInt8) (data : Aar) (o : OpL) (gl : Aa5) (p n : Int) (h1 : data.length ≤ 1000000) (h2 : data.length < N) (h3 : ∀ d, d ∈ data → d.2.2.length ≤ 1000000 ∧ d.2.2.length < N) (h4 : o.length ≤ 1000000) (h5 : o.length < N) (h6 : gl.length ≤ 1000000) (h7 : gl.length < N) (K : Bool → Option R) :
  Alf N nm data o gl p n nm data o gl p n K = K true := by
 have hg : ∀ (k i : Nat), i ≤ gl.length → gl.length - i < k → Aet N k i nm data o gl p n nm data o gl p n (fun a => K a) (fun f g b j l m q r c s t u => Ag9 N b c (fun e => K e)) = K true := by
  intro k
  induction k with
  | zero => intro i _ h; omega
  | succ k ih =>
   intro i hi hk
   simp only [Aet, Bca]
   by_cases hlt : i < gl.length
   case neg => rw [if_neg (by simp [len]; omega), C3c N o h4 h5]
   rw [if_pos (by simp [len]; omega), if_pos (by simp only [len]; omega), if_pos (by simp only [len]; omega), if_neg (by simp), Abh (by omega)]
   exact ih (i + 1) (by omega) (by omega)
 have hd : ∀ (k i : Nat), i ≤ data.length → data.length - i < k → Afo N k i nm data o gl p n nm data o gl p n (fun v => K v) (fun w x y z A B C D E F G H => Aet N N 0 w x y z A B C D E F G H (fun a => K a) (fun f g b j l m q r c s t u => Ag9 N b c (fun e => K e))) = K true := by
  intro k
  induction k with
  | zero => intro i _ h; omega
  | succ k ih =>
   intro i hi hk
   simp only [Afo, Bfq]
   by_cases hlt : i < data.length
   case neg => rw [if_neg (by simp [len]; omega)]; exact hg N 0 (by omega) (by omega)
   have hin : (0 : Int) ≤ i ∧ (i : Int) < len data := by simp only [len]; omega
   have h3' := h3 data[i] (List.getElem_mem hlt)
   rw [if_pos (by simp [len]; omega)]
   simp only [if_pos hin]
   rw [if_neg (by simp), if_neg (by simp), Ad2 _ _ hlt, Cy8 N _ h3'.1 h3'.2, if_neg (by decide), Abh (by omega)]
   exact ih (i + 1) (by omega) (by omega)
 simp only [Alf, Bls]
 rw [if_neg (by simp), if_neg (by simp), if_neg (by simp), if_neg (by simp), if_neg (by simp)]
 exact hd N 0 (by omega) (by omega)
theorem Cp1 {b : List Int} (h : (Afg b).2.2.2.2.2.1 = 0) : 15 ≤ b.length ∧ ¬uns 0 (seg b (b.length - 4) 4) ≠ A92 0 0 (b.take (b.length - 4)) ∧ ∃ data gl o n, Ba6 b = some ((nmT b).1, data, gl, pos (Aax b) (szT b).2.1, ((szT b).2.1.length : Int)) ∧ Agp (nmT b).1 data o gl (An2 o 0) n = 0 ∧ Afg b = ((nmT b).1, An2 o 0, n, ((pos (Aax b) (szT b).2.1 : Nat) : Int), ((szT b).2.1.length : Int), 0, data, o, gl) := by
 unfold Afg at h ⊢
 by_cases h15 : b.length < 15
 ·rw [if_pos h15] at h; cases h
 rw [if_neg h15] at h ⊢
 by_cases hs : uns 0 (seg b (b.length - 4) 4) ≠ A92 0 0 (b.take (b.length - 4))
 ·rw [if_pos hs] at h; cases h
 rw [if_neg hs] at h ⊢
 refine ⟨by omega, hs, ?_⟩
 rw [B9r] at h ⊢
 cases hh : Ba6 b with
 | none => rw [hh] at h; cases h
 | some q =>
  obtain ⟨nm, data, gl, fr, sz⟩ := q
  obtain ⟨rfl, rfl, rfl, rfl, rfl⟩ := Cg9 hh
  rw [hh] at h
  dsimp only at h ⊢
  cases hp : Aiz (szT b).2.1.length (szT b).2.1 0 with
  | none => rw [hp] at h; cases h
  | some ps =>
   rw [hp] at h
   dsimp only at h ⊢
   cases ho : Bfv ps with
   | none => rw [ho] at h; cases h
   | some no =>
    obtain ⟨n, o⟩ := no
    rw [ho] at h
    dsimp only at h ⊢
    by_cases hc : Agp (nmT b).1 (daT b).2.1 o (enT b).1 (An2 o 0) n = 0 ∧ Bi1 (nmT b).1 (daT b).2.1 o (enT b).1 = b
    ·rw [if_pos hc]
     exact ⟨_, _, o, n, rfl, hc.1, rfl⟩
    ·rw [if_neg hc] at h; cases h
theorem Ck2 {b : List Int} (h : (Afg b).2.2.2.2.2.1 ≠ 0) : Afg b = ([], 0, 0, 0, 0, (Afg b).2.2.2.2.2.1, [], [], []) := by
 unfold Afg at h ⊢
 by_cases h15 : b.length < 15
 ·simp only [if_pos h15]
 simp only [if_neg h15] at h ⊢
 by_cases hs : uns 0 (seg b (b.length - 4) 4) ≠ A92 0 0 (b.take (b.length - 4))
 ·simp only [if_pos hs]
 simp only [if_neg hs] at h ⊢
 cases hu : Ba4 b with
 | none => rfl
 | some c =>
  obtain ⟨nm, data, o, gl, p, n, fr, sz⟩ := c
  rw [hu] at h
  dsimp only at h ⊢
  by_cases hc : Agp nm data o gl p n = 0 ∧ Bi1 nm data o gl = b
  ·rw [if_pos hc] at h; exact absurd rfl h
  ·simp only [if_neg hc]
theorem Ctd {R : Type} {b : List Int} (hb : Ad9 b) (hl : b.length ≤ 200000) (K : Int → Int → Int → Option R) :
  App 500000 b K = K (Afg b).2.2.2.1 (Afg b).2.2.2.2.1 (Afg b).2.2.2.2.2.1 := by
 simp only [App, Bvd]
 rw [Bx5 hb hl]
 by_cases he : (Afg b).2.2.2.2.2.1 = 0
 ·obtain ⟨h15, hs, data, gl, o, n, hh, _, ho⟩ := Cp1 he
  have hwh := Cxt (R := R) hb h15 hl
  rw [if_neg hs, hh] at hwh
  rw [if_neg (by simpa using he), hwh, ho]
 ·rw [if_pos (by simpa using he), Ck2 he]
theorem B9s {R : Type} {b : List Int} (hb : Ad9 b) (K : Bool → Option R) : Auv 500000 b K = K true := by
 simp only [Auv, Bce]
 by_cases hl : b.length > 200000
 ·rw [if_pos (by simp only [len, decide_eq_true_eq]; omega), C4z]
 rw [if_neg (by simp only [len, decide_eq_true_eq]; omega)]
 simp only [Ao8, Bo7, Asl, By3]
 rw [Cpq hb (by omega), Bx5 hb (by omega), Cpq hb (by omega), Ctd hb (by omega)]
 have hcode : Alf 500000 (Afg b).1 (Afg b).2.2.2.2.2.2.1 (Afg b).2.2.2.2.2.2.2.1 (Afg b).2.2.2.2.2.2.2.2 (Afg b).2.1 (Afg b).2.2.1 (Afg b).1 (Afg b).2.2.2.2.2.2.1 (Afg b).2.2.2.2.2.2.2.1 (Afg b).2.2.2.2.2.2.2.2 (Afg b).2.1 (Afg b).2.2.1 (R := R) = fun K => K true := by
  funext K
  by_cases he : (Afg b).2.2.2.2.2.1 = 0
  ·obtain ⟨_, _, data, gl, o, n, hh, hsm, ho⟩ := Cp1 he
   obtain ⟨_, rfl, rfl, _, _⟩ := Cg9 hh
   have F := Ck1 hb
   obtain ⟨h1, h2, h3, h4⟩ := Asm hsm
   obtain ⟨h5, _, _⟩ := A5u h1
   simp only [Avm, Bool.or_eq_false_iff, decide_eq_false_iff_not] at h5
   rw [ho]
   dsimp only
   exact Cdl 500000 _ _ _ _ _ _ (by omega) (by omega) (fun d hd => by have := F.d3 d hd; omega) (by omega) (by omega) (by omega) (by omega) K
  ·rw [Ck2 he]
   exact Cdl 500000 [] [] [] [] 0 0 (by simp) (by simp) (fun d hd => by cases hd) (by simp) (by simp) (by simp) (by simp) K
 rw [hcode]
 dsimp only
 rw [if_pos rfl, if_pos (by simp), if_pos (by simp), if_pos (by simp), if_pos (by simp), Cot 500000 _ (by omega) (by omega), Co7 500000 _ (by omega) (by omega), if_pos (by simp), C4z]
theorem Cpd (a : Ty.den (.list (.int .u8))) (c : Wf _ a) :
  ∃ N, (Bq9 N).run AV [Cto false (.list (.int .u8)) a] [] (fun v _ _ => some v) = some (vb true) :=
 ⟨500000, B9s (C6e c) (fun b => some (vb b))⟩
end Q

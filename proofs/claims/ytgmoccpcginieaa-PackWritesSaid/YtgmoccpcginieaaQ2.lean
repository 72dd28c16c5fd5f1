/- Part Q2 of the proof. -/
import Derived.Test.YtgmoccpcginieaaQ1
open Go Go.AX Go.Proofs
namespace Q
theorem B9g {R : Type} (N : Nat) (nm : List UInt8) (data : Aaz) (l : OpL) (gl : Abt) (procs labels nd : Int) (C : Chk nd procs labels l) (hN : l.length < N) (K : List Int → List Int → List Int → Option R) :
    ∀ (k f : Nat) (s s' : List Int), Al8 l.length s → Sim l s s' → 3 * l.length - s.sum < k → 3 * l.length - s.sum < f →
    ∃ ks, Sim l (Aw0 (Ado 0 l []) l f s).1 ks ∧ Abx N k nm data l gl procs labels s' (plc l s' 0) (Aqk l labels) K = K ks ((Aw0 (Ado 0 l []) l f s).2.2 ++ [(Aw0 (Ado 0 l []) l f s).2.1]) (Aqk l labels) := by
  have hl := C.len
  intro k
  induction k with
  | zero => intro f s s' hs _ h _; have := An5 hs; omega
  | succ k ih =>
    intro f s s' hs hss hk hf
    have hsum := An5 hs
    obtain ⟨f, rfl⟩ : ∃ g, f = g + 1 := ⟨f - 1, by omega⟩
    simp only [Abx, A8f]
    rw [if_pos (by have := hss.1; have := hs.1; omega)]
    obtain ⟨s'', h1, h2⟩ := Cbg (R := R) N nm data l gl procs labels nd C s s' hs hss (fun y0 y1 y2 y3 y4 y5 y6 y7 y8 y9 y10 => if ((!y0) = true) then (K y8 y9 y10) else (Aa3 N y3 y7 y9 y10 (fun y11 y12 y13 y14 => Abx N k y1 y2 y3 y4 y5 y6 y11 y14 y13 K)))
      N 0 false s s' (by omega) (by omega) hs.1 hss
    rw [List.drop_zero, show ((0 : Nat) : Int) = 0 from rfl] at h2
    rw [List.drop_zero] at h1
    have hg := Bv0 (Ado 0 l []) (Aed l s 0).2 s l l.length l 0 false s (by omega) hs (fun _ _ => rfl)
    rw [h2]
    have hpk : plc l s' 0 = plc l s 0 := by unfold plc; rw [Bf4 l s s' 0 hs.1 hss]
    cases hb : (Ajw (Ado 0 l []) (Aed l s 0).2 s l 0 l false s).1
    · rw [if_pos (by decide)]
      have e : Aw0 (Ado 0 l []) l (f + 1) s = (s, (Aed l s 0).1, (Aed l s 0).2) := by
        simp only [Aw0]
        rw [hb, if_neg (by decide)]
      refine ⟨s', by rw [e]; exact hss, ?_⟩
      rw [e, hpk]; rfl
    · have hlt : s.sum < (Ajw (Ado 0 l []) (Aed l s 0).2 s l 0 l false s).2.sum := by
        rcases hg.2.2 hb with h | h
        · cases h
        · exact h
      rw [if_neg (by decide)]
      have e : Aw0 (Ado 0 l []) l (f + 1) s = Aw0 (Ado 0 l []) l f (Ajw (Ado 0 l []) (Aed l s 0).2 s l 0 l false s).2 := by
        simp only [Aw0]
        rw [hb, if_pos rfl]
      rw [Cda N l s'' (by rw [h1.1]; exact hg.1.1) (by omega) hN h1.2.2, e]
      exact ih f _ s'' hg.1 h1 (by omega) (by omega)
theorem B2v : ∀ (r : OpL) (i : Nat) (s : List Int) (j : Nat), i + r.length ≤ s.length → (Bc6 i r s).getD j 0 = if i ≤ j ∧ j < i + r.length ∧ (Aae (Abd r (j - i)) = 0 ∨ (Abd r (j - i)).1 = 30) then Ajh (Abd r (j - i)).2.1 else s.getD j 0
  | [], i, s, j, _ => by
    rw [Bc6, if_neg (by simp; omega)]
  | x :: r, i, s, j, h => by
    rw [List.length_cons] at h
    rw [Bc6, B2v r (i + 1) _ j (by split <;> (try rw [List.length_set]) <;> omega)]
    by_cases hj : j = i
    · subst hj
      rw [if_neg (by omega), Nat.sub_self]
      show _ = if j ≤ j ∧ j < j + (r.length + 1) ∧ (Aae x = 0 ∨ x.1 = 30) then Ajh x.2.1 else s.getD j 0
      by_cases hc : Aae x = 0 ∨ x.1 = 30
      · rw [if_pos hc, if_pos ⟨Nat.le_refl _, by omega, hc⟩, Ak8, if_pos ⟨rfl, by omega⟩]
      · rw [if_neg hc, if_neg (fun h => hc h.2.2)]
    · have e : (if Aae x = 0 ∨ x.1 = 30 then s.set i (Ajh x.2.1) else s).getD j 0 = s.getD j 0 := by
        split
        · rw [Ak8, if_neg (by omega)]
        · rfl
      rw [e]
      by_cases hlt : i < j
      · have e2 : Abd (x :: r) (j - i) = Abd r (j - (i + 1)) := by
          rw [show j - i = (j - (i + 1)) + 1 by omega]; rfl
        rw [e2, List.length_cons]
        by_cases hc : j < i + (r.length + 1) ∧ (Aae (Abd r (j - (i + 1))) = 0 ∨ (Abd r (j - (i + 1))).1 = 30)
        · rw [if_pos ⟨by omega, by omega, hc.2⟩, if_pos ⟨by omega, hc.1, hc.2⟩]
        · rw [if_neg (fun h => hc ⟨by omega, h.2.2⟩), if_neg (fun h => hc h.2)]
      · rw [if_neg (by omega), if_neg (by omega)]
theorem Ci5 {l : OpL} {nd procs labels : Int} (C : Chk nd procs labels l) : Sim l (A6f l) (l.map k0R) := by
  have hlen : (A6f l).length = l.length := (Auf l).1
  have hget : ∀ n, (l.map k0R).getD n 0 = if n < l.length then k0R (Abd l n) else 0 := by
    intro n
    by_cases h : n < l.length
    · rw [if_pos h, Awp h, List.getD_eq_getElem?_getD, List.getElem?_map, List.getElem?_eq_getElem h]; rfl
    · rw [if_neg h, List.getD_eq_getElem?_getD, List.getElem?_eq_none (by rw [List.length_map]; omega)]; rfl
  refine ⟨by rw [List.length_map, hlen], fun i hi h19 => ?_, fun n => ?_⟩
  · rw [hget, if_pos hi]
    unfold A6f
    rw [B2v l 0 _ i (by simp), Nat.sub_zero]
    have hx := C.all _ (List.getElem_mem hi)
    rw [← Awp hi] at hx
    have hfn := Bqw hx
    unfold k0R
    have hz : (List.replicate l.length (0 : Int)).getD i 0 = 0 := by
      rw [List.getD_eq_getElem?_getD, List.getElem?_replicate]; split <;> rfl
    have hnn := A8w hx
    by_cases hf : A6i (Abd l i).1 = true
    · have := hfn.1.1 hf
      rw [if_pos (.inl hf), if_neg (fun h => by rcases h.2.2 with h | h <;> omega), hz]
    · have hne : ¬(A6i (Abd l i).1 = true ∨ (Abd l i).1 = 19) := fun h => h.elim hf h19
      have hc : Aae (Abd l i) = 0 ∨ (Abd l i).1 = 30 := by
        by_cases h30 : (Abd l i).1 = 30
        · exact .inr h30
        · left
          rcases hnn with h | h
          · exact h
          · exact absurd (hfn.1.2 ⟨by omega, h30⟩) hf
      rw [if_neg hne, if_pos ⟨by omega, by omega, hc⟩]
  · rw [hget]
    split
    · unfold k0R; split
      · omega
      · exact Bc5 _
    · omega
theorem B8b {R : Type} (N : Nat) (hN : 120009 ≤ N) (nm : List UInt8) (data : Aaz) (l : OpL) (gl : Abt) (procs labels nd : Int) (C : Chk nd procs labels l) (K : List Int → List Int → List Int → Option R) :
    ∃ ks, Sim l (Adq l).1 ks ∧ Al7 N nm data l gl procs labels K = K ks ((Adq l).2.2 ++ [(Adq l).2.1]) (Aqk l labels) := by
  have hl := C.len
  have hb := C.lb
  have hw : wi (labels + 1) = labels + 1 := Ad7 (by omega) (by omega)
  have h0 := Auf l
  have hs := An5 h0
  have hsim := Ci5 C
  obtain ⟨ks, h1, h2⟩ := B9g (R := R) N nm data l gl procs labels nd C (by omega) (fun y13 y14 y15 => K y13 y14 y15) N (3 * l.length + 1) (A6f l) (l.map k0R) h0 hsim (by omega) (by omega)
  refine ⟨ks, h1, ?_⟩
  simp only [Al7, Biq, hw]
  rw [if_pos (by omega)]
  have h7 := Cc9 (R := R) N nm data l gl procs labels nd (by omega) C [] (fun y0 y1 y2 y3 y4 y5 y6 y7 y8 => Aa3 N y2 y6 y7 y8 (fun y9 y10 y11 y12 => Abx N N y0 y1 y2 y3 y4 y5 y9 y12 y11 (fun y13 y14 y15 => K y13 y14 y15))) N 0 [] (List.replicate (labels + 1).toNat 0) (by omega) (by omega) rfl (by simp; omega)
  rw [List.drop_zero, show ((0 : Nat) : Int) = 0 from rfl, List.nil_append] at h7
  refine Eq.trans h7 ?_
  rw [Cda N l _ (by rw [List.length_map]) (by omega) (by omega) hsim.2.2]
  exact h2
theorem Cf1 (x : Int) {a b : Nat} (h : a + b ≤ 64) : Ax7 .i64 (Ax7 .i64 x a) b = Ax7 .i64 x ((a + b : Nat) : Int) := by
  unfold Ax7
  have hb : IntKind.i64.bits = 64 := rfl
  simp only [Int.toNat_natCast, hb]
  rw [Nat.min_eq_left (by omega), Nat.min_eq_left (by omega), Nat.min_eq_left (by omega)]
  have ha : (0 : Int) < 2 ^ a := Int.pow_pos (by decide)
  have hb' : (0 : Int) < 2 ^ b := Int.pow_pos (by decide)
  rw [Int.fdiv_eq_ediv_of_nonneg _ (by omega), Int.fdiv_eq_ediv_of_nonneg _ (by omega), Int.fdiv_eq_ediv_of_nonneg _ (Int.le_of_lt (Int.pow_pos (by decide))), Int.ediv_ediv_of_nonneg (by omega), ← Int.pow_add]
theorem Ceo (x : Int) : Ax7 .i64 x 0 = x := by
  unfold Ax7
  simp
theorem Cf2 (n : Nat) (v : Int) (b : List Int) : (List.replicate (n + 1) (0 : Int) ++ b).set n v = List.replicate n 0 ++ v :: b := by
  rw [List.replicate_succ', List.append_assoc, List.set_append_right _ _ (by simp)]
  simp
theorem Cep {R : Type} (N : Nat) (x : Int) (n : Nat) (hn : n ≤ 7) (K : List Int → Option R) : ∀ (m k j : Nat), m < k → j + m = n →
    Agd N k (Ax7 .i64 x ((8 * j : Nat) : Int)) ((m : Int) - 1) (List.replicate m 0 ++ beB x j) K = K (beB x n) := by
  intro m
  induction m with
  | zero =>
    intro k j hk hj
    obtain ⟨k, rfl⟩ := exk hk
    simp only [Agd, A15]
    obtain rfl : j = n := by omega
    rw [if_neg (by simp)]; simp
  | succ m ih =>
    intro k j hk hj
    obtain ⟨k, rfl⟩ := exk hk
    simp only [Agd, A15]
    have h1 : ((m + 1 : Nat) : Int) - 1 = (m : Int) := by omega
    have hs : Ax7 .i64 (Ax7 .i64 x ((8 * j : Nat) : Int)) 8 = Ax7 .i64 x ((8 * (j + 1) : Nat) : Int) := Cf1 x (a := 8 * j) (b := 8) (by omega)
    rw [h1, if_pos (by simp), if_pos (by simp only [len, List.length_append, List.length_replicate]; omega), hs, Ad7 (by omega) (by omega), Int.toNat_natCast, Cf2]
    have := ih k (j + 1) (by omega) (by omega)
    rw [beB] at this
    have e : ((8 * j : Nat) : Int) = 8 * (j : Int) := by omega
    rw [e]
    exact this
theorem By2 {R : Type} (N : Nat) (hN : 8 ≤ N) (x : Int) (n : Nat) (hn : n ≤ 7) (K : List Int → Option R) : Aa1 N x n K = K (beB x n) := by
  simp only [Aa1, Bis]
  rw [if_pos (by omega), Ad7 (by omega) (by omega), Int.toNat_natCast]
  have := Cep N x n hn (fun y0 => K y0) n N 0 (by omega) (by omega)
  rw [show ((8 * 0 : Nat) : Int) = 0 from rfl, Ceo, beB, List.append_nil] at this
  exact this
theorem Bv7 (l : OpL) (hl : l.length ≤ 1000000) : Al8 l.length (Adq l).1 ∧ (Adq l).2 = Aed l (Adq l).1 0 := by
  have h0 := An5 (Auf l)
  exact B9w (Ado 0 l []) l (3 * l.length + 1) (A6f l) (Auf l) (by omega)
theorem B2w (op c n m : Int) (hc : 0 ≤ c ∧ c < 4) : ((Bi1 op c n m).length : Int) = 1 + Ae5 c + Afd op := by
  have := Amp hc
  have := Amq op
  unfold Bi1
  rw [List.length_cons, List.length_append, Aen, Aen]; omega
theorem Bv8 (mk : Alu) (at' cs : List Int) (l : OpL) (hcs : ∀ n, 0 ≤ cs.getD n 0 ∧ cs.getD n 0 < 4) : ∀ (r : OpL) (i : Nat) (off : Int), i + r.length = cs.length → ((Bcb mk at' cs l i r).length : Int) = (Aed r (cs.drop i) off).1 - off
  | [], i, off, h => by
    rw [Bcb, List.drop_eq_nil_of_le (by simp at h; omega)]; simp [Aed]
  | x :: r, i, off, h => by
    rw [List.length_cons] at h
    have hlt : i < cs.length := by omega
    have hg : cs.getD i 0 = cs[i] := by rw [List.getD_eq_getElem?_getD, List.getElem?_eq_getElem hlt]; rfl
    rw [Bcb, List.drop_eq_getElem_cons hlt, List.length_append]
    simp only [Aed]
    have hi := hcs i
    rw [hg] at hi
    have e : ((opB mk at' cs l i x).length : Int) = if x.1 = 19 then 0 else 1 + Ae5 cs[i] + Afd x.1 := by
      unfold opB
      split
      · rfl
      · rw [hg]
        split
        · rw [B2w _ _ _ _ hi]
        · split <;> rw [B2w _ _ _ _ hi]
    by_cases h19 : x.1 = 19
    · rw [if_pos h19] at e ⊢
      have := Bv8 mk at' cs l hcs r (i + 1) off (by omega)
      omega
    · rw [if_neg h19] at e ⊢
      have := Bv8 mk at' cs l hcs r (i + 1) (off + (1 + Ae5 cs[i] + Afd x.1)) (by omega)
      omega
theorem Cdc (l : OpL) (hl : l.length ≤ 1000000) : ((Am6 l).length : Int) = (Adq l).2.1 := by
  have h := Bv7 l hl
  have hs : Al8 l.length (Adq l).1 := h.1
  have := Bv8 (Ado 0 l []) (Adq l).2.2 (Adq l).1 l hs.2 l 0 0 (by rw [hs.1]; omega)
  rw [List.drop_zero] at this
  unfold Am6
  rw [this, show (Adq l).2.1 = (Aed l (Adq l).1 0).1 by rw [h.2]]; omega
theorem B2x {R : Type} (N : Nat) (hN : 8 ≤ N) (i : Nat) (n m : Int) (ks pl lab : List Int) (nm : List UInt8) (data : Aaz) (l : OpL) (gl : Abt) (procs labels op N2 M2 : Int) (out : List Int) (hi : i < ks.length) (hks : ∀ n, 0 ≤ ks.getD n 0 ∧ ks.getD n 0 < 4) (hop : 0 ≤ op ∧ op ≤ 31) (ho : out.length + 20 ≤ 70368744177664)
    (K : Int → List Int → List Int → List Int → List UInt8 → Aaz → OpL → Abt → Int → Int → List Int → Option R) :
    Abb N i n m ks pl lab nm data l gl procs labels out op N2 M2 K = K i ks pl lab nm data l gl procs labels (out ++ Bi1 op (ks.getD i 0) n m) := by
  have hc := hks i
  have hw := Amp hc
  have he := Amq op
  simp only [Abb, Aq1]
  rw [if_pos (by simp only [len]; omega), Int.toNat_natCast]
  have hw1 : wi (op + wi (32 * ks.getD i 0)) = op + 32 * ks.getD i 0 := by rw [Ad7 (i := 32 * ks.getD i 0) (by omega) (by omega), Ad7 (by omega) (by omega)]
  have h1 : Ae5 (ks.getD i 0) = ((Ae5 (ks.getD i 0)).toNat : Int) := by omega
  have h2 : Afd op = ((Afd op).toNat : Int) := by omega
  rw [hw1, if_pos (by simp only [List.length_cons, List.length_nil]; omega), if_pos (by simp only [len]; omega), Bh2, Cc6 hc, h1, By2 N hN _ _ (by omega),
    if_pos (by simp only [List.length_append, List.length_cons, List.length_nil, Aen]; omega), Bh1, Cc7, h2, By2 N hN _ _ (by omega),
    if_pos (by simp only [List.length_append, List.length_cons, List.length_nil, Aen]; omega), List.append_assoc, List.append_assoc]
  rfl
theorem Cdd {R : Type} (N : Nat) (hN : 8 ≤ N) (nm : List UInt8) (data : Aaz) (l : OpL) (gl : Abt) (procs labels nd : Int) (C : Chk nd procs labels l) (cs ks : List Int) (hs : Al8 l.length cs) (hk : Sim l cs ks) (K : List Int → List Int → List Int → List Int → Option R) :
    ∀ (k i : Nat) (out : List Int), i ≤ l.length → l.length - i < k → out.length ≤ 9 * i →
    Aa7 N k i ks (plc l ks 0) (Aqk l labels) nm data l gl procs labels out K = K ks (plc l ks 0) (Aqk l labels) (out ++ Bcb (Ado 0 l []) (Aed l cs 0).2 cs l i (l.drop i)) := by
  have hl := C.len
  intro k
  induction k with
  | zero => intro i _ _ h; omega
  | succ k ih =>
    intro i out hi hk' ho
    simp only [Aa7, Ass]
    by_cases hlt : i < l.length
    case neg =>
      rw [if_neg (by simp [len]; omega), List.drop_eq_nil_of_le (by omega), Bcb, List.append_nil]
    have hin : (0 : Int) ≤ i ∧ (i : Int) < len l := by simp only [len]; omega
    have hx' := C.all l[i] (List.getElem_mem hlt)
    have hoa := Awp hlt
    rw [if_pos (by simp [len]; omega), if_pos hin, Ac7 _ _ hlt, List.drop_eq_getElem_cons hlt, Bcb]
    obtain ⟨x, hx⟩ : ∃ x, l[i] = x := ⟨_, rfl⟩
    simp only [hx, Bf3] at hx' hoa ⊢
    have hop := A3t hx'
    have hfn := Bqw hx'
    have hik : i < ks.length := by have := hk.1; have := hs.1; omega
    by_cases h19 : x.1 = 19
    · rw [if_pos (by simpa using h19), Abo (by omega), ih (i + 1) out (by omega) (by omega) (by omega)]
      have : opB (Ado 0 l []) (Aed l cs 0).2 cs l i x = [] := by unfold opB; rw [if_pos h19]
      rw [this]; rfl
    have h19' : (Abd l i).1 ≠ 19 := by rw [hoa]; exact h19
    have hkc := hk.2.1 i hlt h19'
    have hilen : ∀ n m, (Bi1 x.1 (ks.getD i 0) n m).length ≤ 9 := fun n m => B72 _ _ _ _ (hk.2.2 i)
    rw [if_neg (by simpa using h19)]
    have part : ∀ n, n = (if A6i x.1 = true then Amr (Ado 0 l []) (Aed l cs 0).2 cs l i x.2.1 else x.2.1) →
        Abc N i n x.2.2 ks (plc l ks 0) (Aqk l labels) nm data l gl procs labels out x.1 x.2.1 x.2.2 (fun y5 y6 y7 y8 y9 y10 y11 y12 y13 y14 y15 => Aa7 N k (wi (y5 + 1)) y6 y7 y8 y9 y10 y11 y12 y13 y14 y15 K) =
        K ks (plc l ks 0) (Aqk l labels) (out ++ (opB (Ado 0 l []) (Aed l cs 0).2 cs l i x ++ Bcb (Ado 0 l []) (Aed l cs 0).2 cs l (i + 1) (l.drop (i + 1)))) := by
      intro n hn
      simp only [Abc, Aq2]
      by_cases h30 : x.1 = 30
      · have hr := hfn.2.2.1 h30
        have hnf : A6i x.1 = false := by rw [h30]; rfl
        rw [hnf, if_neg (by decide)] at hn
        rw [if_pos (by simpa using h30), Bv6 N C hs hk hlt h19' (by omega) hr.2.2, B2x N hN i _ _ _ _ _ _ _ _ _ _ _ _ _ _ _ hik hk.2.2 (by omega) (by omega), Abo (by omega),
          ih (i + 1) _ (by omega) (by omega) (by have := hilen n (Amr (Ado 0 l []) (Aed l cs 0).2 cs l i x.2.2); rw [List.length_append]; omega), hkc, hn, List.append_assoc]
        unfold opB
        rw [if_neg h19, if_pos h30]
      · rw [if_neg (by simpa using h30), B2x N hN i _ _ _ _ _ _ _ _ _ _ _ _ _ _ _ hik hk.2.2 (by omega) (by omega), Abo (by omega),
          ih (i + 1) _ (by omega) (by omega) (by have := hilen n x.2.2; rw [List.length_append]; omega), hkc, hn, List.append_assoc]
        unfold opB
        rw [if_neg h19, if_neg h30]
        by_cases hf : A6i x.1 = true
        · rw [if_pos hf, if_pos (hfn.1.1 hf).1]
        · rw [if_neg hf, if_neg (fun h => hf (hfn.1.2 ⟨h, h30⟩))]
    by_cases hf : A6i x.1 = true
    · have hr := hfn.2.1 hf
      rw [if_pos hf, Bv6 N C hs hk hlt h19' (by omega) hr.2.2]
      exact part _ (by rw [if_pos hf])
    · rw [if_neg hf]
      exact part _ (by rw [if_neg hf])
theorem Cf3 {R : Type} (N : Nat) (hN : 120009 ≤ N) (nm : List UInt8) (data : Aaz) (l : OpL) (gl : Abt) (procs labels nd : Int) (C : Chk nd procs labels l) (ks : List Int) (hk : Sim l (Adq l).1 ks) (K : List Int → List Int → List Int → List Int → Option R) :
    Abm N nm data l gl procs labels ks ((Adq l).2.2 ++ [(Adq l).2.1]) (Aqk l labels) K = K ks ((Adq l).2.2 ++ [(Adq l).2.1]) (Aqk l labels) (Am6 l) := by
  have hl := C.len
  have h := Bv7 l (by omega)
  have hs : Al8 l.length (Adq l).1 := h.1
  have hp : (Adq l).2.2 ++ [(Adq l).2.1] = plc l ks 0 := by
    unfold plc; rw [Bf4 l (Adq l).1 ks 0 hs.1 hk, ← h.2]
  rw [hp]
  simp only [Abm, Avy]
  have := Cdd (R := R) N (by omega) nm data l gl procs labels nd C (Adq l).1 ks hs hk (fun y0 y1 y2 y3 => K y0 y1 y2 y3) N 0 [] (by omega) (by omega) (by simp)
  rw [List.drop_zero, show ((0 : Nat) : Int) = 0 from rfl, List.nil_append, ← h.2] at this
  exact this
theorem B2y {R : Type} {N : Nat} {nm : List UInt8} {data : Aaz} {gl : Abt} (F : A6e N nm data gl) (hN : 120009 ≤ N) (l : OpL) (procs labels : Int) (hc : Ao6 nm data l gl procs labels = 0) (K0 : Int → Option R) (K1 : Int → List Int → List Int → List Int → Option R) :
    ∃ ks, Sim l (Adq l).1 ks ∧ Ad6 N nm data l gl procs labels K0 K1 = if 32767 < (Am6 l).length ∨ 255 < nm.length ∨ 255 < gl.length then K0 2 else K1 0 ks ((Adq l).2.2 ++ [(Adq l).2.1]) (Aqk l labels) := by
  simp only [Ad6, A13]
  rw [Bkw F]
  have C := Cc8 hc
  have hl := C.len
  have h := Bv7 l (by omega)
  have hs : Al8 l.length (Adq l).1 := h.1
  have hat : (Adq l).2.2.length = l.length := by rw [h.2]; exact A3u l _ 0 hs.1
  obtain ⟨ks, h1, h2⟩ := B8b (R := R) N hN nm data l gl procs labels data.length C (fun y1 y2 y3 => if (((0 : Int) ≤ (len l)) ∧ ((len l) < (len y2))) then (if ((decide (((List.getD y2 (Int.toNat (len l)) (0 : Int)) > (32767 : Int)))) = true) then (K0 2) else (if ((decide (((len nm) > (255 : Int)))) = true) then (K0 2) else (if ((decide (((len gl) > (255 : Int)))) = true) then (K0 2) else (K1 0 y1 y2 y3)))) else none)
  have hsz := Cdc l (by omega)
  have hg : List.getD ((Adq l).2.2 ++ [(Adq l).2.1]) (Int.toNat (len l)) 0 = (Adq l).2.1 := by
    rw [show Int.toNat (len l) = (Adq l).2.2.length by rw [hat]; simp [len], List.getD_eq_getElem?_getD, List.getElem?_append_right (Nat.le_refl _), Nat.sub_self]; rfl
  refine ⟨ks, h1, ?_⟩
  rw [hc, if_neg (by decide), h2, if_pos (by simp only [len, List.length_append, List.length_cons, List.length_nil]; omega), hg]
  by_cases a1 : (Adq l).2.1 > 32767
  · rw [if_pos (show 32767 < (Am6 l).length ∨ 255 < nm.length ∨ 255 < gl.length by omega), if_pos (decide_eq_true a1)]
  rw [if_neg (show ¬decide ((Adq l).2.1 > 32767) = true by simpa using a1)]
  by_cases a2 : nm.length > 255
  · rw [if_pos (show 32767 < (Am6 l).length ∨ 255 < nm.length ∨ 255 < gl.length by omega), if_pos (by simp only [len, decide_eq_true_eq]; omega)]
  rw [if_neg (show ¬decide (len nm > 255) = true by simp only [len, decide_eq_true_eq]; omega)]
  by_cases a3 : gl.length > 255
  · rw [if_pos (show 32767 < (Am6 l).length ∨ 255 < nm.length ∨ 255 < gl.length by omega), if_pos (by simp only [len, decide_eq_true_eq]; omega)]
  rw [if_neg (show ¬decide (len gl > 255) = true by simp only [len, decide_eq_true_eq]; omega), if_neg (show ¬(32767 < (Am6 l).length ∨ 255 < nm.length ∨ 255 < gl.length) by omega)]
theorem Ceq {R : Type} {N : Nat} {nm : List UInt8} {data : Aaz} {gl : Abt} (F : A6e N nm data gl) (hN : 120009 ≤ N) {l : OpL} {procs labels : Int} (he : Af3 nm data l gl procs labels = 0) (K0 : Int → Option R) (K1 : Int → List Int → List Int → List Int → Option R) :
    ∃ ks, Sim l (Adq l).1 ks ∧ Chk data.length procs labels l ∧ Ad6 N nm data l gl procs labels K0 K1 = K1 0 ks ((Adq l).2.2 ++ [(Adq l).2.1]) (Aqk l labels) := by
  obtain ⟨h1, h2, h3, h4⟩ := A2f he
  obtain ⟨ks, k1, k2⟩ := B2y F hN l procs labels h1 K0 K1
  exact ⟨ks, k1, Cc8 h1, by rw [k2, if_neg (by omega)]⟩
theorem Cde {R : Type} {N : Nat} {nm : List UInt8} {data : Aaz} {gl : Abt} (F : A6e N nm data gl) (hN : 120009 ≤ N) {l : OpL} {procs labels : Int} (he : Af3 nm data l gl procs labels ≠ 0) (K0 : Int → Option R) (K1 : Int → List Int → List Int → List Int → Option R) :
    Ad6 N nm data l gl procs labels K0 K1 = K0 (Af3 nm data l gl procs labels) := by
  by_cases hc : Ao6 nm data l gl procs labels = 0
  · obtain ⟨ks, k1, k2⟩ := B2y F hN l procs labels hc K0 K1
    rw [k2]
    unfold Af3 at he ⊢
    rw [if_neg (show ¬Ao6 nm data l gl procs labels ≠ 0 by omega)] at he ⊢
    by_cases h : 32767 < (Am6 l).length ∨ 255 < nm.length ∨ 255 < gl.length
    · rw [if_pos h, if_pos h]
    · rw [if_neg h] at he; exact absurd rfl he
  · have e : Af3 nm data l gl procs labels = Ao6 nm data l gl procs labels := by unfold Af3; rw [if_pos hc]
    simp only [Ad6, A13]
    rw [Bkw F, e, if_pos (by simpa using hc)]
theorem B18 {R : Type} (N : Nat) (hN : 8 ≤ N) (x : Int) (K : List Int → Option R) : Aa1 N x 2 K = K (beB x 2) := By2 N hN x 2 (by decide) K
theorem B19 {R : Type} (N : Nat) (hN : 8 ≤ N) (x : Int) (K : List Int → Option R) : Aa1 N x 4 K = K (beB x 4) := By2 N hN x 4 (by decide) K
theorem Cdf {R : Type} (N : Nat) (l : List Int) (hl : l.length ≤ 1099511627776) (K : Int → Option R) : ∀ (k i : Nat) (s : Int), i ≤ l.length → l.length - i < k → Agz N k l s i K = K (Bqq i s (l.drop i)) := by
  intro k
  induction k with
  | zero => intro i _ _ h; omega
  | succ k ih =>
    intro i s hi hk
    simp only [Agz, Bb1]
    by_cases hlt : i < l.length
    case neg =>
      rw [if_neg (by simp [len]; omega), List.drop_eq_nil_of_le (by omega)]; rfl
    have hin : (0 : Int) ≤ i ∧ (i : Int) < len l := by simp only [len]; omega
    rw [if_pos (by simp [len]; omega), if_pos hin, Ac7 _ _ hlt, List.drop_eq_getElem_cons hlt, Bqq, Abo (by omega), ih (i + 1) _ (by omega) (by omega)]
theorem Cf4 {R : Type} (N : Nat) (l : List Int) (hl : l.length ≤ 1099511627776) (hN : l.length < N) (K : Int → Option R) : Afj N l K = K (Bqq 0 0 l) := by
  simp only [Afj, Biv]
  have := Cdf (R := R) N l hl (fun y0 => K y0) N 0 0 (by omega) (by omega)
  rw [List.drop_zero, show ((0 : Nat) : Int) = 0 from rfl] at this
  exact this
theorem B9h {R : Type} (N : Nat) (w : List Int) (hw : w.length ≤ 1099511627776) (hN : 8 < N) (x0 : Int) (x2 : List UInt8) (x3 : Aaz) (x4 : OpL) (x5 : Abt) (x6 x7 : Int) (x9 : List UInt8) (x10 : Bool) (x12 x13 x14 : List Int)
    (K : Int → List UInt8 → Aaz → OpL → Abt → Int → Int → List Int → List Int → List Int → List Int → Option R) : ∀ (k i : Nat) (b : List Int), i ≤ w.length → w.length - i < k → b.length + 4 * (w.length - i) ≤ 70368744177664 →
    Adn N k x0 i x2 x3 x4 x5 x6 x7 b x9 x10 w x12 x13 x14 K = K x0 x2 x3 x4 x5 x6 x7 (b ++ A6g (w.drop i)) x12 x13 x14 := by
  intro k
  induction k with
  | zero => intro i _ _ h; omega
  | succ k ih =>
    intro i b hi hk hb
    simp only [Adn, A5y]
    by_cases hlt : i < w.length
    case neg =>
      rw [if_neg (by simp [len]; omega), List.drop_eq_nil_of_le (by omega)]
      simp [A6g]
    have hin : (0 : Int) ≤ i ∧ (i : Int) < len w := by simp only [len]; omega
    rw [if_pos (by simp [len]; omega), if_pos hin, Ac7 _ _ hlt, List.drop_eq_getElem_cons hlt, B19 N (by omega), if_pos (by rw [Aen]; omega), Abo (by omega),
      ih (i + 1) _ (by omega) (by omega) (by rw [List.length_append, Aen]; omega), Bi2, List.append_assoc]
theorem Cbh {R : Type} (N : Nat) (l : Aaz) (hl : l.length ≤ 1099511627776) (hN : 8 < N) (hw : ∀ d, d ∈ l → d.2.2.length < N ∧ d.2.2.length ≤ 1099511627776) (x1 : List UInt8) (x3 : OpL) (x4 : Abt) (x5 x6 : Int) (x8 x9 x10 : List Int)
    (K : List UInt8 → Aaz → OpL → Abt → Int → Int → List Int → List Int → List Int → List Int → Option R) : ∀ (k i : Nat) (b : List Int), i ≤ l.length → l.length - i < k → b.length + 3 * (l.length - i) + 4 * At9 (l.drop i) ≤ 70368744177664 →
    Ac8 N k i x1 l x3 x4 x5 x6 b x8 x9 x10 K = K x1 l x3 x4 x5 x6 (b ++ Ax5 (l.drop i)) x8 x9 x10 := by
  intro k
  induction k with
  | zero => intro i _ _ h; omega
  | succ k ih =>
    intro i b hi hk hb
    simp only [Ac8, A51]
    by_cases hlt : i < l.length
    case neg =>
      rw [if_neg (by simp [len]; omega), List.drop_eq_nil_of_le (by omega)]
      simp [Ax5]
    have hin : (0 : Int) ≤ i ∧ (i : Int) < len l := by simp only [len]; omega
    have hd' : l.drop i = l[i] :: l.drop (i + 1) := List.drop_eq_getElem_cons hlt
    have hw' := hw l[i] (List.getElem_mem hlt)
    rw [hd', Bhy] at hb
    rw [if_pos (by simp [len]; omega), if_pos hin, Ac7 _ _ hlt, hd', Ax5]
    obtain ⟨x, hx⟩ : ∃ x, l[i] = x := ⟨_, rfl⟩
    simp only [hx] at hw' hb ⊢
    have hx1 := Bv2 x
    have hx2 := Bqs x
    have hx3 := B1z (l.drop (i + 1))
    have hnext : ∀ b' : List Int, b'.length = b.length + (Azx x).length → b'.length + 3 * (l.length - (i + 1)) + 4 * At9 (l.drop (i + 1)) ≤ 70368744177664 := by intro b' h; omega
    by_cases ht : x.2.1 = true
    · have hdl : (Azx x).length = 2 + x.1.length := by unfold Azx; rw [if_pos ht]; simp only [List.length_cons, bytesOf, List.length_map]; omega
      rw [if_pos ht, if_pos (by simp only [List.length_cons, List.length_nil]; omega), if_pos (by simp only [List.length_append, List.length_cons, List.length_nil, List.length_map]; omega), Abo (by omega),
        ih (i + 1) _ (by omega) (by omega) (hnext _ (by simp only [List.length_append, List.length_cons, List.length_nil, List.length_map]; omega))]
      unfold Azx
      rw [if_pos ht, List.append_assoc, List.append_assoc]; rfl
    · have hdl : (Azx x).length = 3 + 4 * x.2.2.length := by unfold Azx; rw [if_neg ht]; simp only [List.length_cons, List.length_append, Aen, A6h]; omega
      rw [if_neg ht, if_pos (by omega), B18 N (by omega), if_pos (by simp only [List.length_append, List.length_cons, List.length_nil, Aen]; omega)]
      have h27 := B9h (R := R) N x.2.2 hw'.2 hN i x1 l x3 x4 x5 x6 x.1 x.2.1 x8 x9 x10 (fun y1 y2 y3 y4 y5 y6 y7 y8 y9 y10 y11 => Ac8 N k (wi (y1 + 1)) y2 y3 y4 y5 y6 y7 y8 y9 y10 y11 K) N 0
        (b ++ [1] ++ beB (len x.2.2) 2) (by omega) (by omega) (by simp only [List.length_append, List.length_cons, List.length_nil, Aen]; omega)
      refine Eq.trans h27 ?_
      rw [List.drop_zero, Abo (by omega),
        ih (i + 1) _ (by omega) (by omega) (hnext _ (by simp only [List.length_append, List.length_cons, List.length_nil, Aen, A6h]; omega))]
      unfold Azx
      rw [if_neg ht, List.append_assoc, List.append_assoc, List.append_assoc]
      have e1 : Ah4 1 = 1 := by decide
      simp [len, e1]
theorem Cbi {R : Type} (N : Nat) (g : Abt) (hg : g.length ≤ 1099511627776) (hN : 8 < N) (x1 : List UInt8) (x2 : Aaz) (x3 : OpL) (x5 x6 : Int) (x8 x9 x10 : List Int)
    (K : List UInt8 → Aaz → OpL → Abt → Int → Int → List Int → List Int → List Int → List Int → Option R) : ∀ (k i : Nat) (b : List Int), i ≤ g.length → g.length - i < k → b.length + 3 * (g.length - i) ≤ 70368744177664 →
    Ac9 N k i x1 x2 x3 g x5 x6 b x8 x9 x10 K = K x1 x2 x3 g x5 x6 (b ++ Aqj (g.drop i)) x8 x9 x10 := by
  intro k
  induction k with
  | zero => intro i _ _ h; omega
  | succ k ih =>
    intro i b hi hk hb
    simp only [Ac9, A54]
    by_cases hlt : i < g.length
    case neg =>
      rw [if_neg (by simp [len]; omega), List.drop_eq_nil_of_le (by omega)]
      simp [Aqj]
    have hin : (0 : Int) ≤ i ∧ (i : Int) < len g := by simp only [len]; omega
    rw [if_pos (by simp [len]; omega), if_pos hin, Ac7 _ _ hlt, List.drop_eq_getElem_cons hlt, if_pos (by simp only [List.length_cons, List.length_nil]; omega), if_pos hin, B18 N (by omega),
      if_pos (by simp only [List.length_append, Aen, List.length_cons, List.length_nil]; omega), Abo (by omega),
      ih (i + 1) _ (by omega) (by omega) (by simp only [List.length_append, Aen, List.length_cons, List.length_nil]; omega), Aqj, List.append_assoc, List.append_assoc]
    rfl
theorem Bnp {R : Type} {N : Nat} {nm : List UInt8} {data : Aaz} {gl : Abt} (F : A6e N nm data gl) (hN : 200000 ≤ N) (l : OpL) (procs labels : Int) (K : Int → List Int → Option R) :
    Aky N nm data l gl procs labels K = if Af3 nm data l gl procs labels = 0 then K 0 (B5p nm data l gl) else K (Af3 nm data l gl procs labels) [] := by
  simp only [Aky, Bfw]
  by_cases he : Af3 nm data l gl procs labels = 0
  case neg =>
    rw [Cde F (by omega) he, if_neg he, if_pos (by simpa using he)]
  obtain ⟨h1, h2, h3, h4⟩ := A2f he
  obtain ⟨h5, _, _⟩ := A1r h1
  simp only [Aqi, Bool.or_eq_false_iff, decide_eq_false_iff_not] at h5
  have hdl := Bhz data
  have hpl := Bv3 he
  rw [if_pos he]
  obtain ⟨ks, hk, C, hr⟩ := Ceq (R := R) F (by omega) he _ _
  rw [hr, if_neg (by decide), if_pos (by simp only [List.length_cons, List.length_nil, List.length_map]; omega), B18 N (by omega), if_pos (by simp only [List.length_cons, List.length_nil, List.length_map, List.append_eq, List.length_append, Aen]; omega)]
  have hd := Cbh (R := R) N data (by omega) (by omega) (fun d hd => ⟨(F.d3 d hd).2, (F.d1 d hd).2⟩) nm l gl procs labels ks ((Adq l).2.2 ++ [(Adq l).2.1]) (Aqk l labels)
    (fun y7 y8 y9 y10 y11 y12 y13 y14 y15 y16 => if ((((List.length y13) + (List.length ((IntKind.wrap .u8 (len y10)) :: ([] : List Int)))) * (1 : Nat)) ≤ (70368744177664 : Nat)) then (Ac9 N N 0 y7 y8 y9 y10 y11 y12 ((y13 ++ ((IntKind.wrap .u8 (len y10)) :: ([] : List Int)))) y14 y15 y16 (fun y17 y18 y19 y20 y21 y22 y23 y24 y25 y26 => Abm N y17 y18 y19 y20 y21 y22 y24 y25 y26 (fun y27 y28 y29 y30 => Aa1 N ((len y30)) 4 (fun y31 => if ((((List.length y23) + (List.length y31)) * (1 : Nat)) ≤ (70368744177664 : Nat)) then (if ((((List.length (y23 ++ y31)) + (List.length y30)) * (1 : Nat)) ≤ (70368744177664 : Nat)) then (Afj N (((y23 ++ y31) ++ y30)) (fun y32 => Aa1 N y32 4 (fun y33 => if ((((List.length ((y23 ++ y31) ++ y30)) + (List.length y33)) * (1 : Nat)) ≤ (70368744177664 : Nat)) then (K 0 ((((y23 ++ y31) ++ y30) ++ y33))) else none))) else none) else none)))) else none) N 0
    (98 :: 98 :: 1 :: IntKind.wrap .u8 (len nm) :: List.append (List.append [] (List.map (fun b : UInt8 => ((UInt8.toNat b : Nat) : Int)) nm)) (beB (len data) 2)) (by omega) (by omega)
    (by rw [List.drop_zero]; simp only [List.length_cons, List.length_nil, List.length_map, List.append_eq, List.length_append, Aen]; omega)
  refine Eq.trans hd ?_
  rw [List.drop_zero, if_pos (by simp only [List.length_cons, List.length_nil, List.length_map, List.append_eq, List.length_append, Aen]; omega)]
  have hg := Cbi (R := R) N gl (by omega) (by omega) nm data l procs labels ks ((Adq l).2.2 ++ [(Adq l).2.1]) (Aqk l labels)
    (fun y17 y18 y19 y20 y21 y22 y23 y24 y25 y26 => Abm N y17 y18 y19 y20 y21 y22 y24 y25 y26 (fun y27 y28 y29 y30 => Aa1 N ((len y30)) 4 (fun y31 => if ((((List.length y23) + (List.length y31)) * (1 : Nat)) ≤ (70368744177664 : Nat)) then (if ((((List.length (y23 ++ y31)) + (List.length y30)) * (1 : Nat)) ≤ (70368744177664 : Nat)) then (Afj N (((y23 ++ y31) ++ y30)) (fun y32 => Aa1 N y32 4 (fun y33 => if ((((List.length ((y23 ++ y31) ++ y30)) + (List.length y33)) * (1 : Nat)) ≤ (70368744177664 : Nat)) then (K 0 ((((y23 ++ y31) ++ y30) ++ y33))) else none))) else none) else none))) N 0
    ((98 :: 98 :: 1 :: IntKind.wrap .u8 (len nm) :: List.append (List.append [] (List.map (fun b : UInt8 => ((UInt8.toNat b : Nat) : Int)) nm)) (beB (len data) 2)) ++ Ax5 data ++ [IntKind.wrap .u8 (len gl)]) (by omega) (by omega)
    (by simp only [List.length_cons, List.length_nil, List.length_map, List.append_eq, List.length_append, Aen]; omega)
  refine Eq.trans hg ?_
  rw [List.drop_zero, Cf3 N (by omega) nm data l gl procs labels data.length C ks hk, B19 N (by omega)]
  have hb1 : Ah4 98 = 98 := by decide
  have hb2 : Ah4 1 = 1 := by decide
  have hpre : (98 :: 98 :: 1 :: IntKind.wrap .u8 (len nm) :: List.append (List.append [] (List.map (fun b : UInt8 => ((UInt8.toNat b : Nat) : Int)) nm)) (beB (len data) 2)) ++ Ax5 data ++ [IntKind.wrap .u8 (len gl)] ++ Aqj gl ++ beB (len (Am6 l)) 4 ++ Am6 l = Bi3 nm data l gl := by
    unfold Bi3
    rw [hb1, hb2]
    simp only [List.append_eq, List.nil_append, List.cons_append, List.append_assoc, bytesOf, Ah4, len]
  have hpl2 := hpl
  rw [← hpre] at hpl2
  rw [if_pos (by simp only [List.length_append] at hpl2 ⊢; omega), if_pos (by simp only [List.length_append] at hpl2 ⊢; omega), hpre, Cf4 N _ (by omega) (by omega), B19 N (by omega), if_pos (by rw [Aen]; omega)]
  rfl
theorem Bn6 {R : Type} {nm : List UInt8} {data : Aaz} {l : OpL} {gl : Abt} {procs labels : Int} (h : Byy nm data l gl procs labels) (K : Bool → Option R) :
    Anv 200000 nm data l gl procs labels K = K true := by
  simp only [Anv, Azt]
  rw [B10 h]
  cases hh : Bkt nm data l gl 40100
  case true => rw [if_pos rfl, Bv4]
  rw [if_neg (by decide)]
  obtain ⟨F, hl, hn, hg, hd⟩ := Ceg h hh
  rw [Cee F (by omega)]
  by_cases he : Af3 nm data l gl procs labels = 0
  · have hle := Bv3 he
    have hpl := Ccz nm data l gl
    rw [if_pos he, Bnp F (by omega), if_pos he, Byz 200000 _ _ (by omega) (by omega)]
    simp [Bv4]
  · rw [if_neg he, Bnp F (by omega), if_neg he, Byz 200000 _ _ (by simp) (by simp)]
    simp [Bv4]
theorem By3 (x0 : Ty.den Bqt) (y0 : Wf _ x0) :
    ∃ N, (A9r N).run AV [Bq6 true Bqt x0] [] (fun v _ _ => some v) = some (vb true) :=
  ⟨200000, Bn6 (Ch1 y0) (fun b => some (vb b))⟩
end Q

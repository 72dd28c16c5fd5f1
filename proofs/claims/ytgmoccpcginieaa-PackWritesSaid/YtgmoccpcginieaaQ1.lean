/- Part Q1 of the proof. -/
import Derived.Test.YtgmoccpcginieaaO
import Derived.Test.YtgmoccpcginieaaX7
open Go Go.AX Go.Proofs
namespace Q
def Blw (c : UInt8) : Bool := c == 10 || c == 9 || c == 42 || c == 34
def Asw (c : UInt8) : Bool := !Blw c && (decide (c.toNat < 32) || decide (126 < c.toNat))
def Bc3 (c : UInt8) : List Int := if c = 10 then [42, 110] else if c = 9 then [42, 116] else if c = 42 then [42, 42] else if c = 34 then [42, 34] else [(c.toNat : Int)]
def Bb9 (s : List UInt8) : List Int := s.flatMap Bc3
def Aq3 (s : List UInt8) : Int := if s.any Asw then 3 else if 100 < s.length then 2 else 0
theorem Ci4 (c : UInt8) : Bja [10, 9, 42, 34] ((c.toNat : Nat) : Int) = if c = 10 then 0 else if c = 9 then 1 else if c = 42 then 2 else if c = 34 then 3 else -1 := by
  have e : (((c.toNat : Nat) : Int)).toNat.toUInt8 = c := by simp
  unfold Bja
  rw [e]
  simp only [Lib.indexByte, beq_iff_eq]
  by_cases h1 : c = 10
  · subst h1; rfl
  by_cases h2 : c = 9
  · subst h2; rfl
  by_cases h3 : c = 42
  · subst h3; rfl
  by_cases h4 : c = 34
  · subst h4; rfl
  simp [h1, h2, h3, h4, Ne.symm h1, Ne.symm h2, Ne.symm h3, Ne.symm h4]
theorem Ccc (c : UInt8) : (Bc3 c).length ≤ 2 ∧ Apx (Bc3 c) = true := by
  unfold Bc3
  have : c.toNat < 256 := c.toNat_lt
  repeat' split
  all_goals (constructor <;> simp [Apx] <;> omega)
theorem A6d (a b : List Int) : Apx (a ++ b) = (Apx a && Apx b) := by simp [Apx]
theorem A8v {R : Type} (N : Nat) (v : Int) (b : List Int) (K : List Int → Option R) (h : b.length + 1 ≤ 70368744177664) : Aaw N v b K = K (b ++ [v]) := by
  unfold Aaw
  rw [if_pos (by simp; omega)]
theorem Chz {R : Type} (N : Nat) (v : Int) (b : List Int) (K : List Int → Option R) (h : b.length + 1 ≤ 70368744177664) : Abs N v b K = K (b ++ [v]) := by
  unfold Abs
  rw [if_pos (by simp; omega)]
theorem Byu {R : Type} (N : Nat) (s : List UInt8) (hs : s.length ≤ 1099511627776) (K0 : List UInt8 → Int → Option R) (K1 : List UInt8 → List Int → Option R) : ∀ (m k i : Nat) (b : List Int), m < k → i + m = s.length → b.length ≤ 1 + 2 * i →
    Agb N k s s.length i b K0 K1 = if (s.drop i).any Asw then K0 [] 3 else K1 s (b ++ Bb9 (s.drop i))
  | m, 0, _, _, hk, _, _ => by omega
  | 0, k + 1, i, b, _, hi, _ => by
    simp only [Agb, A1w]
    rw [if_neg (by simp; omega), List.drop_eq_nil_of_le (by omega)]
    simp [Bb9]
  | m + 1, k + 1, i, b, hk, hi, hb => by
    simp only [Agb, A1w]
    have hin : (0 : Int) ≤ i ∧ (i : Int) < len s := by simp only [len]; omega
    rw [if_pos (by simp; omega), if_pos hin]
    have hlt : i < s.length := by omega
    have hd : s.drop i = s[i] :: s.drop (i + 1) := List.drop_eq_getElem_cons hlt
    have hg : s.getD (Int.toNat (i : Int)) 0 = s[i] := by
      rw [List.getD_eq_getElem?_getD]; simp [hlt]
    rw [hg, hd]
    generalize s[i] = c
    have hc := c.toNat_lt
    have hw : wi ((i : Int) + 1) = ((i + 1 : Nat) : Int) := by
      simp only [wi]; rw [w64 (by omega)]; rfl
    have ih := fun b' (hb' : b'.length ≤ 1 + 2 * (i + 1)) => Byu N s hs K0 K1 m k (i + 1) b' (by omega) (by omega) hb'
    rw [Ci4]
    by_cases h1 : c = 10
    · subst h1
      rw [if_pos rfl, if_pos (by decide), A8v _ _ _ _ (by omega), if_pos (by decide), A8v _ _ _ _ (by simp; omega), hw, ih _ (by simp; omega)]
      simp [Asw, Blw, Bb9, Bc3]
    rw [if_neg h1]
    by_cases h2 : c = 9
    · subst h2
      rw [if_pos rfl, if_pos (by decide), A8v _ _ _ _ (by omega), if_pos (by decide), A8v _ _ _ _ (by simp; omega), hw, ih _ (by simp; omega)]
      simp [Asw, Blw, Bb9, Bc3]
    rw [if_neg h2]
    by_cases h3 : c = 42
    · subst h3
      rw [if_pos rfl, if_pos (by decide), A8v _ _ _ _ (by omega), if_pos (by decide), A8v _ _ _ _ (by simp; omega), hw, ih _ (by simp; omega)]
      simp [Asw, Blw, Bb9, Bc3]
    rw [if_neg h3]
    by_cases h4 : c = 34
    · subst h4
      rw [if_pos rfl, if_pos (by decide), A8v _ _ _ _ (by omega), if_pos (by decide), A8v _ _ _ _ (by simp; omega), hw, ih _ (by simp; omega)]
      simp [Asw, Blw, Bb9, Bc3]
    rw [if_neg h4, if_neg (by decide)]
    have hq : Blw c = false := by simp [Blw, h1, h2, h3, h4]
    by_cases h5 : c.toNat < 32
    · rw [if_pos (by simp; omega)]
      simp [Asw, hq, h5]
    rw [if_neg (by simp; omega)]
    by_cases h6 : 126 < c.toNat
    · rw [if_pos (by simp; omega)]
      simp [Asw, hq, h6]
    rw [if_neg (by simp; omega), A8v _ _ _ _ (by omega), hw, ih _ (by simp; omega)]
    simp [Asw, hq, h5, h6, Bb9, Bc3, h1, h2, h3, h4]
theorem Caz (s : List UInt8) : Apx (Bb9 s) = true ∧ (Bb9 s).length ≤ 2 * s.length := by
  induction s with
  | nil => simp [Bb9, Apx]
  | cons c s ih =>
    have := Ccc c
    simp only [Bb9, List.flatMap_cons, A6d, List.length_append, List.length_cons] at ih ⊢
    rw [this.2, ih.1]
    exact ⟨rfl, by omega⟩
theorem Bqk (N : Nat) (s : List UInt8) (hs : s.length ≤ 1099511627776) (hN : s.length < N) : ∃ r, ∀ {R : Type} (K : List UInt8 → Int → Option R), Ac5 N s K = K r (Aq3 s) := by
  have key : ∀ {R : Type} (K : List UInt8 → Int → Option R), Ac5 N s K = K (if s.any Asw then [] else if 100 < s.length then [] else Bc0 (34 :: Bb9 s ++ [34])) (Aq3 s) := by
    intro R K
    simp only [Ac5, Bif]
    rw [Chz _ _ _ _ (by simp)]
    simp only [len]
    have := Byu N s hs (fun y1 y2 => K y1 y2) (fun y3 y4 => if (decide ((y3.length : Int) > 100)) = true then K [] 2 else Aaw N 34 y4 fun y5 => if 0 < y5.length ∧ y5.length ≤ 70368744177664 ∧ Apx y5 = true then K (Bc0 y5) 0 else none) s.length N 0 ([] ++ [34]) hN (by omega) (by simp)
    rw [show ((0 : Nat) : Int) = 0 from rfl] at this
    rw [this]
    simp only [List.drop_zero, Aq3]
    by_cases h1 : s.any Asw = true
    · simp only [if_pos h1]
    simp only [if_neg h1]
    by_cases h2 : 100 < s.length
    · rw [if_pos (by simp; omega), if_pos h2, if_pos h2]
    rw [if_neg (by simp; omega), if_neg h2, if_neg h2]
    have hq := Caz s
    rw [A8v _ _ _ _ (by simp; omega), if_pos]
    · rfl
    · refine ⟨by simp, by simp; omega, ?_⟩
      rw [A6d, A6d, hq.1]; rfl
  exact ⟨_, fun K => key K⟩
def Aix (n : Int) : Bool := decide (-2147483648 ≤ n) && decide (n ≤ 2147483647)
def inB (v a b : Int) : Bool := decide (a ≤ v) && decide (v ≤ b)
def Amo : List (List UInt8 × Int × Int × Int) := [([], 0, 0, 0), ([110, 117, 109], 1, 0, 1), ([108, 111, 99, 97, 108], 2, 0, 1), ([112, 117, 116, 108], 2, 1, 0), ([97, 100, 100, 114, 108], 2, 0, 1),
  ([103, 108, 111, 98, 97, 108], 3, 0, 1), ([112, 117, 116, 103], 3, 1, 0), ([97, 100, 100, 114, 103], 3, 0, 1), ([115, 116, 97, 116, 105, 99], 4, 0, 1), ([112, 117, 116, 115], 4, 1, 0), ([97, 100, 100, 114, 115], 4, 0, 1),
  ([112, 114, 111, 99], 5, 0, 1), ([108, 111, 97, 100], 0, 1, 1), ([115, 116, 111, 114, 101], 0, 2, 0), ([103, 101, 116, 98], 0, 2, 1), ([112, 117, 116, 98], 0, 3, 0), ([98, 105, 110], 7, 2, 1), ([117, 110], 8, 1, 1),
  ([115, 116, 97, 99, 107], 2, 0, 0), ([108, 97, 98, 101, 108], 6, 0, 0), ([106, 117, 109, 112], 6, 0, 0), ([116, 114, 117, 101], 6, 1, 0), ([102, 97, 108, 115, 101], 6, 1, 0), ([99, 97, 108, 108], 2, 0, 0),
  ([101, 110, 116, 101, 114], 5, 0, 0), ([114, 101, 116, 117, 114, 110], 0, 1, 0), ([98, 97, 99, 107], 0, 0, 0), ([114, 101, 115, 117, 108, 116], 6, 1, 0), ([116, 97, 107, 101], 2, 0, 0), ([115, 119, 105, 116, 99, 104], 6, 1, 0), ([99, 97, 115, 101], 1, 0, 0)]
def kT (op : Int) : List UInt8 × Int × Int × Int := Amo.getD op.toNat ([], 0, 0, 0)
def Asx (op n m nd procs labels : Int) : Bool :=
  if op = 1 then Aix n && m == 0
  else if op = 2 ∨ op = 3 ∨ op = 4 ∨ op = 18 ∨ op = 23 ∨ op = 28 then inB n 0 4000 && m == 0
  else if op = 5 ∨ op = 6 ∨ op = 7 then inB n 0 199 && m == 0
  else if op = 8 ∨ op = 9 ∨ op = 10 then inB n 0 (nd - 1) && m == 0
  else if op = 11 then inB n 1 procs && m == 0
  else if op = 16 then inB n 1 17 && m == 0
  else if op = 17 then (n == 18 || n == 19) && m == 0
  else if op = 19 ∨ op = 20 ∨ op = 21 ∨ op = 22 ∨ op = 27 then inB n 1 labels && m == 0
  else if op = 24 then inB n 1 procs && inB m 0 8
  else if op = 29 then inB n 1 labels && inB m 0 1000
  else if op = 30 then Aix n && inB m 1 labels
  else n == 0 && m == 0
theorem Awo {R : Type} (N : Nat) (v a b : Int) (K : Bool → Option R) : Aa6 N v a b K = K (inB v a b) := by
  unfold Aa6 inB
  by_cases h : a ≤ v
  · rw [if_pos (by simpa using h)]; simp [h]
  · rw [if_neg (by simpa using h)]; simp [h]
theorem An4 {R : Type} (N : Nat) (v a b : Int) (K : Bool → Option R) : Aaq N v a b K = K (inB v a b) := by
  unfold Aaq inB
  by_cases h : a ≤ v
  · rw [if_pos (by simpa using h)]; simp [h]
  · rw [if_neg (by simpa using h)]; simp [h]
theorem Bnm {R : Type} (N : Nat) (v : Int) (K : Bool → Option R) : Ae3 N v K = K (Aix v) := by
  simp only [Ae3, Bd0, Awo]; rfl
theorem ifT {R : Type} (a b : Bool) (K : Bool → Option R) : (if a = true then K b else K false) = K (a && b) := by cases a <;> rfl
theorem Cis {R : Type} (N : Nat) (ok : Bool) (op n m : Int) (nm : List UInt8) (data : List (List UInt8 × Bool × List Int)) (ops : List (Int × Int × Int)) (gl : List (Int × Int)) (procs labels : Int) (K : Bool → Option R) :
    Aby N ok op n m nm data ops gl procs labels K = K (ok && (if op = 24 then inB m 0 8 else if op = 29 then inB m 0 1000 else if op = 30 then inB m 1 labels else m == 0)) := by
  simp only [Aby, Ayg, Awo, ifT, beq_iff_eq]
  repeat' split
  all_goals rfl
theorem Bdd {op : Int} (h : 1 ≤ op ∧ op ≤ 30) : op = 1 ∨ op = 2 ∨ op = 3 ∨ op = 4 ∨ op = 5 ∨ op = 6 ∨ op = 7 ∨ op = 8 ∨ op = 9 ∨ op = 10 ∨ op = 11 ∨ op = 12 ∨ op = 13 ∨ op = 14 ∨ op = 15 ∨ op = 16 ∨ op = 17 ∨ op = 18 ∨ op = 19 ∨ op = 20 ∨ op = 21 ∨ op = 22 ∨ op = 23 ∨ op = 24 ∨ op = 25 ∨ op = 26 ∨ op = 27 ∨ op = 28 ∨ op = 29 ∨ op = 30 := by omega
theorem Bvu {R : Type} (N : Nat) (op n m : Int) (nm : List UInt8) (data : List (List UInt8 × Bool × List Int)) (ops : List (Int × Int × Int)) (gl : List (Int × Int)) (procs labels : Int) (hd : data.length ≤ 1000000) (h : 1 ≤ op ∧ op ≤ 30) (K : Bool → Option R) :
    Ads N op n m nm data ops gl procs labels (kT op).1 (kT op).2.1 (kT op).2.2.1 (kT op).2.2.2 K = K (Asx op n m data.length procs labels) := by
  have hw : wi (len data - 1) = (data.length : Int) - 1 := by simp only [wi, len]; rw [w64 (by omega)]
  rcases Bdd h with rfl | rfl | rfl | rfl | rfl | rfl | rfl | rfl | rfl | rfl | rfl | rfl | rfl | rfl | rfl | rfl | rfl | rfl | rfl | rfl | rfl | rfl | rfl | rfl | rfl | rfl | rfl | rfl | rfl | rfl <;>
    simp only [Ads, A4n, Cis, Awo, Bnm, hw] <;> simp [kT, Amo, Asx]
  by_cases hn : n = 18
  · simp [hn]
  · have : (n == 18) = false := by simpa using hn
    simp [hn, this]
theorem Ccd {op n m nd procs labels : Int} (hd : nd ≤ 2000) (hp : procs ≤ 200) (hl : labels ≤ 20000) (h : Asx op n m nd procs labels = true) : Aix n = true ∧ Aix m = true := by
  unfold Asx at h
  repeat' split at h
  all_goals
    simp only [inB, Aix, Bool.and_eq_true, Bool.or_eq_true, decide_eq_true_eq, beq_iff_eq] at h ⊢
    omega
theorem Ca0 {R : Type} (N : Nat) (op n m : Int) (nm : List UInt8) (data : List (List UInt8 × Bool × List Int)) (ops : List (Int × Int × Int)) (gl : List (Int × Int)) (procs labels : Int) (hd : data.length ≤ 1000000) (h : 1 ≤ op ∧ op ≤ 30) (hn : Aix n = true) (hm : Aix m = true) (K : Bool → Option R) :
    Aev N nm data ops gl procs labels op n m K = K (Asx op n m data.length procs labels) := by
  have hw : wi (len data - 1) = (data.length : Int) - 1 := by simp only [wi, len]; rw [w64 (by omega)]
  have h1 : inB n (-2147483648) 2147483647 = true := hn
  have h2 : inB m (-2147483648) 2147483647 = true := hm
  have h0 : inB op 1 30 = true := by simp [inB, h]
  simp only [Aev, Asa, An4, h0, h1, h2, Bool.not_true, Bool.false_eq_true, if_false]
  clear h0 h1 h2
  rcases Bdd h with rfl | rfl | rfl | rfl | rfl | rfl | rfl | rfl | rfl | rfl | rfl | rfl | rfl | rfl | rfl | rfl | rfl | rfl | rfl | rfl | rfl | rfl | rfl | rfl | rfl | rfl | rfl | rfl | rfl | rfl <;>
    simp [Aas, Ay5, Abj, Ay4, Abi, Ay3, Aa8, Ay2, Aar, An4, hw, Asx, hn, ifT]
  all_goals
    by_cases hz : m = 0
    · (try simp [hz])
      try (by_cases hy : n = 18
           · simp [hy]
           · have hy' : (n == 18) = false := by simpa using hy
             simp [hy, hy'])
    · have hz' : (m == 0) = false := by simpa using hz
      (try simp [hz, hz'])
theorem Bvv {R : Type} (N : Nat) (op n m : Int) (nm : List UInt8) (data : List (List UInt8 × Bool × List Int)) (ops : List (Int × Int × Int)) (gl : List (Int × Int)) (procs labels : Int) (hd : data.length ≤ 2000) (hp : procs ≤ 200) (hl : labels ≤ 20000) (K : Bool → Option R) :
    Aev N nm data ops gl procs labels op n m K = K (inB op 1 30 && Asx op n m data.length procs labels) := by
  by_cases h : 1 ≤ op ∧ op ≤ 30
  · by_cases hw : Aix n = true ∧ Aix m = true
    · rw [Ca0 N op n m nm data ops gl procs labels (by omega) h hw.1 hw.2]
      simp [inB, h]
    · have hf : Asx op n m data.length procs labels = false := by
        cases e : Asx op n m data.length procs labels with
        | false => rfl
        | true => exact absurd (Ccd (by omega) hp hl e) hw
      have h0 : inB op 1 30 = true := by simp [inB, h]
      have h1 : inB n (-2147483648) 2147483647 = Aix n := rfl
      have h2 : inB m (-2147483648) 2147483647 = Aix m := rfl
      rw [hf]
      simp only [Aev, Asa, An4, h0, h1, h2]
      by_cases h3 : Aix n = true
      · have h4 : Aix m = false := by
          cases e : Aix m with
          | false => rfl
          | true => exact absurd ⟨h3, e⟩ hw
        simp [h3, h4]
      · have h3 : Aix n = false := by simpa using h3
        simp [h3]
  · have h0 : inB op 1 30 = false := by
      simp only [inB, Bool.and_eq_false_iff, decide_eq_false_iff_not]; omega
    simp only [Aev, Asa, An4, h0]
    simp
abbrev Aaz := List (List UInt8 × Bool × List Int)
abbrev OpL := List (Int × Int × Int)
abbrev Abt := List (Int × Int)
def A1q (d : List UInt8 × Bool × List Int) : Int := d.2.2.length + (if d.2.1 = true then (d.1.length + 2) / 2 else 0)
def At9 (l : Aaz) : Int := (l.map A1q).sum
def Aqi (data : Aaz) (ops : OpL) (procs labels : Int) : Bool :=
  decide (40000 < ops.length) || decide (2000 < data.length) || decide (200 < procs) || decide (20000 < labels) || decide (7800 < At9 data)
def A9y (l : Aaz) : Prop := ∀ d, d ∈ l → d.1.length ≤ 140737488351232 ∧ d.2.2.length ≤ 140737488351232
theorem Ca1 {R : Type} (N : Nat) (data : Aaz) (hd : A9y data) (hl : data.length ≤ 2000) (K : Int → Option R) : ∀ (m k i : Nat) (acc : Int), m < k → i + m = data.length → 0 ≤ acc → acc ≤ i * 281474976710656 →
    Ael N k acc data data.length i K = K (acc + At9 (data.drop i)) := by
  intro m
  induction m with
  | zero =>
    intro k i acc hk hi _ _
    obtain ⟨k, rfl⟩ : ∃ j, k = j + 1 := ⟨k - 1, by omega⟩
    simp only [Ael, Auq]
    rw [if_neg (by simp; omega), List.drop_eq_nil_of_le (by omega)]
    simp [At9]
  | succ m ih0 =>
    intro k i acc hk hi h0 ha
    obtain ⟨k, rfl⟩ : ∃ j, k = j + 1 := ⟨k - 1, by omega⟩
    simp only [Ael, Auq]
    have hin : (0 : Int) ≤ i ∧ (i : Int) < len data := by simp only [len]; omega
    rw [if_pos (by simp; omega), if_pos hin]
    have hlt : i < data.length := by omega
    have hdr : data.drop i = data[i] :: data.drop (i + 1) := List.drop_eq_getElem_cons hlt
    have hg : data.getD (Int.toNat (i : Int)) (([] : List UInt8), (false, ([] : List Int))) = data[i] := by
      rw [List.getD_eq_getElem?_getD]; simp [hlt]
    have hb := hd data[i] (List.getElem_mem hlt)
    rw [hg, hdr]
    generalize data[i] = d at hb
    have hw : wi ((i : Int) + 1) = ((i + 1 : Nat) : Int) := by simp only [wi]; rw [w64 (by omega)]; rfl
    have h1 : wi (acc + ((d.2.2.length : Nat) : Int)) = acc + d.2.2.length := by simp only [wi]; rw [w64 (by omega)]
    have h2 : wi (((d.1.length : Nat) : Int) + 2) = d.1.length + 2 := by simp only [wi]; rw [w64 (by omega)]
    have h3 : wi (Int.tdiv (((d.1.length : Nat) : Int) + 2) 2) = (d.1.length + 2) / 2 := by
      rw [Int.tdiv_eq_ediv_of_nonneg (by omega)]; simp only [wi]; rw [w64 (by omega)]
    have h4 : wi (acc + ((d.2.2.length : Nat) : Int) + ((d.1.length : Int) + 2) / 2) = acc + d.2.2.length + (d.1.length + 2) / 2 := by simp only [wi]; rw [w64 (by omega)]
    rw [hw, h1, h2, h3, h4]
    have ih := fun acc' h h' => ih0 k (i + 1) acc' (by omega) (by omega) h h'
    by_cases ht : d.2.1 = true
    · rw [if_pos ht, ih _ (by omega) (by omega)]
      simp only [At9, List.map_cons, List.sum_cons, A1q, if_pos ht]
      congr 1; omega
    · rw [if_neg ht, ih _ (by omega) (by omega)]
      simp only [At9, List.map_cons, List.sum_cons, A1q, if_neg ht]
      congr 1; omega
theorem B1p {R : Type} (N : Nat) (nm : List UInt8) (data : Aaz) (ops : OpL) (gl : Abt) (procs labels : Int) (hd : A9y data) (hN : 2000 < N) (K : Bool → Option R) :
    Ai7 N nm data ops gl procs labels K = K (Aqi data ops procs labels) := by
  simp only [Ai7, Bab, Aqi, len]
  by_cases h1 : (ops.length : Int) > 40000
  · rw [if_pos (by simpa using h1)]; simp [show 40000 < ops.length by omega]
  rw [if_neg (by simpa using h1)]
  by_cases h2 : (data.length : Int) > 2000
  · rw [if_pos (by simpa using h2)]; simp [show 2000 < data.length by omega]
  rw [if_neg (by simpa using h2)]
  by_cases h3 : procs > 200
  · rw [if_pos (by simpa using h3)]; simp [show 200 < procs by omega]
  rw [if_neg (by simpa using h3)]
  by_cases h4 : labels > 20000
  · rw [if_pos (by simpa using h4)]; simp [show 20000 < labels by omega]
  rw [if_neg (by simpa using h4)]
  have := Ca1 N data hd (by omega) (fun y0 => K (decide (y0 > 7800))) data.length N 0 0 (by omega) (by omega) (by omega) (by omega)
  rw [show ((0 : Nat) : Int) = 0 from rfl] at this
  rw [this]
  simp [show ¬ 40000 < ops.length by omega, show ¬ 2000 < data.length by omega, show ¬ 200 < procs by omega, show ¬ 20000 < labels by omega]
theorem B7y {R : Type} (N : Nat) (nm : List UInt8) (data : Aaz) (ops : OpL) (gl : Abt) (procs labels : Int) (hd : A9y data) (hl : data.length ≤ 2000) (K : Int → Option R) : ∀ (m k i : Nat) (acc : Int), m < k → i + m = data.length → 0 ≤ acc → acc ≤ i * 281474976710656 →
    Adr N k acc i nm data ops gl procs labels K = K (acc + At9 (data.drop i)) := by
  intro m
  induction m with
  | zero =>
    intro k i acc hk hi _ _
    obtain ⟨k, rfl⟩ : ∃ j, k = j + 1 := ⟨k - 1, by omega⟩
    simp only [Adr, Ar3]
    rw [if_neg (by simp [len]; omega), List.drop_eq_nil_of_le (by omega)]
    simp [At9]
  | succ m ih0 =>
    intro k i acc hk hi h0 ha
    obtain ⟨k, rfl⟩ : ∃ j, k = j + 1 := ⟨k - 1, by omega⟩
    simp only [Adr, Ar3]
    have hin : (0 : Int) ≤ i ∧ (i : Int) < len data := by simp only [len]; omega
    rw [if_pos (by simp [len]; omega), if_pos hin, if_pos hin, if_pos hin]
    have hlt : i < data.length := by omega
    have hdr : data.drop i = data[i] :: data.drop (i + 1) := List.drop_eq_getElem_cons hlt
    have hg : data.getD (Int.toNat (i : Int)) (([] : List UInt8), (false, ([] : List Int))) = data[i] := by
      rw [List.getD_eq_getElem?_getD]; simp [hlt]
    have hb := hd data[i] (List.getElem_mem hlt)
    rw [hg, hdr]
    generalize data[i] = d at hb
    have hw : wi ((i : Int) + 1) = ((i + 1 : Nat) : Int) := by simp only [wi]; rw [w64 (by omega)]; rfl
    have h1 : wi (acc + ((d.2.2.length : Nat) : Int)) = acc + d.2.2.length := by simp only [wi]; rw [w64 (by omega)]
    have h2 : wi (((d.1.length : Nat) : Int) + 2) = d.1.length + 2 := by simp only [wi]; rw [w64 (by omega)]
    have h3 : wi (Int.tdiv (((d.1.length : Nat) : Int) + 2) 2) = (d.1.length + 2) / 2 := by
      rw [Int.tdiv_eq_ediv_of_nonneg (by omega)]; simp only [wi]; rw [w64 (by omega)]
    have h4 : wi (acc + ((d.2.2.length : Nat) : Int) + ((d.1.length : Int) + 2) / 2) = acc + d.2.2.length + (d.1.length + 2) / 2 := by simp only [wi]; rw [w64 (by omega)]
    rw [hw, h1, h2, h3, h4]
    have ih := fun acc' h h' => ih0 k (i + 1) acc' (by omega) (by omega) h h'
    by_cases ht : d.2.1 = true
    · rw [if_pos ht, ih _ (by omega) (by omega)]
      simp only [At9, List.map_cons, List.sum_cons, A1q, if_pos ht]
      congr 1; omega
    · rw [if_neg ht, ih _ (by omega) (by omega)]
      simp only [At9, List.map_cons, List.sum_cons, A1q, if_neg ht]
      congr 1; omega
theorem Bvw {R : Type} (N : Nat) (nm : List UInt8) (data : Aaz) (ops : OpL) (gl : Abt) (procs labels : Int) (hd : A9y data) (hN : 2000 < N) (K : Bool → Option R) :
    Afm N nm data ops gl procs labels K = K (Aqi data ops procs labels) := by
  simp only [Afm, A5d, Aqi, len]
  by_cases h1 : (ops.length : Int) > 40000
  · rw [if_pos (by simpa using h1)]; simp [show 40000 < ops.length by omega]
  rw [if_neg (by simpa using h1)]
  by_cases h2 : (data.length : Int) > 2000
  · rw [if_pos (by simpa using h2)]; simp [show 2000 < data.length by omega]
  rw [if_neg (by simpa using h2)]
  by_cases h3 : procs > 200
  · rw [if_pos (by simpa using h3)]; simp [show 200 < procs by omega]
  rw [if_neg (by simpa using h3)]
  by_cases h4 : labels > 20000
  · rw [if_pos (by simpa using h4)]; simp [show 20000 < labels by omega]
  rw [if_neg (by simpa using h4)]
  have := B7y N nm data ops gl procs labels hd (by omega) (fun y0 => K (decide (y0 > 7800))) data.length N 0 0 (by omega) (by omega) (by omega) (by omega)
  rw [show ((0 : Nat) : Int) = 0 from rfl] at this
  rw [this]
  simp [show ¬ 40000 < ops.length by omega, show ¬ 2000 < data.length by omega, show ¬ 200 < procs by omega, show ¬ 20000 < labels by omega]
theorem Ac7 {α : Type} (l : List α) (d : α) {i : Nat} (h : i < l.length) : l.getD (Int.toNat (i : Int)) d = l[i] := by
  rw [List.getD_eq_getElem?_getD]; simp [h]
theorem Abo {i : Nat} (h : i < 4611686018427387904) : wi ((i : Int) + 1) = ((i + 1 : Nat) : Int) := by
  simp only [wi]; rw [w64 (by omega)]; rfl
theorem exk {k m : Nat} (h : m < k) : ∃ j, k = j + 1 := ⟨k - 1, by omega⟩
theorem B86 {R : Type} (N : Nat) (s : List UInt8) (hs : s.length ≤ 1099511627776) (K0 : List UInt8 → Int → Option R) (K1 : List UInt8 → List UInt8 → Option R) : ∀ (m k i : Nat) (b : List UInt8), m < k → i + m = s.length → b.length ≤ 1 + 2 * i →
    ∃ b', b'.length ≤ 1 + 2 * s.length ∧ Aeu N k s b i K0 K1 = if (s.drop i).any Asw then K0 [] 3 else K1 s b' := by
  intro m
  induction m with
  | zero =>
    intro k i b hk hi hb
    obtain ⟨k, rfl⟩ := exk hk
    refine ⟨b, by omega, ?_⟩
    simp only [Aeu, Axo]
    rw [if_neg (by simp [len]; omega), List.drop_eq_nil_of_le (by omega)]
    simp
  | succ m ih =>
    intro k i b hk hi hb
    obtain ⟨k, rfl⟩ := exk hk
    have hlt : i < s.length := by omega
    have hin : (0 : Int) ≤ i ∧ (i : Int) < len s := by simp only [len]; omega
    have hd : s.drop i = s[i] :: s.drop (i + 1) := List.drop_eq_getElem_cons hlt
    have hany : (s.drop i).any Asw = (Asw s[i] || (s.drop (i + 1)).any Asw) := by rw [hd, List.any_cons]
    have hsub : List.drop (Int.toNat (i : Int)) (List.take (Int.toNat ((i + 1 : Nat) : Int)) s) = [s[i]] := by
      simp only [Int.toNat_natCast]
      rw [List.drop_take, show i + 1 - i = 1 by omega, hd]; rfl
    have hcut : ∀ {S : Type} (x y : S), (if (0 : Int) ≤ ((i + 1 : Nat) : Int) ∧ ((i + 1 : Nat) : Int) ≤ len s then x else y) = x := fun x y => if_pos (by simp only [len]; omega)
    have hcut2 : ∀ {S : Type} (x y : S), (if (0 : Int) ≤ (i : Int) ∧ (i : Int) ≤ ((i + 1 : Nat) : Int) then x else y) = x := fun x y => if_pos (by omega)
    have go : ∀ b2 : List UInt8, b2.length ≤ 1 + 2 * (i + 1) → Asw s[i] = false → (∃ b', b'.length ≤ 1 + 2 * s.length ∧ Aeu N k s b2 ((i + 1 : Nat) : Int) K0 K1 = if (s.drop i).any Asw then K0 [] 3 else K1 s b') := by
      intro b2 h2 hq
      obtain ⟨b', h3, h4⟩ := ih k (i + 1) b2 (by omega) (by omega) h2
      exact ⟨b', h3, by rw [h4, hany, hq, Bool.false_or]⟩
    simp only [Aeu, Axo]
    rw [if_pos (by simp [len]; omega), if_pos hin, Ac7 _ _ hlt, Abo (by omega), hsub]
    simp only [hcut, hcut2]
    generalize hc : s[i] = c at *
    have hcl := c.toNat_lt
    have toc : ∀ n : Nat, n < 256 → (((c.toNat : Int) == (n : Int)) = true ↔ c = UInt8.ofNat n) := by
      intro n hn
      rw [beq_iff_eq]
      constructor
      · intro h
        have : c.toNat = n := by omega
        rw [← this]; simp
      · intro h; subst h; simp [UInt8.toNat_ofNat']; omega
    have t10 : (((c.toNat : Nat) : Int) == 10) = true ↔ c = 10 := toc 10 (by decide)
    have t9 : (((c.toNat : Nat) : Int) == 9) = true ↔ c = 9 := toc 9 (by decide)
    have t42 : (((c.toNat : Nat) : Int) == 42) = true ↔ c = 42 := toc 42 (by decide)
    have t34 : (((c.toNat : Nat) : Int) == 34) = true ↔ c = 34 := toc 34 (by decide)
    by_cases h1 : c = 10
    · rw [if_pos (t10.2 h1), if_pos (by omega)]
      exact go _ (by simp; omega) (by subst h1; rfl)
    rw [if_neg (fun h => h1 (t10.1 h))]
    by_cases h2 : c = 9
    · rw [if_pos (t9.2 h2), if_pos (by omega)]
      exact go _ (by simp; omega) (by subst h2; rfl)
    rw [if_neg (fun h => h2 (t9.1 h))]
    by_cases h3 : c = 42
    · rw [if_pos (t42.2 h3), if_pos (by simp), if_pos (by simp; omega)]
      exact go _ (by simp; omega) (by subst h3; rfl)
    rw [if_neg (fun h => h3 (t42.1 h))]
    by_cases h4 : c = 34
    · rw [if_pos (t34.2 h4), if_pos (by simp), if_pos (by simp; omega)]
      exact go _ (by simp; omega) (by subst h4; rfl)
    rw [if_neg (fun h => h4 (t34.1 h))]
    have hq : Blw c = false := by simp [Blw, h1, h2, h3, h4]
    by_cases h5 : c.toNat < 32
    · rw [if_pos (by simp; omega)]
      exact ⟨b, by omega, by rw [hany]; simp [Asw, hq, h5]⟩
    rw [if_neg (by simp; omega)]
    by_cases h6 : 126 < c.toNat
    · rw [if_pos (by simp; omega)]
      exact ⟨b, by omega, by rw [hany]; simp [Asw, hq, h6]⟩
    rw [if_neg (by simp; omega), if_pos (by simp; omega)]
    exact go _ (by simp; omega) (by simp [Asw, hq, h5, h6])
theorem Bkq (N : Nat) (s : List UInt8) (hs : s.length ≤ 1099511627776) (hN : s.length < N) {R : Type} (K : List UInt8 → Int → Option R) : ∃ r, Acw N s K = K r (Aq3 s) := by
  simp only [Acw, Ba5]
  obtain ⟨b', h1, h2⟩ := B86 N s hs (fun y0 y1 => K y0 y1) (fun y2 y3 => if (decide (len y2 > 100)) = true then K [] 2 else if y3.length + 1 ≤ 70368744177664 then K (y3 ++ [34]) 0 else none) s.length N 0 [34] hN (by omega) (by simp)
  rw [show ((0 : Nat) : Int) = 0 from rfl] at h2
  rw [h2]
  simp only [List.drop_zero, Aq3]
  by_cases h3 : s.any Asw = true
  · exact ⟨[], by simp only [if_pos h3]⟩
  simp only [if_neg h3]
  by_cases h4 : 100 < s.length
  · exact ⟨[], by rw [if_pos (by simp [len]; omega), if_pos h4]⟩
  · exact ⟨b' ++ [34], by rw [if_neg (by simp [len]; omega), if_neg h4, if_pos (by omega)]⟩
def Bc4 (d : List UInt8 × Bool × List Int) : Bool :=
  if d.2.1 = true then Aq3 d.1 == 0 && d.2.2.length == 0 else d.1 == ([] : List UInt8) && d.2.2.length != 0 && d.2.2.all Aix
def Bkr (l : Aaz) : Prop := ∀ d, d ∈ l → d.1.length ≤ 1099511627776 ∧ d.2.2.length ≤ 1099511627776
theorem Cce {R : Type} (N : Nat) (v : Int) (K : Bool → Option R) : Afk N v K = K (!Aix v) := by
  simp only [Afk, A4t, Bnm]
theorem Ccf {R : Type} (N : Nat) (l : List Int) (hl : l.length ≤ 1099511627776) (K0 : Int → Option R) (K1 : Option R) : ∀ (m k i : Nat), m < k → i + m = l.length →
    ∃ j : Nat, Aa9 N k l l.length i K0 K1 = if (l.drop i).all Aix then K1 else K0 j := by
  intro m
  induction m with
  | zero =>
    intro k i hk hi
    obtain ⟨k, rfl⟩ := exk hk
    refine ⟨0, ?_⟩
    simp only [Aa9, Akr]
    rw [if_neg (by simp; omega), List.drop_eq_nil_of_le (by omega)]
    simp
  | succ m ih =>
    intro k i hk hi
    obtain ⟨k, rfl⟩ := exk hk
    have hlt : i < l.length := by omega
    have hin : (0 : Int) ≤ i ∧ (i : Int) < len l := by simp only [len]; omega
    have hd : l.drop i = l[i] :: l.drop (i + 1) := List.drop_eq_getElem_cons hlt
    simp only [Aa9, Akr]
    rw [if_pos (by simp; omega), if_pos hin, Ac7 _ _ hlt, Cce, Abo (by omega)]
    obtain ⟨j, hj⟩ := ih k (i + 1) (by omega) (by omega)
    rw [hj, hd, List.all_cons]
    by_cases h : Aix l[i] = true
    · exact ⟨j, by simp [h]⟩
    · exact ⟨i, by simp [h]⟩
theorem B87 {R : Type} (N : Nat) (l : List Int) (hl : l.length ≤ 1099511627776) (hN : l.length < N) (K : Bool → Option R) : Aa2 N l K = K (!l.all Aix) := by
  simp only [Aa2, Am4, Adj, Aoz, len]
  obtain ⟨j, hj⟩ := Ccf N l hl (fun y0 => K (decide (y0 ≥ 0))) (K (decide ((-1 : Int) ≥ 0))) l.length N 0 hN (by omega)
  rw [show ((0 : Nat) : Int) = 0 from rfl] at hj
  rw [hj, List.drop_zero]
  by_cases h : l.all Aix = true
  · simp [h]
  · have h' : l.all Aix = false := by simpa using h
    simp only [h', Bool.false_eq_true, if_false, Bool.not_false]
    congr 1
theorem B88 {R : Type} (N : Nat) (data : Aaz) (hd : Bkr data) (hl : data.length ≤ 2000) (hN : ∀ d, d ∈ data → d.1.length < N ∧ d.2.2.length < N) (nm : List UInt8) (dat : Aaz) (ops : OpL) (gl : Abt) (procs labels : Int) (K0 : Bool → Option R) (K1 : List UInt8 → Aaz → OpL → Abt → Int → Int → Option R) :
    ∀ (m k i : Nat), m < k → i + m = data.length →
    Ad4 N k data data.length i nm dat ops gl procs labels K0 K1 = if (data.drop i).all Bc4 then K1 nm dat ops gl procs labels else K0 false := by
  intro m
  induction m with
  | zero =>
    intro k i hk hi
    obtain ⟨k, rfl⟩ := exk hk
    simp only [Ad4, Axa]
    rw [if_neg (by simp; omega), List.drop_eq_nil_of_le (by omega)]
    simp
  | succ m ih =>
    intro k i hk hi
    obtain ⟨k, rfl⟩ := exk hk
    have hlt : i < data.length := by omega
    have hin : (0 : Int) ≤ i ∧ (i : Int) < len data := by simp only [len]; omega
    have hdr : data.drop i = data[i] :: data.drop (i + 1) := List.drop_eq_getElem_cons hlt
    simp only [Ad4, Axa]
    rw [if_pos (by simp; omega), if_pos hin, Ac7 _ _ hlt, Abo (by omega), ih k (i + 1) (by omega) (by omega), hdr, List.all_cons]
    have h1 := hd data[i] (List.getElem_mem hlt)
    have h2 := hN data[i] (List.getElem_mem hlt)
    generalize data[i] = d at h1 h2
    by_cases ht : d.2.1 = true
    · rw [if_pos ht]
      obtain ⟨r, hr⟩ := Bqk N d.1 h1.1 h2.1
      rw [hr]
      simp only [Bc4, if_pos ht, len]
      by_cases hq : Aq3 d.1 = 0
      · have hq' : (Aq3 d.1 != 0) = false := by simp [hq]
        have hq2 : (Aq3 d.1 == 0) = true := by simp [hq]
        rw [hq', hq2]
        by_cases hw : d.2.2.length = 0
        · have e1 : (d.2.2.length == 0) = true := by simp [hw]
          have e2 : decide (((d.2.2.length : Nat) : Int) > 0) = false := by simp [hw]
          simp only [e1, e2, Bool.false_eq_true, if_false, if_true, Bool.true_and, Bool.and_true, Bool.false_and, Bool.and_false, Bool.not_true, Bool.not_false]
        · have e1 : (d.2.2.length == 0) = false := by simp [hw]
          have e2 : decide (((d.2.2.length : Nat) : Int) > 0) = true := by simp; omega
          simp only [e1, e2, Bool.false_eq_true, if_false, if_true, Bool.true_and, Bool.and_true, Bool.false_and, Bool.and_false, Bool.not_true, Bool.not_false]
      · have hq' : (Aq3 d.1 != 0) = true := by simp [hq]
        have hq2 : (Aq3 d.1 == 0) = false := by simp [hq]
        rw [hq', hq2]
        simp only [Bool.false_eq_true, if_false, if_true, Bool.true_and, Bool.and_true, Bool.false_and, Bool.and_false, Bool.not_true, Bool.not_false]
    · rw [if_neg ht]
      simp only [Bc4, if_neg ht, len]
      by_cases hq : (d.1 == ([] : List UInt8)) = true
      · rw [hq]
        by_cases hw : d.2.2.length = 0
        · have e1 : (((d.2.2.length : Nat) : Int) == 0) = true := by simp [hw]
          have e2 : (d.2.2.length != 0) = false := by simp [hw]
          simp only [e1, e2, Bool.false_eq_true, if_false, if_true, Bool.true_and, Bool.and_true, Bool.false_and, Bool.and_false, Bool.not_true, Bool.not_false]
        · have hw' : (((d.2.2.length : Nat) : Int) == 0) = false := by
            rw [beq_eq_false_iff_ne]; omega
          have hw2 : (d.2.2.length != 0) = true := by simp [hw]
          rw [hw', hw2, B87 N d.2.2 h1.2 h2.2]
          by_cases ha : d.2.2.all Aix = true
          · simp only [ha, Bool.false_eq_true, if_false, if_true, Bool.true_and, Bool.and_true, Bool.false_and, Bool.and_false, Bool.not_true, Bool.not_false]
          · have ha' : d.2.2.all Aix = false := by simpa using ha
            simp only [ha', Bool.false_eq_true, if_false, if_true, Bool.true_and, Bool.and_true, Bool.false_and, Bool.and_false, Bool.not_true, Bool.not_false]
      · have hq' : (d.1 == ([] : List UInt8)) = false := by simpa using hq
        rw [hq']; simp only [Bool.false_eq_true, if_false, if_true, Bool.true_and, Bool.and_true, Bool.false_and, Bool.and_false, Bool.not_true, Bool.not_false]
theorem Ca2 {R : Type} (N : Nat) (i0 : Int) (nm : List UInt8) (dat : Aaz) (ops : OpL) (gl : Abt) (procs labels : Int) (tx : List UInt8) (is : Bool) (l : List Int) (hl : l.length ≤ 1099511627776) (K0 : Bool → Option R) (K1 : Int → List UInt8 → Aaz → OpL → Abt → Int → Int → Option R) : ∀ (m k i : Nat), m < k → i + m = l.length →
    Ab9 N k i0 i nm dat ops gl procs labels tx is l K0 K1 = if (l.drop i).all Aix then K1 i0 nm dat ops gl procs labels else K0 false := by
  intro m
  induction m with
  | zero =>
    intro k i hk hi
    obtain ⟨k, rfl⟩ := exk hk
    simp only [Ab9, Au7]
    rw [if_neg (by simp [len]; omega), List.drop_eq_nil_of_le (by omega)]
    simp
  | succ m ih =>
    intro k i hk hi
    obtain ⟨k, rfl⟩ := exk hk
    have hlt : i < l.length := by omega
    have hin : (0 : Int) ≤ i ∧ (i : Int) < len l := by simp only [len]; omega
    have hd : l.drop i = l[i] :: l.drop (i + 1) := List.drop_eq_getElem_cons hlt
    simp only [Ab9, Au7]
    rw [if_pos (by simp [len]; omega), if_pos hin, Ac7 _ _ hlt, An4, Abo (by omega), ih k (i + 1) (by omega) (by omega), hd, List.all_cons]
    have hw : inB l[i] (-2147483648) 2147483647 = Aix l[i] := rfl
    rw [hw]
    by_cases h : Aix l[i] = true
    · simp only [h, Bool.not_true, Bool.false_eq_true, if_false, Bool.true_and]
    · have h' : Aix l[i] = false := by simpa using h
      simp only [h', Bool.not_false, if_true, Bool.false_and, Bool.false_eq_true, if_false]
theorem B89 {R : Type} (N : Nat) (data : Aaz) (hd : Bkr data) (hl : data.length ≤ 2000) (hN : ∀ d, d ∈ data → d.1.length < N ∧ d.2.2.length < N) (nm : List UInt8) (ops : OpL) (gl : Abt) (procs labels : Int) (K0 : Bool → Option R) (K1 : List UInt8 → Aaz → OpL → Abt → Int → Int → Option R) :
    ∀ (m k i : Nat), m < k → i + m = data.length →
    Acg N k i nm data ops gl procs labels K0 K1 = if (data.drop i).all Bc4 then K1 nm data ops gl procs labels else K0 false := by
  intro m
  induction m with
  | zero =>
    intro k i hk hi
    obtain ⟨k, rfl⟩ := exk hk
    simp only [Acg, Axq]
    rw [if_neg (by simp [len]; omega), List.drop_eq_nil_of_le (by omega)]
    simp
  | succ m ih =>
    intro k i hk hi
    obtain ⟨k, rfl⟩ := exk hk
    have hlt : i < data.length := by omega
    have hin : (0 : Int) ≤ i ∧ (i : Int) < len data := by simp only [len]; omega
    have hdr : data.drop i = data[i] :: data.drop (i + 1) := List.drop_eq_getElem_cons hlt
    simp only [Acg, Axq]
    rw [if_pos (by simp [len]; omega), if_pos hin, Ac7 _ _ hlt, hdr, List.all_cons]
    have h1 := hd data[i] (List.getElem_mem hlt)
    have h2 := hN data[i] (List.getElem_mem hlt)
    generalize data[i] = d at h1 h2
    by_cases ht : d.2.1 = true
    · rw [if_pos ht]
      obtain ⟨r, hr⟩ := Bkq N d.1 h1.1 h2.1 (fun y0 y1 => if (y1 != 0) = true then K0 false else if (decide (len d.2.2 > 0)) = true then K0 false else Acg N k (wi ((i : Int) + 1)) nm data ops gl procs labels K0 K1)
      rw [hr, Abo (by omega), ih k (i + 1) (by omega) (by omega)]
      simp only [Bc4, if_pos ht, len]
      by_cases hq : Aq3 d.1 = 0
      · have hq' : (Aq3 d.1 != 0) = false := by simp [hq]
        have hq2 : (Aq3 d.1 == 0) = true := by simp [hq]
        rw [hq', hq2]
        by_cases hw : d.2.2.length = 0
        · have e1 : (d.2.2.length == 0) = true := by simp [hw]
          have e2 : decide (((d.2.2.length : Nat) : Int) > 0) = false := by simp [hw]
          simp only [e1, e2, Bool.false_eq_true, if_false, Bool.true_and]
        · have e1 : (d.2.2.length == 0) = false := by simp [hw]
          have e2 : decide (((d.2.2.length : Nat) : Int) > 0) = true := by simp; omega
          simp only [e1, e2, Bool.false_eq_true, if_false, if_true, Bool.and_false, Bool.false_and]
      · have hq' : (Aq3 d.1 != 0) = true := by simp [hq]
        have hq2 : (Aq3 d.1 == 0) = false := by simp [hq]
        rw [hq', hq2]
        simp only [if_true, Bool.false_and, Bool.false_eq_true, if_false]
    · rw [if_neg ht]
      simp only [Bc4, if_neg ht, len]
      by_cases hq : (d.1 == ([] : List UInt8)) = true
      · rw [hq]
        by_cases hw : d.2.2.length = 0
        · have e1 : (((d.2.2.length : Nat) : Int) == 0) = true := by simp [hw]
          have e2 : (d.2.2.length != 0) = false := by simp [hw]
          simp only [e1, e2, Bool.not_true, Bool.false_eq_true, if_false, if_true, Bool.and_false, Bool.false_and]
        · have hw' : (((d.2.2.length : Nat) : Int) == 0) = false := by rw [beq_eq_false_iff_ne]; omega
          have hw2 : (d.2.2.length != 0) = true := by simp [hw]
          have hr := Ca2 N i nm data ops gl procs labels d.1 d.2.1 d.2.2 h1.2 (fun y2 => K0 y2) (fun y3 y4 y5 y6 y7 y8 y9 => Acg N k (wi (y3 + 1)) y4 y5 y6 y7 y8 y9 K0 K1) d.2.2.length N 0 h2.2 (by omega)
          rw [show ((0 : Nat) : Int) = 0 from rfl] at hr
          rw [hw', hw2, hr, List.drop_zero, Abo (by omega), ih k (i + 1) (by omega) (by omega)]
          by_cases ha : d.2.2.all Aix = true
          · simp only [ha, Bool.not_true, Bool.false_eq_true, if_false, if_true, Bool.true_and]
          · have ha' : d.2.2.all Aix = false := by simpa using ha
            simp only [ha', Bool.not_true, Bool.false_eq_true, if_false, Bool.and_false, Bool.false_and]
      · have hq' : (d.1 == ([] : List UInt8)) = false := by simpa using hq
        rw [hq']; simp only [Bool.not_false, if_true, Bool.false_and, Bool.false_eq_true, if_false]
theorem Ch0 {S : Type} (a b c d : Bool) (x y : S) : (if (!a) = true then y else if b = true then y else if (!c) = true then y else if d = true then x else y) = if (a && !b && c && d) = true then x else y := by
  cases a <;> cases b <;> cases c <;> cases d <;> rfl
def Biy (procs : Int) : List Int → Abt → Bool
  | _, [] => true
  | seen, e :: r => inB e.1 1 199 && !seen.contains e.1 && inB e.2 1 procs && Biy procs (e.1 :: seen) r
theorem Ccg (k k' : Int) (l : List (Int × Bool)) : (Aov (kt := .int .i64) (et := .bool) k (Asn (kt := .int .i64) (et := .bool) k' true l)).getD false = (k == k' || (Aov (kt := .int .i64) (et := .bool) k l).getD false) := by
  induction l with
  | nil =>
    simp only [Asn, Aov, Ty.beq]
    cases h : (k == k') <;> simp
  | cons x l ih =>
    obtain ⟨a, b⟩ := x
    simp only [Asn, Ty.beq]
    cases h1 : (k' == a) with
    | true =>
      have := beq_iff_eq.1 h1
      subst this
      simp only [Aov, Ty.beq]
      cases h : (k == k') <;> simp
    | false =>
      simp only [Aov, Ty.beq]
      cases h2 : (k == a) with
      | true =>
        have := beq_iff_eq.1 h2
        subst this
        have : (k == k') = false := by
          rw [beq_eq_false_iff_ne] at h1 ⊢
          exact fun h => h1 h.symm
        simp [this]
      | false => simpa using ih
theorem Cd9 {R : Type} (N : Nat) (gl : Abt) (hl : gl.length ≤ 1099511627776) (nm : List UInt8) (dat : Aaz) (ops : OpL) (gl2 : Abt) (procs labels : Int) (K0 : Bool → Option R) (K1 : Option R) :
    ∀ (m k i : Nat) (seen : List Int) (mp : List (Int × Bool)), m < k → i + m = gl.length → (∀ x, (Aov (kt := .int .i64) (et := .bool) x mp).getD false = seen.contains x) →
    Adb N k gl gl.length i nm dat ops gl2 procs labels mp K0 K1 = if Biy procs seen (gl.drop i) then K1 else K0 false := by
  intro m
  induction m with
  | zero =>
    intro k i seen mp hk hi hm
    obtain ⟨k, rfl⟩ := exk hk
    simp only [Adb, Auv]
    rw [if_neg (by simp; omega), List.drop_eq_nil_of_le (by omega)]
    simp [Biy]
  | succ m ih =>
    intro k i seen mp hk hi hm
    obtain ⟨k, rfl⟩ := exk hk
    have hlt : i < gl.length := by omega
    have hin : (0 : Int) ≤ i ∧ (i : Int) < len gl := by simp only [len]; omega
    have hd : gl.drop i = gl[i] :: gl.drop (i + 1) := List.drop_eq_getElem_cons hlt
    simp only [Adb, Auv]
    rw [if_pos (by simp; omega), if_pos hin, Ac7 _ _ hlt, Awo, Awo, Abo (by omega), hd]
    rw [ih k (i + 1) (gl[i].1 :: seen) _ (by omega) (by omega) (fun x => by rw [Ccg, hm, List.contains_cons])]
    rw [hm]
    simp only [Biy]
    exact Ch0 _ _ _ _ _ _
theorem Cea {R : Type} (N : Nat) (i : Nat) (nm : List UInt8) (dat : Aaz) (ops : OpL) (gl : Abt) (procs labels g1 g2 : Int) (hl : gl.length ≤ 1099511627776) (hi : i ≤ gl.length) (K0 : Bool → Option R) (K1 : Int → List UInt8 → Aaz → OpL → Abt → Int → Int → Option R) :
    ∀ (m k j : Nat), m < k → j + m = i →
    Aca N k i j nm dat ops gl procs labels g1 g2 K0 K1 = if ((gl.take i).drop j).any (fun e => e.1 == g1) then K0 false else K1 i nm dat ops gl procs labels := by
  intro m
  induction m with
  | zero =>
    intro k j hk hj
    obtain ⟨k, rfl⟩ := exk hk
    simp only [Aca, Au8]
    rw [if_neg (by simp; omega), List.drop_eq_nil_of_le (by simp; omega)]
    simp
  | succ m ih =>
    intro k j hk hj
    obtain ⟨k, rfl⟩ := exk hk
    have hlt : j < gl.length := by omega
    have hin : (0 : Int) ≤ j ∧ (j : Int) < len gl := by simp only [len]; omega
    have hlt2 : j < (gl.take i).length := by simp; omega
    have hd : (gl.take i).drop j = gl[j] :: (gl.take i).drop (j + 1) := by
      rw [List.drop_eq_getElem_cons hlt2]; simp
    simp only [Aca, Au8]
    rw [if_pos (by simp; omega), if_pos hin, Ac7 _ _ hlt, Abo (by omega), ih k (j + 1) (by omega) (by omega), hd, List.any_cons]
    by_cases h : (gl[j].1 == g1) = true
    · simp only [h, if_true, Bool.true_or]
    · have h' : (gl[j].1 == g1) = false := by simpa using h
      simp only [h', Bool.false_eq_true, if_false, Bool.false_or]
theorem Cfw {S : Type} (a b c d : Bool) (x y : S) : (if (!a) = true then y else if (!c) = true then y else if b = true then y else if d = true then x else y) = if (a && !b && c && d) = true then x else y := by
  cases a <;> cases b <;> cases c <;> cases d <;> rfl
theorem Cch {R : Type} (N : Nat) (gl : Abt) (hl : gl.length < N) (hl2 : gl.length ≤ 1099511627776) (nm : List UInt8) (dat : Aaz) (ops : OpL) (procs labels : Int) (K0 : Bool → Option R) (K1 : List UInt8 → Aaz → OpL → Abt → Int → Int → Option R) :
    ∀ (m k i : Nat) (seen : List Int), m < k → i + m = gl.length → (∀ x, (gl.take i).any (fun e => e.1 == x) = seen.contains x) →
    Abu N k i nm dat ops gl procs labels K0 K1 = if Biy procs seen (gl.drop i) then K1 nm dat ops gl procs labels else K0 false := by
  intro m
  induction m with
  | zero =>
    intro k i seen hk hi hm
    obtain ⟨k, rfl⟩ := exk hk
    simp only [Abu, Au9]
    rw [if_neg (by simp [len]; omega), List.drop_eq_nil_of_le (by omega)]
    simp [Biy]
  | succ m ih =>
    intro k i seen hk hi hm
    obtain ⟨k, rfl⟩ := exk hk
    have hlt : i < gl.length := by omega
    have hin : (0 : Int) ≤ i ∧ (i : Int) < len gl := by simp only [len]; omega
    have hd : gl.drop i = gl[i] :: gl.drop (i + 1) := List.drop_eq_getElem_cons hlt
    simp only [Abu, Au9]
    rw [if_pos (by simp [len]; omega), if_pos hin, Ac7 _ _ hlt, An4, An4]
    have hdup := Cea N i nm dat ops gl procs labels gl[i].1 gl[i].2 hl2 (by omega) (fun y2 => K0 y2) (fun y3 y4 y5 y6 y7 y8 y9 => Abu N k (wi (y3 + 1)) y4 y5 y6 y7 y8 y9 K0 K1) i N 0 (by omega) (by omega)
    rw [show ((0 : Nat) : Int) = 0 from rfl] at hdup
    rw [hdup, List.drop_zero, Abo (by omega), hm, hd]
    rw [ih k (i + 1) (gl[i].1 :: seen) (by omega) (by omega) (fun x => by
      rw [List.take_succ_eq_append_getElem hlt, List.any_append, hm, List.contains_cons]
      simp only [List.any_cons, List.any_nil, Bool.or_false]
      rw [Bool.or_comm]
      congr 1
      exact BEq.comm)]
    simp only [Biy]
    exact Cfw _ _ _ _ _ _
def Bf1 (data : Aaz) (gl : Abt) (procs : Int) : Bool := data.all Bc4 && Biy procs [] gl
theorem B1q {R : Type} (N : Nat) (nm : List UInt8) (data : Aaz) (ops : OpL) (gl : Abt) (procs labels : Int) (hd : Bkr data) (hl : data.length ≤ 2000) (hN : ∀ d, d ∈ data → d.1.length < N ∧ d.2.2.length < N) (hN2 : 2000 < N) (hg : gl.length < N) (hg2 : gl.length ≤ 1099511627776) (K : Bool → Option R) :
    Aep N nm data ops gl procs labels K = K (Bf1 data gl procs) := by
  simp only [Aep, Bam, len]
  have h1 := B88 N data hd hl hN nm data ops gl procs labels (fun y0 => K y0) (fun y1 y2 y3 y4 y5 y6 => Adb N N y4 ((y4.length : Nat) : Int) 0 y1 y2 y3 y4 y5 y6 [] (fun y7 => K y7) (K true)) data.length N 0 (by omega) (by omega)
  have h2 := Cd9 N gl hg2 nm data ops gl procs labels (fun y7 => K y7) (K true) gl.length N 0 [] [] hg (by omega) (fun x => rfl)
  rw [show ((0 : Nat) : Int) = 0 from rfl] at h1 h2
  rw [h1, List.drop_zero]
  simp only [h2, List.drop_zero, Bf1]
  cases data.all Bc4 <;> cases Biy procs [] gl <;> rfl
theorem B1r {R : Type} (N : Nat) (nm : List UInt8) (data : Aaz) (ops : OpL) (gl : Abt) (procs labels : Int) (hd : Bkr data) (hl : data.length ≤ 2000) (hN : ∀ d, d ∈ data → d.1.length < N ∧ d.2.2.length < N) (hN2 : 2000 < N) (hg : gl.length < N) (hg2 : gl.length ≤ 1099511627776) (hn : nm.length < N) (hn2 : nm.length ≤ 1099511627776) (K : Bool → Option R) :
    Ahd N nm data ops gl procs labels K = K (Bf1 data gl procs && Aq3 nm == 0) := by
  simp only [Ahd, Ba7]
  have h1 := B89 N data hd hl hN nm ops gl procs labels (fun y0 => K y0) (fun y1 y2 y3 y4 y5 y6 => Abu N N 0 y1 y2 y3 y4 y5 y6 (fun y7 => K y7) fun y8 y9 y10 y11 y12 y13 => Acw N y8 fun y14 y15 => K (y15 == 0)) data.length N 0 (by omega) (by omega)
  have h2 := Cch N gl hg hg2 nm data ops procs labels (fun y7 => K y7) (fun y8 y9 y10 y11 y12 y13 => Acw N y8 fun y14 y15 => K (y15 == 0)) gl.length N 0 [] hg (by omega) (fun x => rfl)
  obtain ⟨r, h3⟩ := Bkq N nm hn2 hn (fun y14 y15 => K (y15 == 0))
  rw [show ((0 : Nat) : Int) = 0 from rfl] at h1 h2
  rw [h1, List.drop_zero]
  simp only [h2, List.drop_zero, Bf1, h3]
  cases data.all Bc4 <;> cases Biy procs [] gl <;> rfl
def Abd (l : OpL) (i : Nat) : Int × Int × Int := l.getD i (0, 0, 0)
def Ag7 (op : Int) : Bool := op != 20 && op != 25 && op != 26 && op != 27 && op != 29 && op != 30
def Adx : OpL → Option Int
  | [] => none
  | o :: _ => some o.1
def Azu (o : Int × Int × Int) (r : OpL) : Bool :=
  (o.1 != 19 || (Adx r == some 18 || Adx r == some 28 || Adx r == some 19)) && (!Ag7 o.1 || (Adx r != none && Adx r != some 24))
def Ae0 : Nat → OpL → Bool
  | c, [] => c == 0
  | c + 1, o :: r => o.1 == 30 && Ae0 c r
  | 0, o :: r => o.1 != 30 && (if o.1 = 29 then Ae0 o.2.2.toNat r else Azu o r && Ae0 0 r)
def Am7 (c : Nat) (s : OpL) : Bool := decide (c ≤ s.length) && (s.take c).all fun o => o.1 == 30
theorem Byv : ∀ (c : Nat) (s : OpL), Ae0 c s = (Am7 c s && Ae0 0 (s.drop c))
  | 0, s => by simp [Am7]
  | c + 1, [] => by simp [Am7, Ae0]
  | c + 1, o :: r => by
    have h : Am7 (c + 1) (o :: r) = (o.1 == 30 && Am7 c r) := by
      simp only [Am7, List.length_cons, List.take_succ_cons, List.all_cons]
      have : decide (c + 1 ≤ r.length + 1) = decide (c ≤ r.length) := by simp
      rw [this]
      cases decide (c ≤ r.length) <;> cases (o.1 == 30) <;> simp
    rw [Ae0, Byv c r, h, List.drop_succ_cons, Bool.and_assoc]
theorem B2o {α : Type} (l : List α) (i j : Nat) (d : α) : (l.drop i).getD j d = l.getD (i + j) d := by
  simp [List.getD_eq_getElem?_getD]
theorem B9a (l : OpL) (i : Nat) : Adx (l.drop i) = if i < l.length then some (l.getD i (0, 0, 0)).1 else none := by
  by_cases h : i < l.length
  · rw [if_pos h, List.drop_eq_getElem_cons h]
    simp [Adx, h]
  · rw [if_neg h, List.drop_eq_nil_of_le (by omega)]; rfl
theorem Cci {R : Type} (N : Nat) (l : OpL) (i M : Nat) (hl : l.length ≤ 1099511627776) (hM : M ≤ 1000) (hi : i < l.length) (K0 : Bool → Option R) (K1 : OpL → Int → Option R) :
    ∀ (m k j : Nat), m < k → j + m = M →
    Acx N k l i M j K0 K1 = if Am7 (M - j) (l.drop (i + 1 + j)) then K1 l i else K0 false := by
  intro m
  induction m with
  | zero =>
    intro k j hk hj
    obtain ⟨k, rfl⟩ := exk hk
    simp only [Acx, Auu]
    rw [if_neg (by simp; omega), show M - j = 0 by omega]
    simp [Am7]
  | succ m ih =>
    intro k j hk hj
    obtain ⟨k, rfl⟩ := exk hk
    simp only [Acx, Auu]
    rw [if_pos (by simp; omega), Abo (by omega)]
    have e1 : wi (((i + 1 : Nat) : Int) + (j : Int)) = ((i + 1 + j : Nat) : Int) := by simp only [wi]; rw [w64 (by omega)]; omega
    rw [e1, Abo (by omega)]
    simp only [len]
    by_cases h : i + 1 + j < l.length
    · rw [if_neg (by simp; omega), if_pos (by omega), Ac7 _ _ h, ih k (j + 1) (by omega) (by omega)]
      have hd : l.drop (i + 1 + j) = l[i + 1 + j] :: l.drop (i + 1 + (j + 1)) := List.drop_eq_getElem_cons h
      have hc : Am7 (M - j) (l.drop (i + 1 + j)) = (l[i + 1 + j].1 == 30 && Am7 (M - (j + 1)) (l.drop (i + 1 + (j + 1)))) := by
        rw [hd, show M - j = (M - (j + 1)) + 1 by omega]
        simp only [Am7, List.length_cons, List.take_succ_cons, List.all_cons]
        have : decide (M - (j + 1) + 1 ≤ (l.drop (i + 1 + (j + 1))).length + 1) = decide (M - (j + 1) ≤ (l.drop (i + 1 + (j + 1))).length) := by simp
        rw [this]
        cases decide (M - (j + 1) ≤ (l.drop (i + 1 + (j + 1))).length) <;> cases (l[i + 1 + j].1 == 30) <;> simp
      rw [hc]
      by_cases h30 : l[i + 1 + j].1 = 30
      · simp [h30]
      · have h2 : (l[i + 1 + j].1 == 30) = false := by simpa using h30
        have h3 : (l[i + 1 + j].1 != 30) = true := by simpa using h30
        simp only [h2, h3, if_true, Bool.false_and, Bool.false_eq_true, if_false]
    · rw [if_pos (by simp; omega)]
      have hc : Am7 (M - j) (l.drop (i + 1 + j)) = false := by
        simp only [Am7, Bool.and_eq_false_iff]
        left; simp; omega
      rw [hc]; simp
def Asl (l : OpL) (i : Nat) : Bool :=
  let o := Abd l i
  if o.1 = 20 ∨ o.1 = 25 ∨ o.1 = 26 ∨ o.1 = 27 then true
  else if o.1 = 29 then o.2.2 == 0
  else if o.1 = 30 then decide (i + 1 = l.length) || (Abd l (i + 1)).1 != 30
  else false
theorem Bnn {R : Type} (N : Nat) (l : OpL) (i : Nat) (hl : l.length ≤ 1099511627776) (hi : i < l.length) (K : Bool → Option R) : Abz N l i K = K (Asl l i) := by
  simp only [Abz, Bd9, Ae2, Asl, Abd]
  have hin : (0 : Int) ≤ i ∧ (i : Int) < len l := by simp only [len]; omega
  rw [if_pos hin, show Int.toNat (i : Int) = i from by simp]
  obtain ⟨o, ho⟩ : ∃ o, l.getD i (0, 0, 0) = o := ⟨_, rfl⟩
  simp only [ho, if_pos hin]
  by_cases h1 : o.1 = 20
  · simp [h1]
  by_cases h2 : o.1 = 25
  · simp [h2]
  by_cases h3 : o.1 = 26
  · simp [h3]
  by_cases h4 : o.1 = 27
  · simp [h4]
  rw [if_neg (by simpa using h1), if_neg (by simpa using h2), if_neg (by simpa using h3), if_neg (by simpa using h4), if_neg (show ¬ (o.1 = 20 ∨ o.1 = 25 ∨ o.1 = 26 ∨ o.1 = 27) by omega)]
  by_cases h5 : o.1 = 29
  · rw [if_pos (by simpa using h5), if_pos h5]
  rw [if_neg (by simpa using h5), if_neg h5]
  by_cases h6 : o.1 = 30
  · rw [if_pos (by simpa using h6), if_pos h6, Abo (by omega)]
    by_cases h7 : i + 1 = l.length
    · rw [if_pos (by simp only [len, beq_iff_eq]; omega)]; simp [h7]
    · rw [if_neg (by simp only [len, beq_iff_eq]; omega), if_pos (by simp only [len]; omega)]
      simp [h7]
  · rw [if_neg (by simpa using h6), if_neg h6]
theorem Byw {R : Type} (N : Nat) (l : OpL) (i : Nat) (last : Bool) (hl : l.length ≤ 1099511627776) (hi : i < l.length) (hlast : last = decide (i + 1 = l.length)) (K0 : Bool → Option R) (K1 : OpL → Int → Option R) :
    Abq N l i last K0 K1 = if (last || (Abd l (i + 1)).1 == 24) && !Asl l i then K0 false else K1 l i := by
  simp only [Abq, A2w, Bnn N l i hl hi]
  cases last with
  | true =>
    simp only [if_true, Bool.true_or, Bool.true_and]
  | false =>
    have hne : i + 1 ≠ l.length := by simpa using hlast.symm
    simp only [Bool.false_eq_true, if_false, Bool.false_or]
    rw [Abo (by omega), if_pos (by simp only [len]; omega)]
    have : l.getD (Int.toNat ((i + 1 : Nat) : Int)) (0, 0, 0) = Abd l (i + 1) := by simp [Abd]
    rw [this]
    cases h : ((Abd l (i + 1)).1 == 24) with
    | true => simp only [if_true, Bool.true_and]
    | false => simp only [Bool.false_eq_true, if_false, Bool.false_and]
theorem Awp {l : OpL} {i : Nat} (h : i < l.length) : Abd l i = l[i] := by simp [Abd, List.getD_eq_getElem?_getD, h]
theorem Bql {l : OpL} {i : Nat} : Adx (l.drop i) = if i < l.length then some (Abd l i).1 else none := by
  rw [B9a]; rfl
theorem Ccj {c : Nat} {s : OpL} (h : Am7 c s = true) : c ≤ s.length ∧ ∀ j, j < c → (Abd s j).1 = 30 := by
  simp only [Am7, Bool.and_eq_true, decide_eq_true_eq, List.all_eq_true, beq_iff_eq] at h
  refine ⟨h.1, fun j hj => ?_⟩
  have hjl : j < s.length := by omega
  rw [Awp hjl]
  exact h.2 _ (by
    rw [List.mem_take_iff_getElem]
    exact ⟨j, by omega, rfl⟩)
theorem Ca3 {R : Type} (N : Nat) (l : OpL) (hl : l.length ≤ 1099511627776) (hN : 1000 < N) (hM : ∀ o, o ∈ l → o.1 = 29 → 0 ≤ o.2.2 ∧ o.2.2 ≤ 1000) (K0 : Bool → Option R) (K1 : OpL → Option R) :
    ∀ (k i : Nat), i ≤ l.length → l.length - i < k → Acq N k l i K0 K1 = if Ae0 0 (l.drop i) then K1 l else K0 false := by
  intro k
  induction k with
  | zero => intro i _ h; omega
  | succ k ih =>
    intro i hi hk
    simp only [Acq, A4q]
    by_cases hlt : i < l.length
    case neg =>
      rw [if_neg (by simp [len]; omega), List.drop_eq_nil_of_le (by omega)]
      simp [Ae0]
    have hin : (0 : Int) ≤ i ∧ (i : Int) < len l := by simp only [len]; omega
    have hd : l.drop i = l[i] :: l.drop (i + 1) := List.drop_eq_getElem_cons hlt
    have hM' := hM l[i] (List.getElem_mem hlt)
    have hoi : Abd l i = l[i] := Awp hlt
    rw [if_pos (by simp [len]; omega), if_pos hin, Ac7 _ _ hlt, Abo (by omega), hd]
    simp only [if_pos hin]
    obtain ⟨o, ho⟩ : ∃ o, l[i] = o := ⟨_, rfl⟩
    simp only [ho] at hM' hoi ⊢
    by_cases h29 : o.1 = 29
    · -- a switch
      rw [if_pos (by simpa using h29)]
      obtain ⟨M, hMe⟩ := Int.eq_ofNat_of_zero_le (hM' h29).1
      have hMle : M ≤ 1000 := by have := (hM' h29).2; omega
      have hcl := Cci N l i M hl hMle hlt (fun y0 => K0 y0) (fun y1 y2 =>
        if 0 ≤ y2 ∧ y2 < len y1 then
          if (!wi (wi (y2 + (List.getD y1 (Int.toNat y2) (0, 0, 0)).2.2) + 1) == len y1) = true then
            if 0 ≤ wi (wi (y2 + (List.getD y1 (Int.toNat y2) (0, 0, 0)).2.2) + 1) ∧ wi (wi (y2 + (List.getD y1 (Int.toNat y2) (0, 0, 0)).2.2) + 1) < len y1 then
              if ((List.getD y1 (Int.toNat (wi (wi (y2 + (List.getD y1 (Int.toNat y2) (0, 0, 0)).2.2) + 1))) (0, 0, 0)).1 == 30) = true then K0 false
              else Abq N y1 (wi (y2 + (List.getD y1 (Int.toNat y2) (0, 0, 0)).2.2)) (wi (wi (y2 + (List.getD y1 (Int.toNat y2) (0, 0, 0)).2.2) + 1) == len y1) (fun y3 => K0 y3) fun y4 y5 => Acq N k y4 (wi (y5 + 1)) K0 K1
            else none
          else Abq N y1 (wi (y2 + (List.getD y1 (Int.toNat y2) (0, 0, 0)).2.2)) (wi (wi (y2 + (List.getD y1 (Int.toNat y2) (0, 0, 0)).2.2) + 1) == len y1) (fun y6 => K0 y6) fun y7 y8 => Acq N k y7 (wi (y8 + 1)) K0 K1
        else none) M N 0 (by omega) (by omega)
      rw [show ((0 : Nat) : Int) = 0 from rfl] at hcl
      rw [hMe, hcl, Nat.sub_zero, Nat.add_zero]
      have hord : Ae0 0 (o :: l.drop (i + 1)) = (Am7 M (l.drop (i + 1)) && Ae0 0 (l.drop (i + 1 + M))) := by
        rw [Ae0, if_pos h29, hMe, Int.toNat_natCast, Byv, List.drop_drop]
        simp [h29]
      rw [hord]
      by_cases hc : Am7 M (l.drop (i + 1)) = true
      case neg =>
        have hc' : Am7 M (l.drop (i + 1)) = false := by simpa using hc
        simp only [hc', Bool.false_eq_true, if_false, Bool.false_and]
      obtain ⟨c1, c2⟩ := Ccj hc
      have c1 : M ≤ l.length - (i + 1) := by simpa using c1
      simp only [hc, if_true, Bool.true_and, if_pos hin, Ac7 _ _ hlt, ho, hMe]
      have e1 : wi ((i : Int) + (M : Int)) = ((i + M : Nat) : Int) := by simp only [wi]; rw [w64 (by omega)]; omega
      rw [e1, Abo (by omega)]
      have hends : (¬ i + M + 1 < l.length ∨ (Abd l (i + M + 1)).1 ≠ 30) → Asl l (i + M) = true := by
        intro hh
        unfold Asl
        cases M with
        | zero =>
          rw [Nat.add_zero] at hh ⊢
          simp only [hoi, h29, hMe]
          simp
        | succ M =>
          have h30 : (Abd l (i + (M + 1))).1 = 30 := by
            have := c2 M (by omega)
            unfold Abd at this ⊢
            rw [B2o] at this
            rw [show i + (M + 1) = i + 1 + M by omega]; exact this
          simp only [h30]
          rcases hh with hh | hh
          · simp; omega
          · simp; omega
      have fin : ∀ last : Bool, last = decide (i + M + 1 = l.length) → (¬ i + M + 1 < l.length ∨ (Abd l (i + M + 1)).1 ≠ 30) → Abq N l ((i + M : Nat) : Int) last (fun y3 => K0 y3) (fun y4 y5 => Acq N k y4 (wi (y5 + 1)) K0 K1) = if Ae0 0 (l.drop (i + 1 + M)) = true then K1 l else K0 false := by
        intro last hlast hh
        rw [Byw N l (i + M) last hl (by omega) hlast, hends hh]
        simp only [Bool.not_true, Bool.and_false, Bool.false_eq_true, if_false]
        rw [Abo (by omega), ih (i + M + 1) (by omega) (by omega), show i + M + 1 = i + 1 + M by omega]
      by_cases hlast : i + M + 1 = l.length
      · have hb : ((((i + M + 1 : Nat) : Int)) == len l) = true := by simp only [len, beq_iff_eq]; omega
        rw [hb]
        simp only [Bool.not_true, Bool.false_eq_true, if_false]
        exact fin true (by simp [hlast]) (.inl (by omega))
      · have hb : ((((i + M + 1 : Nat) : Int)) == len l) = false := by
          rw [beq_eq_false_iff_ne]; simp only [len]; omega
        rw [hb]
        simp only [Bool.not_false, if_true]
        rw [if_pos (by simp only [len]; omega)]
        have hg : l.getD (Int.toNat ((i + M + 1 : Nat) : Int)) (0, 0, 0) = Abd l (i + M + 1) := by
          unfold Abd; rw [Int.toNat_natCast]
        rw [hg]
        by_cases h30 : (Abd l (i + M + 1)).1 = 30
        · rw [if_pos (by simpa using h30)]
          have hlt2 : i + 1 + M < l.length := by omega
          have : Ae0 0 (l.drop (i + 1 + M)) = false := by
            rw [List.drop_eq_getElem_cons hlt2, Ae0, ← Awp hlt2, show i + 1 + M = i + M + 1 by omega]
            simp [h30]
          rw [this]; simp
        · rw [if_neg (by simpa using h30)]
          exact fin false (by simp [hlast]) (.inr h30)
    rw [if_neg (by simpa using h29)]
    by_cases h30 : o.1 = 30
    · rw [if_pos (by simpa using h30)]
      simp [Ae0, h30]
    rw [if_neg (by simpa using h30)]
    have hord : Ae0 0 (o :: l.drop (i + 1)) = (Azu o (l.drop (i + 1)) && Ae0 0 (l.drop (i + 1))) := by
      rw [Ae0, if_neg h29]; simp [h30]
    rw [hord]
    have hhead : Adx (l.drop (i + 1)) = if i + 1 < l.length then some (Abd l (i + 1)).1 else none := Bql
    have hlb : ((((i + 1 : Nat) : Int)) == len l) = decide (i + 1 = l.length) := by
      rw [Bool.eq_iff_iff]; simp only [len, beq_iff_eq, decide_eq_true_eq]; omega
    have hends : Asl l i = !Ag7 o.1 := by
      unfold Asl Ag7
      rw [hoi]
      by_cases a1 : o.1 = 20
      · simp [a1]
      by_cases a2 : o.1 = 25
      · simp [a2]
      by_cases a3 : o.1 = 26
      · simp [a3]
      by_cases a4 : o.1 = 27
      · simp [a4]
      have b1 : (o.1 != 20) = true := by simpa using a1
      have b2 : (o.1 != 25) = true := by simpa using a2
      have b3 : (o.1 != 26) = true := by simpa using a3
      have b4 : (o.1 != 27) = true := by simpa using a4
      have b5 : (o.1 != 29) = true := by simpa using h29
      have b6 : (o.1 != 30) = true := by simpa using h30
      rw [if_neg (by omega), if_neg h29, if_neg h30, b1, b2, b3, b4, b5, b6]; rfl
    have fin : o.1 ≠ 19 ∨ (i + 1 < l.length ∧ ((Abd l (i + 1)).1 = 18 ∨ (Abd l (i + 1)).1 = 28 ∨ (Abd l (i + 1)).1 = 19)) →
        Abq N l (i : Int) (decide (i + 1 = l.length)) (fun y9 => K0 y9) (fun y10 y11 => Acq N k y10 (wi (y11 + 1)) K0 K1) = if (Azu o (l.drop (i + 1)) && Ae0 0 (l.drop (i + 1))) = true then K1 l else K0 false := by
      intro hh
      rw [Byw N l i _ hl hlt rfl, Abo (by omega), ih (i + 1) (by omega) (by omega), hends, Bool.not_not]
      have hs : Azu o (l.drop (i + 1)) = !((decide (i + 1 = l.length) || (Abd l (i + 1)).1 == 24) && Ag7 o.1) := by
        unfold Azu
        rw [hhead]
        have h19 : (o.1 != 19 || ((if i + 1 < l.length then some (Abd l (i + 1)).1 else none) == some 18 || (if i + 1 < l.length then some (Abd l (i + 1)).1 else none) == some 28 || (if i + 1 < l.length then some (Abd l (i + 1)).1 else none) == some 19)) = true := by
          rcases hh with hh | ⟨hh, h2⟩
          · simp [hh]
          · rw [if_pos hh]
            rcases h2 with h2 | h2 | h2 <;> simp [h2]
        rw [h19, Bool.true_and]
        by_cases hl1 : i + 1 < l.length
        · have : decide (i + 1 = l.length) = false := by simp; omega
          rw [this, if_pos hl1]
          by_cases h24 : (Abd l (i + 1)).1 = 24
          · simp [h24]
          · have h24' : ((Abd l (i + 1)).1 == 24) = false := by simpa using h24
            simp [h24, h24']
        · have : decide (i + 1 = l.length) = true := by simp; omega
          rw [this, if_neg hl1]
          simp
      rw [hs]
      cases (decide (i + 1 = l.length) || (Abd l (i + 1)).1 == 24) && Ag7 o.1 <;> simp
    simp only [hlb]
    by_cases h19 : o.1 = 19
    · rw [if_pos (by simpa using h19)]
      by_cases hl1 : i + 1 = l.length
      · have hx : decide (i + 1 = l.length) = true := by simp [hl1]
        have hs : Azu o (l.drop (i + 1)) = false := by
          unfold Azu
          rw [hhead, if_neg (by omega), h19]; rfl
        rw [hx, hs]; simp
      · have hx : decide (i + 1 = l.length) = false := by simp [hl1]
        have hlt1 : i + 1 < l.length := by omega
        have hg : l.getD (Int.toNat ((i + 1 : Nat) : Int)) (0, 0, 0) = Abd l (i + 1) := by
          unfold Abd; rw [Int.toNat_natCast]
        have hin1 : (0 : Int) ≤ ((i + 1 : Nat) : Int) ∧ ((i + 1 : Nat) : Int) < len l := by simp only [len]; omega
        rw [hx] at fin ⊢
        simp only [Bool.false_eq_true, if_false, if_pos hin1, hg]
        have hs : ((Abd l (i + 1)).1 ≠ 18 ∧ (Abd l (i + 1)).1 ≠ 28 ∧ (Abd l (i + 1)).1 ≠ 19) → Azu o (l.drop (i + 1)) = false := by
          intro ⟨a1, a2, a3⟩
          unfold Azu
          rw [hhead, if_pos hlt1, h19]
          have b1 : (some (Abd l (i + 1)).1 == some 18) = false := by simpa using a1
          have b2 : (some (Abd l (i + 1)).1 == some 28) = false := by simpa using a2
          have b3 : (some (Abd l (i + 1)).1 == some 19) = false := by simpa using a3
          rw [b1, b2, b3]; rfl
        by_cases a1 : (Abd l (i + 1)).1 = 18
        · rw [if_neg (by simpa using a1)]; exact fin (.inr ⟨hlt1, .inl a1⟩)
        rw [if_pos (by simpa using a1)]
        by_cases a2 : (Abd l (i + 1)).1 = 28
        · rw [if_neg (by simpa using a2)]; exact fin (.inr ⟨hlt1, .inr (.inl a2)⟩)
        rw [if_pos (by simpa using a2)]
        by_cases a3 : (Abd l (i + 1)).1 = 19
        · rw [if_neg (by simpa using a3)]; exact fin (.inr ⟨hlt1, .inr (.inr a3)⟩)
        rw [if_pos (by simpa using a3), hs ⟨a1, a2, a3⟩]
        simp
    · rw [if_neg (by simpa using h19)]
      exact fin (.inl h19)
def Ajx (l : OpL) : Bool := Adx l == none || Adx l == some 24
theorem B1s {R : Type} (N : Nat) (l : OpL) (hl : l.length < N) (hl2 : l.length ≤ 1099511627776) (hN : 1000 < N) (hM : ∀ o, o ∈ l → o.1 = 29 → 0 ≤ o.2.2 ∧ o.2.2 ≤ 1000) (K : Bool → Option R) :
    Aeo N l K = K (Ae0 0 l && Ajx l) := by
  simp only [Aeo, Bai]
  have h := Ca3 N l hl2 hN hM (fun y0 => K y0) (fun y1 => if (len y1 == 0) = true then K true else if (0 : Int) ≤ 0 ∧ 0 < len y1 then K ((List.getD y1 0 (0, 0, 0)).1 == 24) else none) N 0 (by omega) (by omega)
  rw [show ((0 : Nat) : Int) = 0 from rfl] at h
  rw [h, List.drop_zero]
  cases Ae0 0 l with
  | false => simp
  | true =>
    simp only [if_true, Bool.true_and]
    cases l with
    | nil => simp [len, Ajx, Adx]
    | cons o r =>
      rw [if_neg (by simp only [len, List.length_cons, beq_iff_eq]; omega), if_pos (by simp only [len, List.length_cons]; omega)]
      simp [Ajx, Adx]
theorem Ad7 {i : Int} (h1 : -4611686018427387904 < i) (h2 : i < 4611686018427387904) : wi i = i := by
  simp only [wi]; exact w64 (by omega)
def plF : Nat → OpL → Int → Int → List Int → List Int → Option (Int × Int × List Int × List Int)
  | _, [], p, m, o, a => some (p, m, o, a)
  | i, x :: r, p, m, o, a =>
    if x.1 = 24 then (if x.2.1 = p + 1 then plF (i + 1) r (p + 1) m o a else none)
    else if x.1 = 19 then
      (if a.getD x.2.1.toNat 0 ≠ 0 ∨ p = 0 then none
       else plF (i + 1) r p (if x.2.1 > m then x.2.1 else m) (o.set x.2.1.toNat i) (a.set x.2.1.toNat p))
    else plF (i + 1) r p m o a
theorem B9b {R : Type} (N : Nat) (nm : List UInt8) (dat : Aaz) (l : OpL) (gl : Abt) (procs labels : Int) (hl : l.length ≤ 1099511627776)
    (hL : ∀ o, o ∈ l → o.1 = 19 → 1 ≤ o.2.1 ∧ o.2.1 ≤ labels) (K0 : Bool → List Int → List Int → Option R)
    (K1 : Int → Int → List UInt8 → Aaz → OpL → Abt → Int → Int → List Int → List Int → Option R) :
    ∀ (k i : Nat) (p m : Int) (o a : List Int), i ≤ l.length → l.length - i < k → 0 ≤ p → p ≤ i → (o.length : Int) = labels + 1 → (a.length : Int) = labels + 1 →
      Aex N k p m l (len l) i nm dat l gl procs labels o a K0 K1 =
        match plF i (l.drop i) p m o a with
        | none => K0 false [] []
        | some (p', m', o', a') => K1 p' m' nm dat l gl procs labels o' a' := by
  intro k
  induction k with
  | zero => intro i _ _ _ _ _ h; omega
  | succ k ih =>
    intro i p m o a hi hk hp hpi ho ha
    simp only [Aex, A2r]
    by_cases hlt : i < l.length
    case neg =>
      rw [if_neg (by simp [len]; omega), List.drop_eq_nil_of_le (by omega)]
      simp [plF]
    have hin : (0 : Int) ≤ i ∧ (i : Int) < len l := by simp only [len]; omega
    have hd : l.drop i = l[i] :: l.drop (i + 1) := List.drop_eq_getElem_cons hlt
    have hL' := hL l[i] (List.getElem_mem hlt)
    rw [if_pos (by simp [len]; omega), if_pos hin, Ac7 _ _ hlt, Abo (by omega), hd]
    obtain ⟨x, hx⟩ : ∃ x, l[i] = x := ⟨_, rfl⟩
    simp only [hx] at hL' ⊢
    have hw : wi (p + 1) = p + 1 := Ad7 (by omega) (by omega)
    by_cases h24 : x.1 = 24
    · rw [if_pos (by simpa using h24), hw, plF, if_pos h24]
      by_cases he : x.2.1 = p + 1
      · rw [if_neg (by simp [he]), if_pos he]
        exact ih (i + 1) (p + 1) m o a (by omega) (by omega) (by omega) (by omega) ho ha
      · rw [if_pos (by simpa using he), if_neg he]
    rw [if_neg (by simpa using h24), plF, if_neg h24]
    by_cases h19 : x.1 = 19
    · have hv := hL' h19
      have hia : 0 ≤ x.2.1 ∧ x.2.1 < len a := by simp only [len]; omega
      have hio : 0 ≤ x.2.1 ∧ x.2.1 < len o := by simp only [len]; omega
      rw [if_pos (by simpa using h19), if_pos h19, if_pos hia]
      by_cases ha0 : a.getD x.2.1.toNat 0 = 0
      · rw [if_neg (by simpa using ha0)]
        by_cases hp0 : p = 0
        · rw [if_pos (by simpa using hp0), if_pos (.inr hp0)]
        · rw [if_neg (by simpa using hp0), if_pos hio, if_pos hia, if_neg (show ¬(a.getD x.2.1.toNat 0 ≠ 0 ∨ p = 0) by intro h; rcases h with h | h; exact h ha0; exact hp0 h)]
          exact ih (i + 1) p _ _ _ (by omega) (by omega) hp (by omega) (by rw [List.length_set]; exact ho) (by rw [List.length_set]; exact ha)
      · rw [if_pos (by simpa using ha0), if_pos (.inl ha0)]
    · rw [if_neg (by simpa using h19), if_neg h19]
      exact ih (i + 1) p m o a (by omega) (by omega) hp (by omega) ho ha
def Akz (l : OpL) (procs labels : Int) : Option (Bool × List Int × List Int) :=
  match plF 0 l 0 0 (List.replicate (labels + 1).toNat 0) (List.replicate (labels + 1).toNat 0) with
  | none => none
  | some (p, m, o, a) => some (p == procs && m == labels, o, a)
theorem Bhw {R : Type} (N : Nat) (nm : List UInt8) (dat : Aaz) (l : OpL) (gl : Abt) (procs labels : Int) (hl : l.length < N) (hl2 : l.length ≤ 1099511627776)
    (hb : 0 ≤ labels ∧ labels ≤ 1000000) (hL : ∀ o, o ∈ l → o.1 = 19 → 1 ≤ o.2.1 ∧ o.2.1 ≤ labels) (K : Bool → List Int → List Int → Option R) :
    Ab1 N nm dat l gl procs labels K = match Akz l procs labels with
      | none => K false [] []
      | some (b, o, a) => K b o a := by
  have hw : wi (labels + 1) = labels + 1 := Ad7 (by omega) (by omega)
  have hg : (0 : Int) ≤ labels + 1 ∧ labels + 1 ≤ labels + 1 ∧ (labels + 1) * 8 ≤ 70368744177664 := by omega
  simp only [Ab1, A63, hw, if_pos hg]
  have h := B9b N nm dat l gl procs labels hl2 hL (fun y0 y1 y2 => K y0 y1 y2) (fun y3 y4 y5 y6 y7 y8 y9 y10 y11 y12 => if (y3 == y9) = true then K (y4 == y10) y11 y12 else K false y11 y12) N 0 0 0
    (List.replicate (labels + 1).toNat 0) (List.replicate (labels + 1).toNat 0) (by omega) (by omega) (by omega) (by omega) (by simp; omega) (by simp; omega)
  rw [show ((0 : Nat) : Int) = 0 from rfl, List.drop_zero] at h
  rw [h]
  unfold Akz
  cases plF 0 l 0 0 (List.replicate (labels + 1).toNat 0) (List.replicate (labels + 1).toNat 0) with
  | none => rfl
  | some r =>
    obtain ⟨p, m, o, a⟩ := r
    dsimp only
    cases hpp : p == procs <;> simp [hpp]
def Ag3 (nd procs labels : Int) (x : Int × Int × Int) : Bool := decide (1 ≤ x.1) && decide (x.1 ≤ 30) && Asx x.1 x.2.1 x.2.2 nd procs labels
theorem Cck {R : Type} (N : Nat) (nm : List UInt8) (data : Aaz) (l : OpL) (gl : Abt) (procs labels : Int) (hl : l.length ≤ 1099511627776) (hd : data.length ≤ 1000000)
    (K0 : Bool → Option R) (K1 : List UInt8 → Aaz → OpL → Abt → Int → Int → Option R) :
    ∀ (k i : Nat), i ≤ l.length → l.length - i < k →
      Ac4 N k l (len l) i nm data l gl procs labels Amo K0 K1 = if (l.drop i).all (Ag3 data.length procs labels) then K1 nm data l gl procs labels else K0 false := by
  intro k
  induction k with
  | zero => intro i _ h; omega
  | succ k ih =>
    intro i hi hk
    simp only [Ac4, A2o]
    by_cases hlt : i < l.length
    case neg =>
      rw [if_neg (by simp [len]; omega), List.drop_eq_nil_of_le (by omega)]
      simp
    have hin : (0 : Int) ≤ i ∧ (i : Int) < len l := by simp only [len]; omega
    have hd' : l.drop i = l[i] :: l.drop (i + 1) := List.drop_eq_getElem_cons hlt
    rw [if_pos (by simp [len]; omega), if_pos hin, Ac7 _ _ hlt, Abo (by omega), hd', List.all_cons]
    obtain ⟨x, hx⟩ : ∃ x, l[i] = x := ⟨_, rfl⟩
    simp only [hx]
    by_cases h1 : x.1 < 1
    · rw [if_pos (by simpa using h1)]
      have : Ag3 data.length procs labels x = false := by unfold Ag3; simp; omega
      rw [this]; simp
    rw [if_neg (by simpa using h1)]
    by_cases h2 : x.1 ≥ 31
    · rw [if_pos (by simpa using h2)]
      have : Ag3 data.length procs labels x = false := by unfold Ag3; simp; omega
      rw [this]; simp
    rw [if_neg (by simpa using h2), if_pos (by omega), if_pos (show x.1 < len Amo from by simp only [len, Amo, List.length_cons, List.length_nil]; omega),
      show List.getD Amo (Int.toNat x.1) (([] : List UInt8), ((0 : Int), ((0 : Int), (0 : Int)))) = kT x.1 from rfl,
      Bvu N _ _ _ _ _ _ _ _ _ hd (by omega)]
    have : Ag3 data.length procs labels x = Asx x.1 x.2.1 x.2.2 data.length procs labels := by
      unfold Ag3
      rw [show decide (1 ≤ x.1) = true by simp; omega, show decide (x.1 ≤ 30) = true by simp; omega]; rfl
    rw [this, ih (i + 1) (by omega) (by omega)]
    cases Asx x.1 x.2.1 x.2.2 data.length procs labels <;> rfl
def Aae (x : Int × Int × Int) : Int := if x.1 = 20 ∨ x.1 = 21 ∨ x.1 = 22 ∨ x.1 = 27 ∨ x.1 = 29 then x.2.1 else if x.1 = 30 then x.2.2 else 0
theorem Aua {R : Type} (N : Nat) (a b c : Int) (K : Int → Option R) : Aav N a b c K = K (Aae (a, b, c)) := by
  simp only [Aav, Bao, Ad9, Aae]
  by_cases h1 : a = 20
  · simp [h1]
  by_cases h2 : a = 21
  · simp [h2]
  by_cases h3 : a = 22
  · simp [h3]
  by_cases h4 : a = 27
  · simp [h4]
  by_cases h5 : a = 29
  · simp [h5]
  by_cases h6 : a = 30
  · simp [h6]
  simp [h1, h2, h3, h4, h5, h6]
theorem A8w {nd procs labels : Int} {x : Int × Int × Int} (h : Ag3 nd procs labels x = true) : Aae x = 0 ∨ (1 ≤ Aae x ∧ Aae x ≤ labels) := by
  obtain ⟨op, n, m⟩ := x
  simp only [Ag3, Bool.and_eq_true, decide_eq_true_eq] at h
  obtain ⟨⟨h1, h2⟩, h3⟩ := h
  rcases Bdd ⟨h1, h2⟩ with rfl | rfl | rfl | rfl | rfl | rfl | rfl | rfl | rfl | rfl | rfl | rfl | rfl | rfl | rfl | rfl | rfl | rfl | rfl | rfl | rfl | rfl | rfl | rfl | rfl | rfl | rfl | rfl | rfl | rfl <;>
    simp [Aae] <;> simp [Asx, inB] at h3 <;> omega
def Atp : Int → OpL → List Int → List Int → Bool
  | _, [], _, _ => true
  | p, x :: r, o, a =>
    let p' := if x.1 = 24 then x.2.1 else p
    (decide (Aae x ≤ 0) || (a.getD (Aae x).toNat 0 == p' && o.getD (Aae x).toNat 0 != 0)) && Atp p' r o a
theorem Ccl {R : Type} (N : Nat) (p : Int) (l : OpL) (ll i : Int) (o a : List Int) (x : Int × Int × Int) (h : Aae x = 0 ∨ (1 ≤ Aae x ∧ Aae x < a.length)) (hoa : o.length = a.length) (K0 : Bool → Option R) (K1 : Int → OpL → Int → Int → List Int → List Int → Option R) :
    Adc N p l ll i o a x.1 x.2.1 x.2.2 K0 K1 = if (decide (Aae x ≤ 0) || (a.getD (Aae x).toNat 0 == p && o.getD (Aae x).toNat 0 != 0)) = true then K1 p l ll i o a else K0 false := by
  simp only [Adc, A20, Aua]
  rw [show (x.1, x.2.1, x.2.2) = x from rfl]
  by_cases h0 : Aae x > 0
  · have ha : 0 ≤ Aae x ∧ Aae x < len a := by simp only [len]; omega
    have ho : 0 ≤ Aae x ∧ Aae x < len o := by simp only [len]; omega
    rw [if_pos (by simpa using h0), if_pos ha, if_pos ho, show decide (Aae x ≤ 0) = false by simp; omega, Bool.false_or]
    generalize a.getD (Aae x).toNat 0 = u
    generalize o.getD (Aae x).toNat 0 = v
    by_cases h1 : u = p
    · by_cases h2 : v = 0
      · simp [h1, h2]
      · simp [h1, h2]
    · simp [h1]
  · rw [if_neg (by simpa using h0), show decide (Aae x ≤ 0) = true by simp; omega, Bool.true_or, if_pos rfl]
theorem Ccm {R : Type} (N : Nat) (l : OpL) (o a : List Int) (hl : l.length ≤ 1099511627776) (hoa : o.length = a.length) (hn : ∀ x, x ∈ l → Aae x = 0 ∨ (1 ≤ Aae x ∧ Aae x < a.length))
    (K0 : Bool → Option R) (K1 : Option R) :
    ∀ (k i : Nat) (p : Int), i ≤ l.length → l.length - i < k →
      Acy N k p l (len l) i o a K0 K1 = if Atp p (l.drop i) o a then K1 else K0 false := by
  intro k
  induction k with
  | zero => intro i _ _ h; omega
  | succ k ih =>
    intro i p hi hk
    simp only [Acy, A22]
    by_cases hlt : i < l.length
    case neg =>
      rw [if_neg (by simp [len]; omega), List.drop_eq_nil_of_le (by omega)]
      simp [Atp]
    have hin : (0 : Int) ≤ i ∧ (i : Int) < len l := by simp only [len]; omega
    have hd' : l.drop i = l[i] :: l.drop (i + 1) := List.drop_eq_getElem_cons hlt
    have hx' := hn l[i] (List.getElem_mem hlt)
    rw [if_pos (by simp [len]; omega), if_pos hin, Ac7 _ _ hlt, hd', Atp]
    obtain ⟨x, hx⟩ : ∃ x, l[i] = x := ⟨_, rfl⟩
    simp only [hx] at hx' ⊢
    by_cases h24 : x.1 = 24
    · rw [if_pos (by simpa using h24), if_pos h24, Ccl N _ l _ _ o a x hx' hoa, Abo (by omega), ih (i + 1) _ (by omega) (by omega)]
      cases (decide (Aae x ≤ 0) || (a.getD (Aae x).toNat 0 == x.2.1 && o.getD (Aae x).toNat 0 != 0)) <;> rfl
    · rw [if_neg (by simpa using h24), if_neg h24, Ccl N _ l _ _ o a x hx' hoa, Abo (by omega), ih (i + 1) _ (by omega) (by omega)]
      cases (decide (Aae x ≤ 0) || (a.getD (Aae x).toNat 0 == p && o.getD (Aae x).toNat 0 != 0)) <;> rfl
theorem B9u : ∀ (l : OpL) (i : Nat) (p m : Int) (o a : List Int) (r : Int × Int × List Int × List Int), plF i l p m o a = some r → r.2.2.1.length = o.length ∧ r.2.2.2.length = a.length := by
  intro l
  induction l with
  | nil => intro i p m o a r h; simp only [plF, Option.some.injEq] at h; subst h; exact ⟨rfl, rfl⟩
  | cons x l ih =>
    intro i p m o a r h
    rw [plF] at h
    split at h
    · split at h
      · exact ih _ _ _ _ _ _ h
      · cases h
    · split at h
      · split at h
        · cases h
        · have := ih _ _ _ _ _ _ h
          simpa using this
      · exact ih _ _ _ _ _ _ h
theorem Biz {l : OpL} {procs labels : Int} {r : Bool × List Int × List Int} (h : Akz l procs labels = some r) : r.2.1.length = (labels + 1).toNat ∧ r.2.2.length = (labels + 1).toNat := by
  unfold Akz at h
  split at h
  · cases h
  · rename_i p m o a he
    have := B9u _ _ _ _ _ _ _ he
    simp only [Option.some.injEq] at h
    subst h
    simpa using this
def Azv (nm : List UInt8) (data : Aaz) (l : OpL) (gl : Abt) (procs labels : Int) : Bool :=
  Aq3 nm == 0 && decide (0 ≤ procs) && decide (0 ≤ labels) && l.all (Ag3 data.length procs labels) &&
  (match Akz l procs labels with
   | none => false
   | some (b, o, a) => b && (Ae0 0 l && Ajx l) && Bf1 data gl procs && Atp 0 l o a)
theorem Bvx {nd procs labels : Int} {x : Int × Int × Int} (h : Ag3 nd procs labels x = true) (h29 : x.1 = 29) : 0 ≤ x.2.2 ∧ x.2.2 ≤ 1000 := by
  obtain ⟨op, n, m⟩ := x
  simp only at h29; subst h29
  simp [Ag3, Asx, inB] at h
  exact h.2
theorem Bf2 {nd procs labels : Int} {x : Int × Int × Int} (h : Ag3 nd procs labels x = true) (h19 : x.1 = 19) : 1 ≤ x.2.1 ∧ x.2.1 ≤ labels := by
  obtain ⟨op, n, m⟩ := x
  simp only at h19; subst h19
  simp [Ag3, Asx, inB] at h
  exact h.1
structure B1t (N : Nat) (nm : List UInt8) (data : Aaz) (l : OpL) (gl : Abt) (procs labels : Int) : Prop where
  n1 : nm.length ≤ 1099511627776
  n2 : nm.length < N
  l1 : l.length < N
  l2 : l.length ≤ 1099511627776
  d1 : Bkr data
  d2 : data.length ≤ 2000
  d3 : ∀ d, d ∈ data → d.1.length < N ∧ d.2.2.length < N
  N1 : 2000 < N
  g1 : gl.length < N
  g2 : gl.length ≤ 1099511627776
  lb : labels ≤ 20000
  pb : procs ≤ 200
theorem B1u {R : Type} {N : Nat} {nm : List UInt8} {data : Aaz} {l : OpL} {gl : Abt} {procs labels : Int} (F : B1t N nm data l gl procs labels) (K : Bool → Option R) :
    Ai8 N nm data l gl procs labels K = K (Azv nm data l gl procs labels) := by
  simp only [Ai8, Baq]
  obtain ⟨r, hq⟩ := Bqk N nm F.n1 F.n2
  rw [hq]
  unfold Azv
  by_cases h1 : Aq3 nm = 0
  case neg =>
    rw [if_pos (by simpa using h1), show (Aq3 nm == 0) = false by simpa using h1]; rfl
  rw [if_neg (by simpa using h1), show (Aq3 nm == 0) = true by simpa using h1, Bool.true_and]
  by_cases h2 : procs < 0
  · rw [if_pos (by simpa using h2), show decide (0 ≤ procs) = false by simp; omega]; rfl
  rw [if_neg (by simpa using h2), show decide (0 ≤ procs) = true by simp; omega, Bool.true_and]
  by_cases h3 : labels < 0
  · rw [if_pos (by simpa using h3), show decide (0 ≤ labels) = false by simp; omega]; rfl
  rw [if_neg (by simpa using h3), show decide (0 ≤ labels) = true by simp; omega, Bool.true_and]
  simp only [Acr]
  have hloop := Cck (R := R) N nm data l gl procs labels F.l2 (by have := F.d2; omega) (fun y126 => K y126) (fun y127 y128 y129 y130 y131 y132 => Ab1 N y127 y128 y129 y130 y131 y132 (fun y133 y134 y135 => if ((!y133) = true) then (K false) else (Aeo N y129 (fun y136 => if ((!y136) = true) then (K false) else (Aep N y127 y128 y129 y130 y131 y132 (fun y137 => if ((!y137) = true) then (K false) else (Acy N N 0 y129 ((len y129)) 0 y134 y135 (fun y138 => K y138) (K true)))))))) N 0 (by omega) (by have := F.l1; omega)
  rw [List.drop_zero] at hloop
  refine Eq.trans hloop ?_
  by_cases hn : l.all (Ag3 data.length procs labels) = true
  case neg =>
    rw [if_neg hn, show l.all (Ag3 data.length procs labels) = false by simpa using hn]; rfl
  rw [if_pos hn, hn, Bool.true_and]
  have hall : ∀ o, o ∈ l → Ag3 data.length procs labels o = true := List.all_eq_true.mp hn
  rw [Bhw N _ _ _ _ _ _ F.l1 F.l2 ⟨by omega, by have := F.lb; omega⟩ (fun o ho h => Bf2 (hall o ho) h)]
  cases hp : Akz l procs labels with
  | none => rfl
  | some r =>
    obtain ⟨b, o, a⟩ := r
    have hlen := Biz hp
    simp only at hlen
    dsimp only
    cases b
    · rfl
    rw [if_neg (by decide), B1s N _ F.l1 F.l2 (by have := F.N1; omega) (fun o ho h => Bvx (hall o ho) h), Bool.true_and]
    cases Ae0 0 l && Ajx l
    · rfl
    rw [if_neg (by decide), B1q N _ _ _ _ _ _ F.d1 F.d2 F.d3 F.N1 F.g1 F.g2, Bool.true_and]
    cases Bf1 data gl procs
    · rfl
    rw [if_neg (by decide), Bool.true_and]
    have hu := Ccm (R := R) N l o a F.l2 (by omega) (fun x hx => by
      rcases A8w (hall x hx) with h | h
      · exact .inl h
      · exact .inr ⟨h.1, by omega⟩) (fun y138 => K y138) (K true) N 0 0 (by omega) (by have := F.l1; omega)
    rw [List.drop_zero] at hu
    refine Eq.trans hu ?_
    cases Atp 0 l o a <;> rfl
def Asm : OpL → Nat
  | [] => 0
  | x :: r => if x.1 = 19 then Asm r + 1 else 0
def Ac0 (l : OpL) (j : Nat) : Nat := j + Asm (l.drop j)
theorem Ceb : ∀ l : OpL, l ≠ [] → (∀ o, l.getLast? = some o → o.1 ≠ 19) → Asm l < l.length := by
  intro l
  induction l with
  | nil => intro h; exact absurd rfl h
  | cons x r ih =>
    intro _ h
    rw [Asm]
    by_cases h19 : x.1 = 19
    · rw [if_pos h19]
      cases r with
      | nil => exact absurd h19 (h x rfl)
      | cons y r =>
        have := ih (by simp) (fun o ho => h o (by rw [List.getLast?_cons_cons]; exact ho))
        simp only [List.length_cons] at this ⊢; omega
    · rw [if_neg h19]; simp
theorem Ccn : ∀ (l : OpL) (c : Nat), Ae0 c l = true → ∀ o, l.getLast? = some o → o.1 ≠ 19 := by
  intro l
  induction l with
  | nil => intro c _ o h; cases h
  | cons x r ih =>
    intro c h o ho
    cases r with
    | nil =>
      simp only [List.getLast?_singleton, Option.some.injEq] at ho
      subst ho
      cases c with
      | zero =>
        intro h19
        rw [Ae0, h19] at h
        simp [Azu, Adx, h19] at h
      | succ c =>
        simp only [Ae0, Bool.and_eq_true, beq_iff_eq] at h
        omega
    | cons y r =>
      rw [List.getLast?_cons_cons] at ho
      cases c with
      | zero =>
        rw [Ae0] at h
        simp only [Bool.and_eq_true] at h
        obtain ⟨_, h⟩ := h
        split at h
        · exact ih _ h o ho
        · simp only [Bool.and_eq_true] at h
          exact ih _ h.2 o ho
      | succ c =>
        simp only [Ae0, Bool.and_eq_true] at h
        exact ih c (by simpa [Ae0] using h.2) o ho
theorem Aue {l : OpL} (h : Ae0 0 l = true) {j : Nat} (hj : j < l.length) : Ac0 l j < l.length := by
  have := Ceb (l.drop j) (by intro h0; have := congrArg List.length h0; simp at this; omega) (fun o ho => by
    rw [List.getLast?_drop, if_neg (by omega)] at ho
    exact Ccn l 0 h o ho)
  rw [List.length_drop] at this
  unfold Ac0; omega
theorem Ca4 {R : Type} (N : Nat) (l : OpL) (hl : l.length ≤ 1099511627776) (K : Int → Option R) : ∀ (k j : Nat), Ac0 l j < l.length → l.length - j < k →
    Ae6 N k l j K = K (Ac0 l j : Nat) := by
  intro k
  induction k with
  | zero => intro j _ h; omega
  | succ k ih =>
    intro j hj hk
    have hjl : j < l.length := by unfold Ac0 at hj; omega
    have hin : (0 : Int) ≤ j ∧ (j : Int) < len l := by simp only [len]; omega
    have hd' : l.drop j = l[j] :: l.drop (j + 1) := List.drop_eq_getElem_cons hjl
    simp only [Ae6, A4y]
    rw [if_pos hin, Ac7 _ _ hjl, Abo (by omega)]
    by_cases h19 : l[j].1 = 19
    · have : Ac0 l j = Ac0 l (j + 1) := by unfold Ac0; rw [hd', Asm, if_pos h19]; omega
      rw [if_pos (by simpa using h19), ih (j + 1) (by omega) (by omega), this]
    · have : Ac0 l j = j := by unfold Ac0; rw [hd', Asm, if_neg h19]; rfl
      rw [if_neg (by simpa using h19), this]
theorem Bks {R : Type} (N : Nat) (l : OpL) (j : Int) (hl : l.length ≤ 1099511627776) (hN : l.length < N) (ho : Ae0 0 l = true) (h0 : 0 ≤ j) (hj : j < l.length) (K : Int → Option R) :
    Adu N l j K = K (Ac0 l j.toNat : Nat) := by
  obtain ⟨n, rfl⟩ := Int.eq_ofNat_of_zero_le h0
  simp only [Adu, Bav]
  exact Ca4 N l hl K N n (Aue ho (by omega)) (by omega)
def Bca (x : Int × Int × Int) (d : Int) (flag : Bool) : Bool :=
  (if x.1 = 2 ∨ x.1 = 3 then inB x.2.1 2 (d - 1) else if x.1 = 4 then decide (2 ≤ x.2.1) else if x.1 = 23 then inB x.2.1 2 (d - 3)
   else if x.1 = 18 then flag || decide (x.2.1 ≤ d + 2000 + 2) else true) && (x.1 == 24 || decide (2 ≤ d - (kT x.1).2.2.1))
theorem B1v (op : Int) : 0 ≤ (kT op).2.2.1 ∧ (kT op).2.2.1 ≤ 3 ∧ 0 ≤ (kT op).2.2.2 ∧ (kT op).2.2.2 ≤ 1 := by
  unfold kT
  generalize op.toNat = n
  by_cases h : n < 31
  · revert n; decide
  · rw [List.getD_eq_getElem?_getD, List.getElem?_eq_none (by simp only [Amo, List.length_cons, List.length_nil]; omega)]
    decide
theorem Bno {R : Type} (N : Nat) (x : Int × Int × Int) (d : Int) (flag : Bool) (hd : 0 ≤ d ∧ d ≤ 4000) (K : Bool → Option R) :
    Af6 N x.1 x.2.1 x.2.2 d (kT x.1).1 (kT x.1).2.1 (kT x.1).2.2.1 (kT x.1).2.2.2 flag K = K (Bca x d flag) := by
  obtain ⟨op, n, m⟩ := x
  have hp := B1v op
  unfold Bca
  simp only
  generalize kT op = kk at hp ⊢
  have w1 : wi (d - 1) = d - 1 := Ad7 (by omega) (by omega)
  have w3 : wi (d - 3) = d - 3 := Ad7 (by omega) (by omega)
  have w2 : wi (wi (d + 2000) + 2) = d + 2000 + 2 := by rw [Ad7 (i := d + 2000) (by omega) (by omega), Ad7 (by omega) (by omega)]
  have wp : wi (d - kk.2.2.1) = d - kk.2.2.1 := Ad7 (by omega) (by omega)
  simp only [Af6, Bem, Afh, A65, Aet, Awo, w1, w2, w3, wp]
  by_cases h2 : op = 2
  · subst h2; cases inB n 2 (d - 1) <;> simp
  by_cases h3 : op = 3
  · subst h3; cases inB n 2 (d - 1) <;> simp
  by_cases h4 : op = 4
  · subst h4
    by_cases hn : n < 2
    · simp [hn, show ¬ 2 ≤ n by omega]
    · simp [hn, show 2 ≤ n by omega]
  by_cases h23 : op = 23
  · subst h23; cases inB n 2 (d - 3) <;> simp
  by_cases h18 : op = 18
  · subst h18
    cases flag
    · by_cases hn : n ≤ d + 2000 + 2
      · simp [hn, show ¬ (d + 2000 + 2 < n) by omega]
      · simp [hn, show d + 2000 + 2 < n by omega]
    · simp
  by_cases h24 : op = 24
  · subst h24; simp
  have b24 : (op == 24) = false := by simpa using h24
  simp [h2, h3, h4, h23, h18, h24, b24]
def Ah2 (x : Int × Int × Int) (d : Int) : Int :=
  if x.1 = 18 then x.2.1 else if x.1 = 24 then 2 + x.2.2 else if x.1 = 23 ∨ x.1 = 28 then x.2.1 + 1 else d - (kT x.1).2.2.1 + (kT x.1).2.2.2
theorem B1w {R : Type} (N : Nat) (x : Int × Int × Int) (d : Int) (hd : 0 ≤ d ∧ d ≤ 4000) (hx : x.1 = 24 ∨ x.1 = 23 ∨ x.1 = 28 → 0 ≤ x.2.1 ∧ x.2.1 ≤ 4000 ∧ 0 ≤ x.2.2 ∧ x.2.2 ≤ 4000) (K : Int → Option R) :
    Afp N x.1 x.2.1 x.2.2 d (kT x.1).1 (kT x.1).2.1 (kT x.1).2.2.1 (kT x.1).2.2.2 K = K (Ah2 x d) := by
  obtain ⟨op, n, m⟩ := x
  have hp := B1v op
  simp only at hx
  unfold Ah2
  simp only
  generalize kT op = kk at hp ⊢
  simp only [Afp, Bas, Aea, Aem]
  by_cases h18 : op = 18
  · simp [h18]
  by_cases h24 : op = 24
  · rw [show wi (2 + m) = 2 + m from Ad7 (by have := hx (.inl h24); omega) (by have := hx (.inl h24); omega)]
    simp [h24]
  by_cases h23 : op = 23
  · rw [show wi (n + 1) = n + 1 from Ad7 (by have := hx (.inr (.inl h23)); omega) (by have := hx (.inr (.inl h23)); omega)]
    simp [h23]
  by_cases h28 : op = 28
  · rw [show wi (n + 1) = n + 1 from Ad7 (by have := hx (.inr (.inr h28)); omega) (by have := hx (.inr (.inr h28)); omega)]
    simp [h28]
  rw [show wi (wi (d - kk.2.2.1) + kk.2.2.2) = d - kk.2.2.1 + kk.2.2.2 by
    rw [Ad7 (i := d - kk.2.2.1) (by omega) (by omega), Ad7 (by omega) (by omega)]]
  simp [h18, h24, h23, h28]
noncomputable def Bqm {R : Type} (N : Nat) (rc : Aoc R) (x0 : Int) (x1 : OpL) (x2 x3 : Int) (x4 : List UInt8) (x5 : Aaz) (x6 : OpL) (x7 : Abt) (x8 x9 : Int) (x10 : List Int) (x11 : List (List UInt8 × Int × Int × Int)) (K0 : Bool → Option R)
    (v0 v1 v2 : Int) (v3 : List UInt8) (v4 v5 v6 : Int) : Option R :=
  (if (((0 : Int) ≤ v0) ∧ (v0 < (31 : Int))) then (if (v0 < (len x11)) then (Afp N v0 v1 v2 x0 v3 v4 v5 v6 (fun y1 => if ((decide ((y1 < (2 : Int)))) = true) then (K0 false) else (if ((decide ((y1 > (4000 : Int)))) = true) then (K0 false) else (Aav N v0 v1 v2 (fun y2 => if ((decide ((y2 > (0 : Int)))) = true) then (if (((0 : Int) ≤ y2) ∧ (y2 < (len x10))) then (Adu N x6 ((List.getD x10 (Int.toNat y2) (0 : Int))) (fun y3 => if (((0 : Int) ≤ y3) ∧ (y3 < (len x6))) then (if ((!(((List.getD x6 (Int.toNat y3) ((0 : Int), ((0 : Int), (0 : Int)))).1 == (28 : Int)) == (v0 == (27 : Int)))) = true) then (K0 false) else (if ((v0 != (19 : Int)) = true) then (Abz N x6 x3 (fun y4 => if ((!y4) = true) then (let v8 := (wi (x3 + (1 : Int))); if ((decide ((v8 < (len x6)))) = true) then (Adu N x6 v8 (fun y5 => if (((0 : Int) ≤ y5) ∧ (y5 < (len x6))) then (if (((List.getD x6 (Int.toNat y5) ((0 : Int), ((0 : Int), (0 : Int)))).1 == (28 : Int)) = true) then (K0 false) else (rc y1 x1 x2 v8 x4 x5 x6 x7 x8 x9 x10 x11)) else none)) else (rc y1 x1 x2 v8 x4 x5 x6 x7 x8 x9 x10 x11)) else (rc y1 x1 x2 ((wi (x3 + (1 : Int)))) x4 x5 x6 x7 x8 x9 x10 x11))) else (rc y1 x1 x2 ((wi (x3 + (1 : Int)))) x4 x5 x6 x7 x8 x9 x10 x11))) else none)) else none) else (if ((v0 != (19 : Int)) = true) then (Abz N x6 x3 (fun y6 => if ((!y6) = true) then (let v9 := (wi (x3 + (1 : Int))); if ((decide ((v9 < (len x6)))) = true) then (Adu N x6 v9 (fun y7 => if (((0 : Int) ≤ y7) ∧ (y7 < (len x6))) then (if (((List.getD x6 (Int.toNat y7) ((0 : Int), ((0 : Int), (0 : Int)))).1 == (28 : Int)) = true) then (K0 false) else (rc y1 x1 x2 v9 x4 x5 x6 x7 x8 x9 x10 x11)) else none)) else (rc y1 x1 x2 v9 x4 x5 x6 x7 x8 x9 x10 x11)) else (rc y1 x1 x2 ((wi (x3 + (1 : Int)))) x4 x5 x6 x7 x8 x9 x10 x11))) else (rc y1 x1 x2 ((wi (x3 + (1 : Int)))) x4 x5 x6 x7 x8 x9 x10 x11))))))) else none) else none)
theorem B7z {R : Type} (N : Nat) (rc : Aoc R) (x0 : Int) (x1 : OpL) (x2 x3 : Int) (x4 : List UInt8) (x5 : Aaz) (x6 : OpL) (x7 : Abt) (x8 x9 : Int) (x10 : List Int) (x11 : List (List UInt8 × Int × Int × Int)) (K0 : Bool → Option R) (K1 : Option R) :
    Ays @Af6 @Afp @Aav @Adu @Abz N rc x0 x1 x2 x3 x4 x5 x6 x7 x8 x9 x10 x11 K0 K1 =
    if ((decide ((x3 < x2))) = true) then (if (((0 : Int) ≤ x3) ∧ (x3 < (len x1))) then (let v0 := (List.getD x1 (Int.toNat x3) ((0 : Int), ((0 : Int), (0 : Int)))).1; let v1 := (List.getD x1 (Int.toNat x3) ((0 : Int), ((0 : Int), (0 : Int)))).2.1; let v2 := (List.getD x1 (Int.toNat x3) ((0 : Int), ((0 : Int), (0 : Int)))).2.2; if (((0 : Int) ≤ v0) ∧ (v0 < (31 : Int))) then (if (v0 < (len x11)) then (let v3 := (List.getD x11 (Int.toNat v0) (([] : List UInt8), ((0 : Int), ((0 : Int), (0 : Int))))).1; let v4 := (List.getD x11 (Int.toNat v0) (([] : List UInt8), ((0 : Int), ((0 : Int), (0 : Int))))).2.1; let v5 := (List.getD x11 (Int.toNat v0) (([] : List UInt8), ((0 : Int), ((0 : Int), (0 : Int))))).2.2.1; let v6 := (List.getD x11 (Int.toNat v0) (([] : List UInt8), ((0 : Int), ((0 : Int), (0 : Int))))).2.2.2; if ((decide ((x3 > (0 : Int)))) = true) then (let v7 := (wi (x3 - (1 : Int))); if (((0 : Int) ≤ v7) ∧ (v7 < (len x6))) then (Af6 N v0 v1 v2 x0 v3 v4 v5 v6 (((List.getD x6 (Int.toNat v7) ((0 : Int), ((0 : Int), (0 : Int)))).1 == (19 : Int))) (fun y0 => if ((!y0) = true) then (K0 false) else Bqm N rc x0 x1 x2 x3 x4 x5 x6 x7 x8 x9 x10 x11 K0 v0 v1 v2 v3 v4 v5 v6)) else none)
      else (Af6 N v0 v1 v2 x0 v3 v4 v5 v6 false (fun y8 => if ((!y8) = true) then (K0 false) else Bqm N rc x0 x1 x2 x3 x4 x5 x6 x7 x8 x9 x10 x11 K0 v0 v1 v2 v3 v4 v5 v6))) else none) else none) else none) else K1 := rfl
def Blx (l : OpL) (o : List Int) (i : Nat) (x : Int × Int × Int) (d : Int) : Bool :=
  decide (2 ≤ Ah2 x d) && decide (Ah2 x d ≤ 4000) &&
  (decide (Aae x ≤ 0) || (((Abd l (Ac0 l (o.getD (Aae x).toNat 0).toNat)).1 == 28) == (x.1 == 27))) &&
  (x.1 == 19 || Asl l i || decide (l.length ≤ i + 1) || (Abd l (Ac0 l (i + 1))).1 != 28)
theorem Ca5 {R : Type} (N : Nat) (l : OpL) (i : Nat) (op : Int) (hl : l.length ≤ 1099511627776) (hN : l.length < N) (ho : Ae0 0 l = true) (hi : i < l.length) (F : Option R) (G : Int → Option R) :
    (if ((op != (19 : Int)) = true) then (Abz N l (i : Int) (fun y6 => if ((!y6) = true) then (let v9 := (wi ((i : Int) + (1 : Int))); if ((decide ((v9 < (len l)))) = true) then (Adu N l v9 (fun y7 => if (((0 : Int) ≤ y7) ∧ (y7 < (len l))) then (if (((List.getD l (Int.toNat y7) ((0 : Int), ((0 : Int), (0 : Int)))).1 == (28 : Int)) = true) then F else (G v9)) else none)) else (G v9)) else (G (wi ((i : Int) + (1 : Int)))))) else (G (wi ((i : Int) + (1 : Int)))))
     = if (op == 19 || Asl l i || decide (l.length ≤ i + 1) || (Abd l (Ac0 l (i + 1))).1 != 28) = true then G ((i + 1 : Nat) : Int) else F := by
  rw [Bnn N l i hl hi, Abo (by omega)]
  by_cases h19 : op = 19
  · simp [h19]
  rw [if_pos (by simpa using h19), show (op == 19) = false by simpa using h19, Bool.false_or]
  cases Asl l i
  case true => rfl
  rw [if_pos (by decide), Bool.false_or]
  dsimp only
  by_cases hlt : i + 1 < l.length
  · rw [if_pos (by simp only [len, decide_eq_true_eq]; omega), Bks N l _ hl hN ho (by omega) (by omega), Int.toNat_natCast]
    have h1 := Aue ho hlt
    rw [if_pos (by simp only [len]; omega), show decide (l.length ≤ i + 1) = false by simp; omega, Bool.false_or]
    show (if ((Abd l (Ac0 l (i + 1))).1 == 28) = true then F else _) = _
    unfold bne
    cases (Abd l (Ac0 l (i + 1))).1 == 28 <;> rfl
  · rw [if_neg (by simp only [len, decide_eq_true_eq]; omega), show decide (l.length ≤ i + 1) = true by simp; omega]; rfl
theorem Cco {R : Type} (N : Nat) (rc : Aoc R) (d : Int) (nm : List UInt8) (data : Aaz) (l : OpL) (gl : Abt) (procs labels : Int) (o : List Int) (i : Nat) (K0 : Bool → Option R) (x : Int × Int × Int)
    (hd : 0 ≤ d ∧ d ≤ 4000) (hx : 1 ≤ x.1 ∧ x.1 ≤ 30) (hx2 : x.1 = 24 ∨ x.1 = 23 ∨ x.1 = 28 → 0 ≤ x.2.1 ∧ x.2.1 ≤ 4000 ∧ 0 ≤ x.2.2 ∧ x.2.2 ≤ 4000)
    (hn : Aae x = 0 ∨ (1 ≤ Aae x ∧ Aae x < o.length)) (hl : l.length ≤ 1099511627776) (hN : l.length < N) (ho : Ae0 0 l = true) (hi : i < l.length)
    (hov : ∀ n, 0 ≤ o.getD n 0 ∧ o.getD n 0 < l.length) :
    Bqm N rc d l (len l) i nm data l gl procs labels o Amo K0 x.1 x.2.1 x.2.2 (kT x.1).1 (kT x.1).2.1 (kT x.1).2.2.1 (kT x.1).2.2.2 =
      if Blx l o i x d = true then rc (Ah2 x d) l (len l) ((i + 1 : Nat) : Int) nm data l gl procs labels o Amo else K0 false := by
  unfold Bqm Blx
  rw [if_pos (by omega), if_pos (show x.1 < len Amo from by simp only [len, Amo, List.length_cons, List.length_nil]; omega), B1w N x d hd hx2]
  by_cases h1 : Ah2 x d < 2
  · rw [if_pos (by simpa using h1), show decide (2 ≤ Ah2 x d) = false by simp; omega]; rfl
  rw [if_neg (by simpa using h1), show decide (2 ≤ Ah2 x d) = true by simp; omega, Bool.true_and]
  by_cases h2 : Ah2 x d > 4000
  · rw [if_pos (by simpa using h2), show decide (Ah2 x d ≤ 4000) = false by simp; omega]; rfl
  rw [if_neg (by simpa using h2), show decide (Ah2 x d ≤ 4000) = true by simp; omega, Bool.true_and, Aua, show (x.1, x.2.1, x.2.2) = x from rfl]
  have he := Ca5 (R := R) N l i x.1 hl hN ho hi (K0 false) (fun v => rc (Ah2 x d) l (len l) v nm data l gl procs labels o Amo)
  by_cases h3 : Aae x > 0
  · have hv := hov (Aae x).toNat
    have h4 := Aue ho (j := (o.getD (Aae x).toNat 0).toNat) (by omega)
    rw [if_pos (by simpa using h3), if_pos (by simp only [len]; omega), Bks N l _ hl hN ho hv.1 hv.2, if_pos (by simp only [len]; omega), show decide (Aae x ≤ 0) = false by simp; omega, Bool.false_or]
    show (if (!((Abd l (Ac0 l (o.getD (Aae x).toNat 0).toNat)).1 == 28) == (x.1 == 27)) = true then _ else _) = _
    cases (((Abd l (Ac0 l (o.getD (Aae x).toNat 0).toNat)).1 == 28) == (x.1 == 27))
    · rfl
    · rw [if_neg (by decide), Bool.true_and]; exact he
  · rw [if_neg (by simpa using h3), show decide (Aae x ≤ 0) = true by simp; omega, Bool.true_or, Bool.true_and]; exact he
def A2e (l : OpL) (i : Nat) : Bool := decide (0 < i) && (Abd l (i - 1)).1 == 19
def Bi0 (l : OpL) (o : List Int) : Nat → Int → OpL → Bool
  | _, _, [] => true
  | i, d, x :: r => Bca x d (A2e l i) && Blx l o i x d && Bi0 l o (i + 1) (Ah2 x d) r
theorem Bvy {nd procs labels : Int} (hp : procs ≤ 200) {x : Int × Int × Int} (h : Ag3 nd procs labels x = true) (hc : x.1 = 24 ∨ x.1 = 23 ∨ x.1 = 28) : 0 ≤ x.2.1 ∧ x.2.1 ≤ 4000 ∧ 0 ≤ x.2.2 ∧ x.2.2 ≤ 4000 := by
  obtain ⟨op, n, m⟩ := x
  simp only at hc
  rcases hc with rfl | rfl | rfl <;> simp [Ag3, Asx, inB] at h <;> simp only <;> omega
theorem A3t {nd procs labels : Int} {x : Int × Int × Int} (h : Ag3 nd procs labels x = true) : 1 ≤ x.1 ∧ x.1 ≤ 30 := by
  simp only [Ag3, Bool.and_eq_true, decide_eq_true_eq] at h; exact h.1
theorem B70 {R : Type} (N : Nat) (nm : List UInt8) (data : Aaz) (l : OpL) (gl : Abt) (procs labels : Int) (o : List Int) (nd : Int) (hp : procs ≤ 200) (hl : l.length ≤ 1099511627776) (hN : l.length < N) (ho : Ae0 0 l = true)
    (hall : ∀ x, x ∈ l → Ag3 nd procs labels x = true) (hlen : (o.length : Int) = labels + 1) (hov : ∀ n, 0 ≤ o.getD n 0 ∧ (0 < l.length → o.getD n 0 < l.length)) (K0 : Bool → Option R) (K1 : Option R) :
    ∀ (k i : Nat) (d : Int), i ≤ l.length → l.length - i < k → 0 ≤ d ∧ d ≤ 4000 →
      Adg N k d l (len l) i nm data l gl procs labels o Amo K0 K1 = if Bi0 l o i d (l.drop i) then K1 else K0 false := by
  intro k
  induction k with
  | zero => intro i _ _ h; omega
  | succ k ih =>
    intro i d hi hk hd
    simp only [Adg, B7z]
    by_cases hlt : i < l.length
    case neg =>
      rw [if_neg (by simp [len]; omega), List.drop_eq_nil_of_le (by omega)]
      simp [Bi0]
    have hin : (0 : Int) ≤ i ∧ (i : Int) < len l := by simp only [len]; omega
    have hd' : l.drop i = l[i] :: l.drop (i + 1) := List.drop_eq_getElem_cons hlt
    have hx' := hall l[i] (List.getElem_mem hlt)
    rw [if_pos (by simp [len]; omega), if_pos hin, Ac7 _ _ hlt, hd', Bi0]
    obtain ⟨x, hx⟩ : ∃ x, l[i] = x := ⟨_, rfl⟩
    simp only [hx] at hx' ⊢
    have hop := A3t hx'
    have hnm : Aae x = 0 ∨ (1 ≤ Aae x ∧ Aae x < o.length) := by
      rcases A8w hx' with h | h
      · exact .inl h
      · exact .inr ⟨h.1, by omega⟩
    rw [if_pos (by omega), if_pos (show x.1 < len Amo from by simp only [len, Amo, List.length_cons, List.length_nil]; omega),
      show List.getD Amo (Int.toNat x.1) (([] : List UInt8), ((0 : Int), ((0 : Int), (0 : Int)))) = kT x.1 from rfl]
    have tail := Cco N (fun x0 x1 x2 x3 x4 x5 x6 x7 x8 x9 x10 x11 => Adg N k x0 x1 x2 x3 x4 x5 x6 x7 x8 x9 x10 x11 K0 K1) d nm data l gl procs labels o i K0 x hd hop (Bvy hp hx') hnm hl hN ho hlt (fun n => ⟨(hov n).1, (hov n).2 (by omega)⟩)
    have fin : ∀ b, b = A2e l i → (if (!Bca x d b) = true then K0 false else Bqm N (fun x0 x1 x2 x3 x4 x5 x6 x7 x8 x9 x10 x11 => Adg N k x0 x1 x2 x3 x4 x5 x6 x7 x8 x9 x10 x11 K0 K1) d l (len l) i nm data l gl procs labels o Amo K0 x.1 x.2.1 x.2.2 (kT x.1).1 (kT x.1).2.1 (kT x.1).2.2.1 (kT x.1).2.2.2)
        = if (Bca x d (A2e l i) && Blx l o i x d && Bi0 l o (i + 1) (Ah2 x d) (l.drop (i + 1))) = true then K1 else K0 false := by
      intro b hb
      subst hb
      cases Bca x d (A2e l i)
      · rfl
      rw [if_neg (by decide), tail, Bool.true_and]
      cases ht : Blx l o i x d
      · rfl
      have hy : 0 ≤ Ah2 x d ∧ Ah2 x d ≤ 4000 := by
        simp only [Blx, Bool.and_eq_true, decide_eq_true_eq] at ht; omega
      rw [if_pos rfl, ih (i + 1) _ (by omega) (by omega) hy, Bool.true_and]
    by_cases h0 : 0 < i
    · have hw : wi ((i : Int) - 1) = ((i - 1 : Nat) : Int) := by rw [Ad7 (by omega) (by omega)]; omega
      rw [if_pos (by simp; omega), hw, if_pos (by simp only [len]; omega), Bno N x d _ hd]
      exact fin _ (by unfold A2e Abd; rw [show decide (0 < i) = true by simp; omega, Bool.true_and, Int.toNat_natCast])
    · rw [if_neg (by simp; omega), Bno N x d _ hd]
      exact fin _ (by unfold A2e; rw [show decide (0 < i) = false by simp; omega, Bool.false_and])
theorem Cfx : ∀ (l : OpL) (i : Nat) (p m : Int) (o a : List Int) (r : Int × Int × List Int × List Int), plF i l p m o a = some r → ∀ (L : Nat), i + l.length ≤ L → (∀ n, 0 ≤ o.getD n 0 ∧ (0 < L → o.getD n 0 < L)) → ∀ n, 0 ≤ r.2.2.1.getD n 0 ∧ (0 < L → r.2.2.1.getD n 0 < L) := by
  intro l
  induction l with
  | nil => intro i p m o a r h L _ ho; simp only [plF, Option.some.injEq] at h; subst h; exact ho
  | cons x l ih =>
    intro i p m o a r h L hL ho
    rw [List.length_cons] at hL
    rw [plF] at h
    split at h
    · split at h
      · exact ih _ _ _ _ _ _ h L (by omega) ho
      · cases h
    · split at h
      · split at h
        · cases h
        · refine ih _ _ _ _ _ _ h L (by omega) (fun n => ?_)
          rw [List.getD_eq_getElem?_getD, List.getElem?_set]
          split
          · split
            · simp only [Option.getD_some]; omega
            · simp only [Option.getD_none]; omega
          · rw [← List.getD_eq_getElem?_getD]; exact ho n
      · exact ih _ _ _ _ _ _ h L (by omega) ho
theorem Btg {l : OpL} {procs labels : Int} {r : Bool × List Int × List Int} (h : Akz l procs labels = some r) : ∀ n, 0 ≤ r.2.1.getD n 0 ∧ (0 < l.length → r.2.1.getD n 0 < l.length) := by
  unfold Akz at h
  split at h
  · cases h
  · rename_i p m o a he
    have := Cfx _ _ _ _ _ _ _ he l.length (by omega) (fun n => by
      rw [List.getD_eq_getElem?_getD, List.getElem?_replicate]
      split <;> simp <;> omega)
    simp only [Option.some.injEq] at h
    subst h
    exact this
def Azw (l : OpL) (procs labels : Int) : Bool :=
  match Akz l procs labels with
  | none => false
  | some (_, o, _) => Bi0 l o 0 0 l
theorem Bvz {R : Type} {N : Nat} {nm : List UInt8} {data : Aaz} {l : OpL} {gl : Abt} {procs labels : Int} (F : B1t N nm data l gl procs labels) (hc : Azv nm data l gl procs labels = true) (K : Bool → Option R) :
    Ahi N nm data l gl procs labels K = K (Azw l procs labels) := by
  simp only [Azv, Bool.and_eq_true, decide_eq_true_eq] at hc
  obtain ⟨⟨⟨⟨_, hp0⟩, hl0⟩, hn⟩, hc⟩ := hc
  have hall : ∀ o, o ∈ l → Ag3 data.length procs labels o = true := List.all_eq_true.mp hn
  simp only [Ahi, A42, Acr]
  rw [Bhw N _ _ _ _ _ _ F.l1 F.l2 ⟨by omega, by have := F.lb; omega⟩ (fun o ho h => Bf2 (hall o ho) h)]
  unfold Azw
  cases hp : Akz l procs labels with
  | none => rw [hp] at hc; cases hc
  | some r =>
    obtain ⟨b, o, a⟩ := r
    rw [hp] at hc
    simp only [Bool.and_eq_true] at hc
    have hlen := Biz hp
    have hval := Btg hp
    simp only at hlen hval
    dsimp only
    have hs := B70 (R := R) N nm data l gl procs labels o data.length F.pb F.l2 F.l1 hc.1.1.2.1 hall (by omega) hval (fun y127 => K y127) (K true) N 0 0 (by omega) (by have := F.l1; omega) (by omega)
    rw [List.drop_zero] at hs
    refine Eq.trans hs ?_
    cases Bi0 l o 0 0 l <;> rfl
def Ao6 (nm : List UInt8) (data : Aaz) (l : OpL) (gl : Abt) (procs labels : Int) : Int :=
  if Aqi data l procs labels then 2 else if Azv nm data l gl procs labels then (if Azw l procs labels then 0 else 61) else 60
structure A6e (N : Nat) (nm : List UInt8) (data : Aaz) (gl : Abt) : Prop where
  n1 : nm.length ≤ 1099511627776
  n2 : nm.length < N
  d0 : A9y data
  d1 : Bkr data
  d3 : ∀ d, d ∈ data → d.1.length < N ∧ d.2.2.length < N
  N1 : 40000 < N
  g1 : gl.length < N
  g2 : gl.length ≤ 1099511627776
theorem B1x {R : Type} {N : Nat} {nm : List UInt8} {data : Aaz} {gl : Abt} (F : A6e N nm data gl) (l : OpL) (procs labels : Int) (K : Int → Option R) :
    Ai9 N nm data l gl procs labels K = K (Ao6 nm data l gl procs labels) := by
  simp only [Ai9, Bay]
  rw [B1p N _ _ _ _ _ _ F.d0 (by have := F.N1; omega)]
  unfold Ao6
  cases h : Aqi data l procs labels
  case true => rfl
  simp only [Aqi, Bool.or_eq_false_iff, decide_eq_false_iff_not] at h
  have G : B1t N nm data l gl procs labels := ⟨F.n1, F.n2, by have := F.N1; omega, by omega, F.d1, by omega, F.d3, by have := F.N1; omega, F.g1, F.g2, by omega, by omega⟩
  rw [if_neg (by decide), B1u G]
  cases hc : Azv nm data l gl procs labels
  · rfl
  rw [if_neg (by decide), Bvz G hc]
  cases Azw l procs labels <;> rfl
def Ah4 (x : Int) : Int := IntKind.wrap .u8 x
def beB (x : Int) : Nat → List Int
  | 0 => []
  | j + 1 => Ah4 (Ax7 .i64 x (8 * (j : Int))) :: beB x j
theorem Aen (x : Int) : ∀ k, (beB x k).length = k
  | 0 => rfl
  | k + 1 => by rw [beB, List.length_cons, Aen x k]
theorem Asy {R : Type} (N : Nat) (x : Int) (b : List Int) (hb : b.length + 1 ≤ 70368744177664) (K : List Int → Option R) : Aaf N x b K = K (b ++ [Ah4 x]) := by
  unfold Aaf Ah4
  rw [if_pos (by simp only [List.length_cons, List.length_nil]; omega)]
theorem Ccp {R : Type} (N : Nat) (x : Int) (K : List Int → Option R) : ∀ (j k : Nat) (b : List Int), j < k → j ≤ 8 → b.length + j ≤ 70368744177664 → Ada N k x ((j : Int) - 1) b K = K (b ++ beB x j) := by
  intro j
  induction j with
  | zero =>
    intro k b hk _ _
    obtain ⟨k, rfl⟩ := exk hk
    simp only [Ada, Aqr]
    rw [if_neg (by simp), beB, List.append_nil]
  | succ j ih =>
    intro k b hk h8 hb
    obtain ⟨k, rfl⟩ := exk hk
    simp only [Ada, Aqr]
    have h1 : ((j + 1 : Nat) : Int) - 1 = (j : Int) := by omega
    have hw : wi (8 * (j : Int)) = 8 * (j : Int) := Ad7 (by omega) (by omega)
    rw [h1, if_pos (by simp), hw, if_neg (by omega), Asy _ _ _ (by omega), Ad7 (by omega) (by omega), ih k _ (by omega) (by omega) (by rw [List.length_append]; simp only [List.length_cons, List.length_nil]; omega),
      List.append_assoc]
    rfl
theorem A30 {R : Type} (N : Nat) (x : Int) (j : Nat) (b : List Int) (hN : 8 < N) (h8 : j ≤ 8) (hb : b.length + j ≤ 70368744177664) (K : List Int → Option R) : Aam N x (j : Int) b K = K (b ++ beB x j) := by
  simp only [Aam, A02]
  rw [Ad7 (by omega) (by omega)]
  exact Ccp N x K j N b (by omega) h8 hb
def bytesOf (s : List UInt8) : List Int := s.map fun b => ((b.toNat : Nat) : Int)
theorem B71 {R : Type} (N : Nat) (s : List UInt8) (b : List Int) (hb : b.length + 1 + s.length ≤ 70368744177664) (K : List Int → Option R) : Abn N s b K = K (b ++ (Ah4 s.length :: bytesOf s)) := by
  simp only [Abn, Ayy]
  rw [Asy _ _ _ (by omega), if_pos (by simp only [List.length_append, List.length_map, List.length_cons, List.length_nil]; omega), List.append_assoc]
  rfl
def Afd (op : Int) : Int := if op = 24 then 1 else if op = 29 then 2 else if op = 30 then 4 else 0
def Ae5 (c : Int) : Int := List.getD [(0 : Int), 1, 2, 4] c.toNat 0
def Ajh (x : Int) : Int := if x = 0 then 0 else if -128 ≤ x ∧ x ≤ 127 then 1 else if -32768 ≤ x ∧ x ≤ 32767 then 2 else 3
theorem Bqn {R : Type} (N : Nat) (op : Int) (K : Int → Option R) : Abg N op K = K (Afd op) := by
  unfold Abg Afd
  simp only [beq_iff_eq]
  repeat' split
  all_goals rfl
theorem Bqo {R : Type} (N : Nat) (c : Int) (h : 0 ≤ c ∧ c < 4) (K : Int → Option R) : Acp N c K = K (Ae5 c) := by
  unfold Acp Ae5; rw [if_pos h]
theorem Bqp {R : Type} (N : Nat) (x : Int) (K : Int → Option R) : Acf N x K = K (Ajh x) := by
  unfold Acf Ajh
  simp only [beq_iff_eq, decide_eq_true_eq, ge_iff_le]
  by_cases h0 : x = 0
  · simp [h0]
  by_cases h1 : -128 ≤ x
  · by_cases h2 : x ≤ 127
    · simp [h0, h1, h2]
    · by_cases h3 : x ≤ 32767
      · simp [h0, h1, h2, h3, show -32768 ≤ x by omega]
      · simp [h0, h1, h2, h3, show -32768 ≤ x by omega]
  · by_cases h3 : -32768 ≤ x
    · simp [h0, h1, h3, show x ≤ 32767 by omega]
    · simp [h0, h1, h3]
theorem Bc5 (x : Int) : 0 ≤ Ajh x ∧ Ajh x < 4 := by
  unfold Ajh; repeat' split
  all_goals omega
theorem Amp {c : Int} (h : 0 ≤ c ∧ c < 4) : 0 ≤ Ae5 c ∧ Ae5 c ≤ 4 := by
  have : c = 0 ∨ c = 1 ∨ c = 2 ∨ c = 3 := by omega
  rcases this with rfl | rfl | rfl | rfl <;> decide
theorem Amq (op : Int) : 0 ≤ Afd op ∧ Afd op ≤ 4 := by
  unfold Afd; repeat' split
  all_goals omega
def Bqq : Nat → Int → List Int → Int
  | _, s, [] => s
  | i, s, b :: r => Bqq (i + 1) (Bn7 .i64 (wi (s + (wi (wi ((i : Int) + 1) * (wi b))))) 4294967295) r
theorem Ccq {R : Type} (N : Nat) (l : List Int) (hl : l.length ≤ 1099511627776) (K : Int → Option R) : ∀ (k i : Nat) (s : Int), i ≤ l.length → l.length - i < k → Aht N k s l (len l) i K = K (Bqq i s (l.drop i)) := by
  intro k
  induction k with
  | zero => intro i _ _ h; omega
  | succ k ih =>
    intro i s hi hk
    simp only [Aht, Bey]
    by_cases hlt : i < l.length
    case neg =>
      rw [if_neg (by simp [len]; omega), List.drop_eq_nil_of_le (by omega)]; rfl
    have hin : (0 : Int) ≤ i ∧ (i : Int) < len l := by simp only [len]; omega
    rw [if_pos (by simp [len]; omega), if_pos hin, Ac7 _ _ hlt, List.drop_eq_getElem_cons hlt, Bqq, Abo (by omega), ih (i + 1) _ (by omega) (by omega)]
theorem Cfy {R : Type} (N : Nat) (l : List Int) (hl : l.length ≤ 1099511627776) (hN : l.length < N) (K : Int → Option R) : Afv N l K = K (Bqq 0 0 l) := by
  simp only [Afv, Blj]
  have := Ccq N l hl K N 0 0 (by omega) (by omega)
  rw [List.drop_zero] at this
  exact this
def Aed : OpL → List Int → Int → Int × List Int
  | x :: r, c :: cs, off =>
    let q := Aed r cs (if x.1 = 19 then off else off + (1 + Ae5 c + Afd x.1))
    (q.1, off :: q.2)
  | _, _, off => (off, [])
theorem A3u : ∀ (l : OpL) (cs : List Int) (off : Int), cs.length = l.length → (Aed l cs off).2.length = l.length
  | [], [], _, _ => rfl
  | x :: r, c :: cs, off, h => by
    simp only [Aed, List.length_cons]
    rw [A3u r cs _ (by simpa using h)]
theorem Ccr {R : Type} (N : Nat) (l : OpL) (cs : List Int) (hc : cs.length = l.length) (hl : l.length ≤ 1099511627776) (hcs : ∀ n, 0 ≤ cs.getD n 0 ∧ cs.getD n 0 < 4) (e1 : Int) (e2 e3 e4 : List Int) (K : Int → List Int → Int → List Int → List Int → List Int → Option R) :
    ∀ (k i : Nat) (off : Int) (acc : List Int), i ≤ l.length → l.length - i < k → 0 ≤ off → off ≤ 9 * i → acc.length = i →
      Ae7 N k cs l (len l) i e1 e2 off e3 e4 acc K = K e1 e2 (Aed (l.drop i) (cs.drop i) off).1 e3 e4 (acc ++ (Aed (l.drop i) (cs.drop i) off).2) := by
  intro k
  induction k with
  | zero => intro i _ _ _ h; omega
  | succ k ih =>
    intro i off acc hi hk h0 h9 ha
    simp only [Ae7, A46]
    by_cases hlt : i < l.length
    case neg =>
      rw [if_neg (by simp [len]; omega), List.drop_eq_nil_of_le (by omega)]
      simp [Aed]
    have hltc : i < cs.length := by omega
    have hin : (0 : Int) ≤ i ∧ (i : Int) < len l := by simp only [len]; omega
    have hinc : (0 : Int) ≤ i ∧ (i : Int) < len cs := by simp only [len]; omega
    have hci := hcs i
    rw [show cs.getD i 0 = cs[i] by simp [List.getD_eq_getElem?_getD, hltc]] at hci
    have hw := Amp hci
    rw [if_pos (by simp [len]; omega), if_pos hin, Ac7 _ _ hlt, Abo (by omega), List.drop_eq_getElem_cons hlt, List.drop_eq_getElem_cons hltc, Aed,
      if_pos (by simp only [List.length_cons, List.length_nil]; omega)]
    obtain ⟨x, hx⟩ : ∃ x, l[i] = x := ⟨_, rfl⟩
    simp only [hx]
    have he := Amq x.1
    by_cases h19 : x.1 = 19
    · rw [if_neg (by simpa using h19), if_pos h19, ih (i + 1) off _ (by omega) (by omega) h0 (by omega) (by simp [ha]), List.append_assoc]; rfl
    · have hoff : wi (off + wi (wi (1 + Ae5 cs[i]) + Afd x.1)) = off + (1 + Ae5 cs[i] + Afd x.1) := by
        rw [Ad7 (i := 1 + Ae5 cs[i]) (by omega) (by omega), Ad7 (i := 1 + Ae5 cs[i] + Afd x.1) (by omega) (by omega), Ad7 (by omega) (by omega)]
      rw [if_pos (by simpa using h19), if_neg h19, if_pos hinc, Ac7 _ _ hltc, Bqo _ _ hci, Bqn, hoff, ih (i + 1) _ _ (by omega) (by omega) (by omega) (by omega) (by simp [ha]), List.append_assoc]; rfl
theorem Ca6 {R : Type} (N : Nat) (l : OpL) (cs : List Int) (hc : cs.length = l.length) (hl : l.length ≤ 1099511627776) (hN : l.length < N) (hcs : ∀ n, 0 ≤ cs.getD n 0 ∧ cs.getD n 0 < 4) (K : List Int → Int → List Int → Option R) :
    Aew N l cs K = K cs (Aed l cs 0).1 (Aed l cs 0).2 := by
  simp only [Aew, Ba3]
  have := Ccr (R := R) N l cs hc hl hcs 0 cs [] [] (fun y0 y1 y2 y3 y4 y5 => K y1 y2 y5) N 0 0 [] (by omega) (by omega) (by omega) (by omega) rfl
  rw [List.drop_zero, List.drop_zero, List.nil_append] at this
  exact this
abbrev Alu := List (Int × Int)
def Bhx (k v : Int) (m : Alu) : Alu := Asn (kt := (.int .i64)) (et := (.int .i64)) k v m
def Ahb (k : Int) (m : Alu) : Int := Option.getD (Aov (kt := (.int .i64)) (et := (.int .i64)) k m) (0 : Int)
theorem Ccs (P : Int → Prop) (k v : Int) (hv : P v) : ∀ m : Alu, (∀ e, e ∈ m → P e.2) → ∀ e, e ∈ Bhx k v m → P e.2 := by
  intro m
  induction m with
  | nil => intro _ e he; simp only [Bhx, Asn, List.mem_singleton] at he; subst he; exact hv
  | cons a r ih =>
    obtain ⟨k', v'⟩ := a
    intro h e he
    simp only [Bhx, Asn] at he
    split at he
    · rcases List.mem_cons.mp he with h1 | h1
      · subst h1; exact hv
      · exact h e (List.mem_cons_of_mem _ h1)
    · rcases List.mem_cons.mp he with h1 | h1
      · subst h1; exact h _ (List.mem_cons_self ..)
      · exact ih (fun e he => h e (List.mem_cons_of_mem _ he)) e h1
theorem Cct (P : Int → Prop) (k : Int) (h0 : P 0) : ∀ m : Alu, (∀ e, e ∈ m → P e.2) → P (Ahb k m) := by
  intro m
  induction m with
  | nil => intro _; exact h0
  | cons a r ih =>
    obtain ⟨k', v'⟩ := a
    intro h
    simp only [Ahb, Aov]
    split
    · exact h _ (List.mem_cons_self ..)
    · exact ih (fun e he => h e (List.mem_cons_of_mem _ he))
def Ado : Nat → OpL → Alu → Alu
  | _, [], m => m
  | i, x :: r, m => Ado (i + 1) r (if x.1 = 19 then Bhx x.2.1 i m else m)
theorem Ca7 {R : Type} (N : Nat) (l : OpL) (hl : l.length ≤ 1099511627776) (K : Alu → Option R) : ∀ (k i : Nat) (m : Alu), i ≤ l.length → l.length - i < k →
    Aft N k l (len l) i m K = K (Ado i (l.drop i) m) := by
  intro k
  induction k with
  | zero => intro i _ _ h; omega
  | succ k ih =>
    intro i m hi hk
    simp only [Aft, A67]
    by_cases hlt : i < l.length
    case neg =>
      rw [if_neg (by simp [len]; omega), List.drop_eq_nil_of_le (by omega)]; rfl
    have hin : (0 : Int) ≤ i ∧ (i : Int) < len l := by simp only [len]; omega
    rw [if_pos (by simp [len]; omega), if_pos hin, Ac7 _ _ hlt, Abo (by omega), List.drop_eq_getElem_cons hlt, Ado]
    obtain ⟨x, hx⟩ : ∃ x, l[i] = x := ⟨_, rfl⟩
    simp only [hx]
    by_cases h19 : x.1 = 19
    · rw [if_pos (by simpa using h19), if_pos h19]
      exact ih (i + 1) _ (by omega) (by omega)
    · rw [if_neg (by simpa using h19), if_neg h19]
      exact ih (i + 1) _ (by omega) (by omega)
theorem Ccu {R : Type} (N : Nat) (l : OpL) (hl : l.length ≤ 1099511627776) (hN : l.length < N) (K : Alu → Option R) : Agr N l K = K (Ado 0 l []) := by
  simp only [Agr, Bet]
  have := Ca7 N l hl K N 0 [] (by omega) (by omega)
  rw [List.drop_zero] at this
  exact this
theorem Ca8 (L : Nat) : ∀ (l : OpL) (i : Nat) (m : Alu), i + l.length ≤ L → (∀ e, e ∈ m → 0 ≤ e.2 ∧ e.2 < (L : Int)) → ∀ e, e ∈ Ado i l m → 0 ≤ e.2 ∧ e.2 < (L : Int) := by
  intro l
  induction l with
  | nil => intro i m _ h; exact h
  | cons x r ih =>
    intro i m hL h
    rw [List.length_cons] at hL
    rw [Ado]
    refine ih (i + 1) _ (by omega) ?_
    split
    · exact Ccs (fun v => 0 ≤ v ∧ v < (L : Int)) _ _ (by omega) m h
    · exact h
theorem Bly (l : OpL) (n : Int) (h : 0 < l.length) : 0 ≤ Ahb n (Ado 0 l []) ∧ Ahb n (Ado 0 l []) < l.length :=
  Cct (fun v => 0 ≤ v ∧ v < (l.length : Int)) n (by omega) _ (Ca8 l.length l 0 [] (by omega) (fun e he => by cases he))
def Bc6 : Nat → OpL → List Int → List Int
  | _, [], s => s
  | i, x :: r, s => Bc6 (i + 1) r (if Aae x = 0 ∨ x.1 = 30 then s.set i (Ajh x.2.1) else s)
theorem Ca9 {R : Type} (N : Nat) (l : OpL) (hl : l.length ≤ 1099511627776) (e0 : OpL) (e4 : Alu) (e5 : Int) (e7 e8 : List Int) (K : OpL → Alu → Int → List Int → List Int → List Int → Option R) : ∀ (k i : Nat) (s : List Int), i ≤ l.length → l.length - i < k → s.length = l.length →
    Aeq N k e0 l (len l) i e4 e5 s e7 e8 K = K e0 e4 e5 (Bc6 i (l.drop i) s) e7 e8 := by
  intro k
  induction k with
  | zero => intro i _ _ h; omega
  | succ k ih =>
    intro i s hi hk hs
    simp only [Aeq, Ba0]
    by_cases hlt : i < l.length
    case neg =>
      rw [if_neg (by simp [len]; omega), List.drop_eq_nil_of_le (by omega)]; rfl
    have hin : (0 : Int) ≤ i ∧ (i : Int) < len l := by simp only [len]; omega
    have hins : (0 : Int) ≤ i ∧ (i : Int) < len s := by simp only [len]; omega
    rw [if_pos (by simp [len]; omega), if_pos hin, Ac7 _ _ hlt, Abo (by omega), List.drop_eq_getElem_cons hlt, Bc6]
    obtain ⟨x, hx⟩ : ∃ x, l[i] = x := ⟨_, rfl⟩
    simp only [hx, Aua]
    rw [show (x.1, x.2.1, x.2.2) = x from rfl]
    by_cases h0 : Aae x = 0
    · rw [if_pos (by simpa using h0), if_pos (.inl h0), Bqp, if_pos hins, Int.toNat_natCast]
      exact ih (i + 1) _ (by omega) (by omega) (by rw [List.length_set]; exact hs)
    rw [if_neg (by simpa using h0)]
    by_cases h30 : x.1 = 30
    · rw [if_pos (by simpa using h30), if_pos (.inr h30), Bqp, if_pos hins, Int.toNat_natCast]
      exact ih (i + 1) _ (by omega) (by omega) (by rw [List.length_set]; exact hs)
    · rw [if_neg (by simpa using h30), if_neg (show ¬(Aae x = 0 ∨ x.1 = 30) by intro h; rcases h with h | h; exact h0 h; exact h30 h)]
      exact ih (i + 1) _ (by omega) (by omega) hs
theorem Blz : ∀ (l : OpL) (cs : List Int) (off : Int), cs.length = l.length → (∀ n, 0 ≤ cs.getD n 0 ∧ cs.getD n 0 < 4) → 0 ≤ off →
    (off ≤ (Aed l cs off).1 ∧ (Aed l cs off).1 ≤ off + 9 * l.length) ∧ ∀ n, 0 ≤ (Aed l cs off).2.getD n 0 ∧ (Aed l cs off).2.getD n 0 ≤ off + 9 * l.length
  | [], [], off, _, _, h => by simp [Aed]; omega
  | x :: r, c :: cs, off, hl, hc, h => by
    have h0 : 0 ≤ c ∧ c < 4 := hc 0
    have hw := Amp h0
    have he := Amq x.1
    have hs : ∀ n, 0 ≤ cs.getD n 0 ∧ cs.getD n 0 < 4 := fun n => hc (n + 1)
    have h2 := Blz r cs (if x.1 = 19 then off else off + (1 + Ae5 c + Afd x.1)) (by simpa using hl) hs (by split <;> omega)
    have h3 : off ≤ (if x.1 = 19 then off else off + (1 + Ae5 c + Afd x.1)) ∧ (if x.1 = 19 then off else off + (1 + Ae5 c + Afd x.1)) ≤ off + 9 := by split <;> omega
    simp only [Aed, List.length_cons]
    refine ⟨by omega, fun n => ?_⟩
    cases n with
    | zero => simp only [List.getD_cons_zero]; omega
    | succ n =>
      simp only [List.getD_cons_succ]
      have := h2.2 n
      omega
def A0l (at' cs : List Int) (l : OpL) (i : Nat) : Int := at'.getD i 0 + 1 + Ae5 (cs.getD i 0) + Afd (Abd l i).1
theorem B1y {R : Type} (N : Nat) (at' cs : List Int) (e : Int) (l : OpL) (i : Nat) (hi : i < l.length) (ha : at'.length = l.length) (hc : cs.length = l.length) (hcs : ∀ n, 0 ≤ cs.getD n 0 ∧ cs.getD n 0 < 4)
    (hv : ∀ n, 0 ≤ at'.getD n 0 ∧ at'.getD n 0 ≤ 1099511627776000) (K : Int → Option R) : Aay N at' cs e l i K = K (A0l at' cs l i) := by
  simp only [Aay, A0z]
  have hw := Amp (hcs i)
  have he := Amq (Abd l i).1
  have hvi := hv i
  rw [if_pos (by simp only [len]; omega), if_pos (by simp only [len]; omega), Int.toNat_natCast, Bqo _ _ (hcs i), if_pos (by simp only [len]; omega), Bqn]
  unfold A0l
  show K (wi (wi (wi (at'.getD i 0 + 1) + Ae5 (cs.getD i 0)) + Afd (Abd l i).1)) = _
  rw [Ad7 (i := at'.getD i 0 + 1) (by omega) (by omega), Ad7 (i := at'.getD i 0 + 1 + Ae5 (cs.getD i 0)) (by omega) (by omega), Ad7 (by omega) (by omega)]
def Amr (mk : Alu) (at' cs : List Int) (l : OpL) (i : Nat) (n : Int) : Int := at'.getD (Ahb n mk).toNat 0 - A0l at' cs l i
def Ajw (mk : Alu) (at' cs : List Int) (l : OpL) : Nat → OpL → Bool → List Int → Bool × List Int
  | _, [], b, s => (b, s)
  | i, x :: r, b, s =>
    if 0 < Aae x ∧ x.1 ≠ 30 ∧ cs.getD i 0 < Ajh (Amr mk at' cs l i x.2.1) then Ajw mk at' cs l (i + 1) r true (s.set i (Ajh (Amr mk at' cs l i x.2.1)))
    else Ajw mk at' cs l (i + 1) r b s
theorem B9c {R : Type} (N : Nat) (l : OpL) (hl : l.length ≤ 1099511627776) (mk : Alu) (at' cs : List Int) (ha : at'.length = l.length) (hc : cs.length = l.length) (hcs : ∀ n, 0 ≤ cs.getD n 0 ∧ cs.getD n 0 < 4)
    (hv : ∀ n, 0 ≤ at'.getD n 0 ∧ at'.getD n 0 ≤ 1099511627776000) (hm : ∀ n, 0 < l.length → 0 ≤ Ahb n mk ∧ Ahb n mk < l.length) (e7 e9 : Int) (e11 e12 : List Int)
    (K : OpL → Bool → Alu → Int → List Int → Int → List Int → List Int → List Int → List Int → Option R) : ∀ (k i : Nat) (b : Bool) (s : List Int), i ≤ l.length → l.length - i < k → s.length = l.length →
    Ad0 N k l cs b l (len l) i mk e7 cs e9 s e11 e12 at' K = K l (Ajw mk at' cs l i (l.drop i) b s).1 mk e7 cs e9 (Ajw mk at' cs l i (l.drop i) b s).2 e11 e12 at' := by
  intro k
  induction k with
  | zero => intro i _ _ _ h; omega
  | succ k ih =>
    intro i b s hi hk hs
    simp only [Ad0, A7b]
    by_cases hlt : i < l.length
    case neg =>
      rw [if_neg (by simp [len]; omega), List.drop_eq_nil_of_le (by omega)]; rfl
    have hin : (0 : Int) ≤ i ∧ (i : Int) < len l := by simp only [len]; omega
    have hins : (0 : Int) ≤ i ∧ (i : Int) < len s := by simp only [len]; omega
    have hinc : (0 : Int) ≤ i ∧ (i : Int) < len cs := by simp only [len]; omega
    rw [if_pos (by simp [len]; omega), if_pos hin, Ac7 _ _ hlt, Abo (by omega), List.drop_eq_getElem_cons hlt, Ajw]
    obtain ⟨x, hx⟩ : ∃ x, l[i] = x := ⟨_, rfl⟩
    simp only [hx, Aua]
    rw [show (x.1, x.2.1, x.2.2) = x from rfl]
    by_cases h0 : Aae x > 0
    case neg =>
      rw [if_neg (by simpa using h0), if_neg (fun h => h0 h.1)]
      exact ih (i + 1) _ _ (by omega) (by omega) hs
    rw [if_pos (by simpa using h0)]
    by_cases h30 : x.1 = 30
    · rw [if_neg (by simpa using h30), if_neg (fun h => h.2.1 h30)]
      exact ih (i + 1) _ _ (by omega) (by omega) hs
    have hmk := hm x.2.1 (by omega)
    have hfar : wi (at'.getD (Ahb x.2.1 mk).toNat 0 - A0l at' cs l i) = Amr mk at' cs l i x.2.1 := by
      have h1 := hv (Ahb x.2.1 mk).toNat
      have h2 := hv i
      have h3 := Amp (hcs i)
      have h4 := Amq (Abd l i).1
      unfold Amr
      exact Ad7 (by unfold A0l; omega) (by unfold A0l; omega)
    rw [if_pos (by simpa using h30)]
    change (if 0 ≤ Ahb x.2.1 mk ∧ Ahb x.2.1 mk < len at' then Aay N at' cs e9 l (i : Int) (fun y1 => Acf N (wi (at'.getD (Int.toNat (Ahb x.2.1 mk)) 0 - y1)) (fun y2 => _)) else none) = _
    rw [if_pos (show 0 ≤ Ahb x.2.1 mk ∧ Ahb x.2.1 mk < len at' by simp only [len]; omega), B1y N at' cs e9 l i hlt ha hc hcs hv, Bqp, if_pos hinc]
    show (if decide (Ajh (wi (at'.getD (Ahb x.2.1 mk).toNat 0 - A0l at' cs l i)) > cs.getD i 0) = true then _ else _) = _
    rw [hfar]
    by_cases hg : cs.getD i 0 < Ajh (Amr mk at' cs l i x.2.1)
    · rw [if_pos (by simpa using hg), if_pos hins, if_pos ⟨h0, h30, hg⟩]
      rw [Int.toNat_natCast]
      exact ih (i + 1) _ _ (by omega) (by omega) (by rw [List.length_set]; exact hs)
    · rw [if_neg (by simpa using hg), if_neg (fun h => hg h.2.2)]
      exact ih (i + 1) _ _ (by omega) (by omega) hs
theorem B9v : ∀ (s : List Int) (i : Nat) (v : Int), i < s.length → (s.set i v).sum = s.sum - s.getD i 0 + v
  | x :: r, 0, v, _ => by simp only [List.set_cons_zero, List.sum_cons, List.getD_cons_zero]; omega
  | x :: r, i + 1, v, h => by
    have := B9v r i v (by simpa using h)
    simp only [List.set_cons_succ, List.sum_cons, List.getD_cons_succ, this]; omega
def Al8 (L : Nat) (s : List Int) : Prop := s.length = L ∧ ∀ n, 0 ≤ s.getD n 0 ∧ s.getD n 0 < 4
theorem Ak8 (s : List Int) (i n : Nat) (v : Int) : (s.set i v).getD n 0 = if i = n ∧ i < s.length then v else s.getD n 0 := by
  rw [List.getD_eq_getElem?_getD, List.getElem?_set]
  by_cases h : i = n
  · subst h
    by_cases h2 : i < s.length
    · simp [h2]
    · simp [h2]
  · simp [h, List.getD_eq_getElem?_getD]
theorem Byx {L : Nat} {s : List Int} (h : Al8 L s) (i : Nat) (v : Int) (hv : 0 ≤ v ∧ v < 4) : Al8 L (s.set i v) :=
  ⟨by rw [List.length_set]; exact h.1, fun n => by rw [Ak8]; split; exact hv; exact h.2 n⟩
theorem An5 : ∀ {s : List Int} {L : Nat}, Al8 L s → 0 ≤ s.sum ∧ s.sum ≤ 3 * L
  | [], L, h => by simp; omega
  | x :: r, L, h => by
    have h0 : 0 ≤ x ∧ x < 4 := h.2 0
    have hl := h.1
    rw [List.length_cons] at hl
    have := An5 (s := r) (L := L - 1) ⟨by omega, fun n => h.2 (n + 1)⟩
    rw [List.sum_cons]; omega
theorem Bv0 (mk : Alu) (at' cs : List Int) (l : OpL) (L : Nat) : ∀ (r : OpL) (i : Nat) (b : Bool) (s : List Int), i + r.length ≤ L → Al8 L s → (∀ j, i ≤ j → s.getD j 0 = cs.getD j 0) →
    Al8 L (Ajw mk at' cs l i r b s).2 ∧ s.sum ≤ (Ajw mk at' cs l i r b s).2.sum ∧ ((Ajw mk at' cs l i r b s).1 = true → b = true ∨ s.sum < (Ajw mk at' cs l i r b s).2.sum) := by
  intro r
  induction r with
  | nil => intro i b s _ hs _; exact ⟨hs, Int.le_refl _, fun h => .inl h⟩
  | cons x r ih =>
    intro i b s hi hs hj
    rw [List.length_cons] at hi
    rw [Ajw]
    by_cases hc : 0 < Aae x ∧ x.1 ≠ 30 ∧ cs.getD i 0 < Ajh (Amr mk at' cs l i x.2.1)
    · rw [if_pos hc]
      obtain ⟨a1, a2, a3⟩ := ih (i + 1) true (s.set i (Ajh (Amr mk at' cs l i x.2.1))) (by omega) (Byx hs i _ (Bc5 _)) (fun j hij => by
        rw [Ak8, if_neg (by omega)]; exact hj j (by omega))
      have hss := B9v s i (Ajh (Amr mk at' cs l i x.2.1)) (by have := hs.1; omega)
      have := hj i (Nat.le_refl i)
      refine ⟨a1, by omega, fun _ => .inr (by omega)⟩
    · rw [if_neg hc]
      exact ih (i + 1) b s (by omega) hs (fun j hij => hj j (by omega))
def Aw0 (mk : Alu) (l : OpL) : Nat → List Int → List Int × Int × List Int
  | 0, s => (s, 0, [])
  | f + 1, s =>
    let q := Aed l s 0
    let g := Ajw mk q.2 s l 0 l false s
    if g.1 = true then Aw0 mk l f g.2 else (s, q.1, q.2)
theorem B9d {R : Type} (N : Nat) (l : OpL) (hl : l.length ≤ 1000000) (hN : l.length < N) (mk : Alu) (hm : ∀ n, 0 < l.length → 0 ≤ Ahb n mk ∧ Ahb n mk < l.length) (e : Int) (e4 e5 : List Int)
    (K : Alu → List Int → Int → List Int → Option R) : ∀ (k f : Nat) (s : List Int), Al8 l.length s → 3 * l.length - s.sum < k → 3 * l.length - s.sum < f →
    Adk N k l mk e s e4 e5 K = K mk (Aw0 mk l f s).1 (Aw0 mk l f s).2.1 (Aw0 mk l f s).2.2 := by
  intro k
  induction k with
  | zero => intro f s hs h _; have := An5 hs; omega
  | succ k ih =>
    intro f s hs hk hf
    have hsum := An5 hs
    obtain ⟨f, rfl⟩ : ∃ g, f = g + 1 := ⟨f - 1, by omega⟩
    simp only [Adk, A7e, Aw0]
    have hpv := Blz l s 0 hs.1 hs.2 (by omega)
    rw [Ca6 N l s hs.1 (by omega) hN hs.2, if_pos (by have := hs.1; omega)]
    have h25 := B9c (R := R) N l (by omega) mk (Aed l s 0).2 s (A3u l s 0 hs.1) hs.1 hs.2 (fun n => by have := hpv.2 n; omega) hm e (Aed l s 0).1 e4 e5
      (fun y3 y4 y5 y6 y7 y8 y9 y10 y11 y12 => if ((!y4) = true) then (K y5 y7 y8 y12) else (Adk N k y3 y5 y6 y9 y10 y11 K)) N 0 false s (by omega) (by omega) hs.1
    rw [List.drop_zero] at h25
    refine Eq.trans h25 ?_
    have hg := Bv0 mk (Aed l s 0).2 s l l.length l 0 false s (by omega) hs (fun _ _ => rfl)
    cases hb : (Ajw mk (Aed l s 0).2 s l 0 l false s).1
    · rfl
    · have hlt : s.sum < (Ajw mk (Aed l s 0).2 s l 0 l false s).2.sum := by
        rcases hg.2.2 hb with h | h
        · cases h
        · exact h
      rw [if_neg (by decide), if_pos rfl]
      exact ih f _ hg.1 (by omega) (by omega)
theorem B9w (mk : Alu) (l : OpL) : ∀ (f : Nat) (s : List Int), Al8 l.length s → 3 * l.length - s.sum < f →
    Al8 l.length (Aw0 mk l f s).1 ∧ (Aw0 mk l f s).2 = Aed l (Aw0 mk l f s).1 0 := by
  intro f
  induction f with
  | zero => intro s hs h; have := An5 hs; omega
  | succ f ih =>
    intro s hs hf
    have hg := Bv0 mk (Aed l s 0).2 s l l.length l 0 false s (by omega) hs (fun _ _ => rfl)
    simp only [Aw0]
    cases hb : (Ajw mk (Aed l s 0).2 s l 0 l false s).1
    · rw [if_neg (by decide)]; exact ⟨hs, rfl⟩
    · have hlt : s.sum < (Ajw mk (Aed l s 0).2 s l 0 l false s).2.sum := by
        rcases hg.2.2 hb with h | h
        · cases h
        · exact h
      rw [if_pos rfl]
      exact ih _ hg.1 (by omega)
theorem Bv1 (L : Nat) : ∀ (r : OpL) (i : Nat) (s : List Int), Al8 L s → Al8 L (Bc6 i r s)
  | [], _, _, h => h
  | x :: r, i, s, h => by
    rw [Bc6]
    split
    · exact Bv1 L r _ _ (Byx h i _ (Bc5 _))
    · exact Bv1 L r _ _ h
def A6f (l : OpL) : List Int := Bc6 0 l (List.replicate l.length 0)
theorem Auf (l : OpL) : Al8 l.length (A6f l) :=
  Bv1 _ _ _ _ ⟨by simp, fun n => by rw [List.getD_eq_getElem?_getD, List.getElem?_replicate]; split <;> simp⟩
def Adq (l : OpL) : List Int × Int × List Int := Aw0 (Ado 0 l []) l (3 * l.length + 1) (A6f l)
theorem Cec {R : Type} (N : Nat) (l : OpL) (hl : l.length ≤ 1000000) (hN : 3 * l.length + 1 ≤ N) (hN2 : l.length < N) (K : List Int → Int → Alu → List Int → Option R) :
    Ahr N l (Ado 0 l []) K = K (Adq l).1 (Adq l).2.1 (Ado 0 l []) (Adq l).2.2 := by
  simp only [Ahr, Bii]
  have h0 := An5 (Auf l)
  have h7 := Ca9 (R := R) N l (by omega) l (Ado 0 l []) 0 [] [] (fun y0 y1 y2 y3 y4 y5 => Adk N N y0 y1 y2 y3 y4 y5 (fun y6 y7 y8 y9 => K y7 y8 y6 y9)) N 0 (List.replicate l.length 0) (by omega) (by omega) (by simp)
  rw [List.drop_zero] at h7
  rw [if_pos (by simp only [len]; omega), Int.toNat_natCast]
  refine Eq.trans h7 ?_
  exact B9d N l hl hN2 (Ado 0 l []) (fun n h => Bly l n h) 0 [] [] (fun y6 y7 y8 y9 => K y7 y8 y6 y9) N (3 * l.length + 1) (A6f l) (Auf l) (by omega) (by omega)
def Bi1 (op c n m : Int) : List Int := Ah4 (op + 32 * c) :: (beB n (Ae5 c).toNat ++ beB m (Afd op).toNat)
theorem B72 (op c n m : Int) (hc : 0 ≤ c ∧ c < 4) : (Bi1 op c n m).length ≤ 9 := by
  have := Amp hc
  have := Amq op
  unfold Bi1
  rw [List.length_cons, List.length_append, Aen, Aen]; omega
theorem B73 {R : Type} (N : Nat) (x0 : OpL) (i : Nat) (n m : Int) (x4 : OpL) (x5 x6 x7 : Int) (x8 : Alu) (cs : List Int) (x10 op x12 x13 : Int) (x14 x15 x16 b : List Int) (hi : i < cs.length) (hcs : ∀ n, 0 ≤ cs.getD n 0 ∧ cs.getD n 0 < 4)
    (hop : 0 ≤ op ∧ op ≤ 31) (hN : 8 < N) (hb : b.length + 9 ≤ 70368744177664) (K : OpL → OpL → Int → Int → Int → Alu → List Int → Int → List Int → List Int → List Int → List Int → Option R) :
    Aee N x0 i n m x4 x5 x6 x7 x8 cs x10 op x12 x13 x14 x15 x16 b K = K x0 x4 x5 x6 x7 x8 cs x10 x14 x15 x16 (b ++ Bi1 op (cs.getD i 0) n m) := by
  simp only [Aee, A7g]
  have hc := hcs i
  have hw := Amp hc
  have he := Amq op
  have hin : (0 : Int) ≤ i ∧ (i : Int) < len cs := by simp only [len]; omega
  rw [if_pos hin, Int.toNat_natCast, Asy _ _ _ (by omega), if_pos hin, Bqo _ _ hc]
  have h1 : Ae5 (cs.getD i 0) = ((Ae5 (cs.getD i 0)).toNat : Int) := by omega
  have h2 : Afd op = ((Afd op).toNat : Int) := by omega
  rw [h1, A30 N _ _ _ hN (by omega) (by simp only [List.length_append, List.length_cons, List.length_nil]; omega), Bqn, h2,
    A30 N _ _ _ hN (by omega) (by simp only [List.length_append, List.length_cons, List.length_nil, Aen]; omega)]
  have hop2 : wi (op + wi (32 * cs.getD i 0)) = op + 32 * cs.getD i 0 := by rw [Ad7 (i := 32 * cs.getD i 0) (by omega) (by omega), Ad7 (by omega) (by omega)]
  rw [hop2, List.append_assoc, List.append_assoc]
  rfl
def opB (mk : Alu) (at' cs : List Int) (l : OpL) (i : Nat) (x : Int × Int × Int) : List Int :=
  if x.1 = 19 then [] else if x.1 = 30 then Bi1 x.1 (cs.getD i 0) x.2.1 (Amr mk at' cs l i x.2.2)
  else if 0 < Aae x then Bi1 x.1 (cs.getD i 0) (Amr mk at' cs l i x.2.1) x.2.2 else Bi1 x.1 (cs.getD i 0) x.2.1 x.2.2
def Bcb (mk : Alu) (at' cs : List Int) (l : OpL) : Nat → OpL → List Int
  | _, [] => []
  | i, x :: r => opB mk at' cs l i x ++ Bcb mk at' cs l (i + 1) r
theorem Ccv {R : Type} (N : Nat) (l : OpL) (hl : l.length ≤ 1000000) (hN : 8 < N) (mk : Alu) (at' cs : List Int) (ha : at'.length = l.length) (hc : cs.length = l.length) (hcs : ∀ n, 0 ≤ cs.getD n 0 ∧ cs.getD n 0 < 4)
    (hv : ∀ n, 0 ≤ at'.getD n 0 ∧ at'.getD n 0 ≤ 1099511627776000) (hm : ∀ n, 0 < l.length → 0 ≤ Ahb n mk ∧ Ahb n mk < l.length) (hop : ∀ x, x ∈ l → 1 ≤ x.1 ∧ x.1 ≤ 30) (e4 e7 : Int) (e8 e9 : List Int)
    (K : Int → List Int → Int → List Int → List Int → List Int → List Int → Option R) : ∀ (k i : Nat) (b : List Int), i ≤ l.length → l.length - i < k → b.length ≤ 9 * i →
    Aey N k l l (len l) i e4 mk cs e7 e8 e9 at' b K = K e4 cs e7 e8 e9 at' (b ++ Bcb mk at' cs l i (l.drop i)) := by
  intro k
  induction k with
  | zero => intro i _ _ h; omega
  | succ k ih =>
    intro i b hi hk hb
    simp only [Aey, A7i]
    by_cases hlt : i < l.length
    case neg =>
      rw [if_neg (by simp [len]; omega), List.drop_eq_nil_of_le (by omega), Bcb, List.append_nil]
    have hin : (0 : Int) ≤ i ∧ (i : Int) < len l := by simp only [len]; omega
    have hop' := hop l[i] (List.getElem_mem hlt)
    rw [if_pos (by simp [len]; omega), if_pos hin, Ac7 _ _ hlt, List.drop_eq_getElem_cons hlt, Bcb]
    obtain ⟨x, hx⟩ : ∃ x, l[i] = x := ⟨_, rfl⟩
    simp only [hx, Aua] at hop' ⊢
    rw [show (x.1, x.2.1, x.2.2) = x from rfl]
    have hfar : ∀ n, wi (at'.getD (Ahb n mk).toNat 0 - A0l at' cs l i) = Amr mk at' cs l i n := by
      intro n
      have h1 := hv (Ahb n mk).toNat
      have h2 := hv i
      have h3 := Amp (hcs i)
      have h4 := Amq (Abd l i).1
      unfold Amr
      exact Ad7 (by unfold A0l; omega) (by unfold A0l; omega)
    have hil := B72 x.1 (cs.getD i 0)
    unfold opB
    by_cases h19 : x.1 = 19
    · rw [if_pos (by simpa using h19), if_pos h19, Abo (by omega), List.nil_append]
      exact ih (i + 1) b (by omega) (by omega) (by omega)
    rw [if_neg (by simpa using h19), if_neg h19]
    by_cases h30 : x.1 = 30
    · rw [if_pos (by simpa using h30), if_pos h30]
      have hmk := hm x.2.2 (by omega)
      change (if 0 ≤ Ahb x.2.2 mk ∧ Ahb x.2.2 mk < len at' then Aay N at' cs e7 l (i : Int) (fun y0 => Aee N l i x.2.1 (wi (at'.getD (Int.toNat (Ahb x.2.2 mk)) 0 - y0)) l (len l) i e4 mk cs e7 x.1 x.2.1 x.2.2 e8 e9 at' b _) else none) = _
      rw [if_pos (by simp only [len]; omega), B1y N at' cs e7 l i hlt ha hc hcs hv, B73 N _ _ _ _ _ _ _ _ _ _ _ _ _ _ _ _ _ _ (by omega) hcs (by omega) hN (by omega), hfar, Abo (by omega), ih (i + 1) _ (by omega) (by omega) (by have := hil x.2.1 (Amr mk at' cs l i x.2.2) (hcs i); rw [List.length_append]; omega), List.append_assoc]
    rw [if_neg (by simpa using h30), if_neg h30]
    by_cases h0 : Aae x > 0
    · rw [if_pos (by simpa using h0), if_pos h0]
      have hmk := hm x.2.1 (by omega)
      change (if 0 ≤ Ahb x.2.1 mk ∧ Ahb x.2.1 mk < len at' then Aay N at' cs e7 l (i : Int) (fun y0 => Aee N l i (wi (at'.getD (Int.toNat (Ahb x.2.1 mk)) 0 - y0)) x.2.2 l (len l) i e4 mk cs e7 x.1 x.2.1 x.2.2 e8 e9 at' b _) else none) = _
      rw [if_pos (by simp only [len]; omega), B1y N at' cs e7 l i hlt ha hc hcs hv, B73 N _ _ _ _ _ _ _ _ _ _ _ _ _ _ _ _ _ _ (by omega) hcs (by omega) hN (by omega), hfar, Abo (by omega), ih (i + 1) _ (by omega) (by omega) (by have := hil (Amr mk at' cs l i x.2.1) x.2.2 (hcs i); rw [List.length_append]; omega), List.append_assoc]
    · rw [if_neg (by simpa using h0), if_neg h0, B73 N _ _ _ _ _ _ _ _ _ _ _ _ _ _ _ _ _ _ (by omega) hcs (by omega) hN (by omega), Abo (by omega), ih (i + 1) _ (by omega) (by omega) (by have := hil x.2.1 x.2.2 (hcs i); rw [List.length_append]; omega), List.append_assoc]
def Am6 (l : OpL) : List Int := Bcb (Ado 0 l []) (Adq l).2.2 (Adq l).1 l 0 l
theorem Ced {R : Type} (N : Nat) (l : OpL) (hl : l.length ≤ 1000000) (hN : 3 * l.length + 9 ≤ N) (hop : ∀ x, x ∈ l → 1 ≤ x.1 ∧ x.1 ≤ 30) (K : List Int → Int → List Int → List Int → Option R) :
    Alz N l K = K (Adq l).1 (Adq l).2.1 (Am6 l) (Adq l).2.2 := by
  simp only [Alz, Bik]
  rw [Ccu N l (by omega) (by omega), Cec N l hl (by omega) (by omega)]
  have h0 := An5 (Auf l)
  have hok := B9w (Ado 0 l []) l (3 * l.length + 1) (A6f l) (Auf l) (by omega)
  have h2 : (Adq l).2.2 = (Aed l (Adq l).1 0).2 := by rw [show (Adq l).2 = Aed l (Adq l).1 0 from hok.2]
  have hs : Al8 l.length (Adq l).1 := hok.1
  have hpv := Blz l (Adq l).1 0 hs.1 hs.2 (by omega)
  have := Ccv (R := R) N l hl (by omega) (Ado 0 l []) (Adq l).2.2 (Adq l).1 (by rw [h2]; exact A3u l _ 0 hs.1) hs.1 hs.2 (fun n => by rw [h2]; have := hpv.2 n; omega) (fun n h => Bly l n h) hop 0 (Adq l).2.1 [] []
    (fun y5 y6 y7 y8 y9 y10 y11 => K y6 y7 y11 y10) N 0 [] (by omega) (by omega) (by simp)
  rw [List.drop_zero, List.nil_append] at this
  exact this
theorem A1r {nm : List UInt8} {data : Aaz} {l : OpL} {gl : Abt} {procs labels : Int} (h : Ao6 nm data l gl procs labels = 0) :
    Aqi data l procs labels = false ∧ Azv nm data l gl procs labels = true ∧ Azw l procs labels = true := by
  unfold Ao6 at h
  split at h
  · omega
  · rename_i h1
    split at h
    · rename_i h2
      split at h
      · rename_i h3; exact ⟨by simpa using h1, h2, h3⟩
      · omega
    · omega
theorem B2p {nm : List UInt8} {data : Aaz} {l : OpL} {gl : Abt} {procs labels : Int} (h : Azv nm data l gl procs labels = true) : ∀ o, o ∈ l → Ag3 data.length procs labels o = true := by
  simp only [Azv, Bool.and_eq_true, decide_eq_true_eq] at h
  exact List.all_eq_true.mp h.1.2
def Af3 (nm : List UInt8) (data : Aaz) (l : OpL) (gl : Abt) (procs labels : Int) : Int :=
  if Ao6 nm data l gl procs labels ≠ 0 then Ao6 nm data l gl procs labels
  else if 32767 < (Am6 l).length ∨ 255 < nm.length ∨ 255 < gl.length then 2 else 0
theorem Ccw {R : Type} {N : Nat} {nm : List UInt8} {data : Aaz} {gl : Abt} (F : A6e N nm data gl) (hN : 120009 ≤ N) (l : OpL) (procs labels : Int) (K0 : Int → Int → List Int → List Int → List Int → Option R) (K1 : List Int → Int → Int → List Int → List Int → Option R) :
    Afe N nm data l gl procs labels K0 K1 = if Af3 nm data l gl procs labels = 0 then K1 (Adq l).1 (Adq l).2.1 0 (Am6 l) (Adq l).2.2 else K0 0 (Af3 nm data l gl procs labels) [] [] [] := by
  simp only [Afe, Bew]
  rw [B1x F]
  by_cases hc : Ao6 nm data l gl procs labels = 0
  case neg =>
    have he : Af3 nm data l gl procs labels = Ao6 nm data l gl procs labels := by unfold Af3; rw [if_pos hc]
    rw [he, if_pos (by simpa using hc), if_neg hc]
  obtain ⟨h1, h2, h3⟩ := A1r hc
  have hall := B2p h2
  simp only [Aqi, Bool.or_eq_false_iff, decide_eq_false_iff_not] at h1
  have he : Af3 nm data l gl procs labels = if 32767 < (Am6 l).length ∨ 255 < nm.length ∨ 255 < gl.length then 2 else 0 := by unfold Af3; rw [if_neg (fun h => h hc)]
  rw [if_neg (by simpa using hc), Ced N l (by omega) (by omega) (fun x hx => A3t (hall x hx))]
  simp only [len, decide_eq_true_eq]
  by_cases a : 32767 < (Am6 l).length
  · rw [if_pos (by omega), show Af3 nm data l gl procs labels = 2 by rw [he, if_pos (.inl a)]]; rfl
  rw [if_neg (by omega)]
  by_cases b : 255 < nm.length
  · rw [if_pos (by omega), show Af3 nm data l gl procs labels = 2 by rw [he, if_pos (.inr (.inl b))]]; rfl
  rw [if_neg (by omega)]
  by_cases c : 255 < gl.length
  · rw [if_pos (by omega), show Af3 nm data l gl procs labels = 2 by rw [he, if_pos (.inr (.inr c))]]; rfl
  rw [if_neg (by omega), show Af3 nm data l gl procs labels = 0 by rw [he, if_neg (show ¬(32767 < (Am6 l).length ∨ 255 < nm.length ∨ 255 < gl.length) by omega)]]; rfl
def A6g (w : List Int) : List Int := w.flatMap fun x => beB x 4
theorem Bi2 (x : Int) (r : List Int) : A6g (x :: r) = beB x 4 ++ A6g r := by simp [A6g]
theorem A6h (w : List Int) : (A6g w).length = 4 * w.length := by
  induction w with
  | nil => rfl
  | cons x r ih => rw [Bi2, List.length_append, Aen, ih, List.length_cons]; omega
theorem Cba {R : Type} (N : Nat) (w : List Int) (hw : w.length ≤ 1099511627776) (hN : 8 < N) (e0 : Aaz) (e1 e2 : Int) (e6 : List UInt8) (e7 : Aaz) (e8 : OpL) (e9 : Abt) (e10 e11 : Int) (e12 : List Int)
    (K : Aaz → Int → Int → List UInt8 → Aaz → OpL → Abt → Int → Int → List Int → List Int → Option R) : ∀ (k i : Nat) (b : List Int), i ≤ w.length → w.length - i < k → b.length + 4 * (w.length - i) ≤ 70368744177664 →
    Ad1 N k e0 e1 e2 w (len w) i e6 e7 e8 e9 e10 e11 e12 b K = K e0 e1 e2 e6 e7 e8 e9 e10 e11 e12 (b ++ A6g (w.drop i)) := by
  intro k
  induction k with
  | zero => intro i _ _ h; omega
  | succ k ih =>
    intro i b hi hk hb
    simp only [Ad1, A7l]
    by_cases hlt : i < w.length
    case neg =>
      rw [if_neg (by simp [len]; omega), List.drop_eq_nil_of_le (by omega)]
      simp [A6g]
    have hin : (0 : Int) ≤ i ∧ (i : Int) < len w := by simp only [len]; omega
    rw [if_pos (by simp [len]; omega), if_pos hin, Ac7 _ _ hlt, List.drop_eq_getElem_cons hlt, show (4 : Int) = ((4 : Nat) : Int) from rfl, A30 N _ 4 b hN (by omega) (by omega), Abo (by omega),
      ih (i + 1) _ (by omega) (by omega) (by rw [List.length_append, Aen]; omega), Bi2, List.append_assoc]
def Aqj : Abt → List Int
  | [] => []
  | g :: r => Ah4 g.1 :: (beB g.2 2 ++ Aqj r)
theorem Bqr : ∀ g : Abt, (Aqj g).length = 3 * g.length
  | [] => rfl
  | x :: r => by rw [Aqj, List.length_cons, List.length_append, Aen, Bqr r, List.length_cons]; omega
theorem B74 {R : Type} (N : Nat) (g : Abt) (hg : g.length ≤ 1099511627776) (hN : 8 < N) (e3 : List Int)
    (K : List Int → List Int → Option R) : ∀ (k i : Nat) (b : List Int), i ≤ g.length → g.length - i < k → b.length + 3 * (g.length - i) ≤ 70368744177664 →
    Adm N k g (len g) i e3 b K = K e3 (b ++ Aqj (g.drop i)) := by
  intro k
  induction k with
  | zero => intro i _ _ h; omega
  | succ k ih =>
    intro i b hi hk hb
    simp only [Adm, A7r]
    by_cases hlt : i < g.length
    case neg =>
      rw [if_neg (by simp [len]; omega), List.drop_eq_nil_of_le (by omega)]
      simp [Aqj]
    have hin : (0 : Int) ≤ i ∧ (i : Int) < len g := by simp only [len]; omega
    rw [if_pos (by simp [len]; omega), if_pos hin, Ac7 _ _ hlt, List.drop_eq_getElem_cons hlt, Asy _ _ _ (by omega), show (2 : Int) = ((2 : Nat) : Int) from rfl,
      A30 N _ 2 _ hN (by omega) (by rw [List.length_append]; simp only [List.length_cons, List.length_nil]; omega), Abo (by omega),
      ih (i + 1) _ (by omega) (by omega) (by simp only [List.length_append, Aen, List.length_cons, List.length_nil]; omega), Aqj, List.append_assoc, List.append_assoc]
    rfl
def Azx (d : List UInt8 × Bool × List Int) : List Int :=
  if d.2.1 = true then Ah4 0 :: Ah4 d.1.length :: bytesOf d.1 else Ah4 1 :: (beB d.2.2.length 2 ++ A6g d.2.2)
def Ax5 : Aaz → List Int
  | [] => []
  | d :: r => Azx d ++ Ax5 r
theorem Bv2 (d : List UInt8 × Bool × List Int) : (Azx d).length ≤ 3 + 4 * A1q d := by
  unfold Azx A1q
  by_cases h : d.2.1 = true
  · rw [if_pos h, if_pos h]; simp only [List.length_cons, bytesOf, List.length_map]; omega
  · rw [if_neg h, if_neg h]; simp only [List.length_cons, List.length_append, Aen, A6h]; omega
theorem Bqs (d : List UInt8 × Bool × List Int) : 0 ≤ A1q d := by unfold A1q; split <;> omega
theorem Bhy (d : List UInt8 × Bool × List Int) (r : Aaz) : At9 (d :: r) = A1q d + At9 r := by simp [At9]
theorem B1z : ∀ l : Aaz, 0 ≤ At9 l
  | [] => by simp [At9]
  | d :: r => by rw [Bhy]; have := Bqs d; have := B1z r; omega
theorem Bhz : ∀ l : Aaz, (Ax5 l).length ≤ 3 * l.length + 4 * At9 l
  | [] => by simp [Ax5, At9]
  | d :: r => by
    have h1 := Bv2 d
    have h2 := Bhz r
    rw [Ax5, List.length_append, Bhy, List.length_cons]; omega
theorem Ccx {R : Type} (N : Nat) (l : Aaz) (hl : l.length ≤ 1099511627776) (hN : 8 < N) (hw : ∀ d, d ∈ l → d.2.2.length < N ∧ d.2.2.length ≤ 1099511627776) (e3 : List UInt8) (e4 : Aaz) (e5 : OpL) (e6 : Abt) (e7 e8 : Int) (e9 : List Int)
    (K : List UInt8 → Aaz → OpL → Abt → Int → Int → List Int → List Int → Option R) : ∀ (k i : Nat) (b : List Int), i ≤ l.length → l.length - i < k → b.length + 3 * (l.length - i) + 4 * At9 (l.drop i) ≤ 70368744177664 →
    Adl N k l (len l) i e3 e4 e5 e6 e7 e8 e9 b K = K e3 e4 e5 e6 e7 e8 e9 (b ++ Ax5 (l.drop i)) := by
  intro k
  induction k with
  | zero => intro i _ _ h; omega
  | succ k ih =>
    intro i b hi hk hb
    simp only [Adl, A7o]
    by_cases hlt : i < l.length
    case neg =>
      rw [if_neg (by simp [len]; omega), List.drop_eq_nil_of_le (by omega)]
      simp [Ax5]
    have hin : (0 : Int) ≤ i ∧ (i : Int) < len l := by simp only [len]; omega
    have hd' : l.drop i = l[i] :: l.drop (i + 1) := List.drop_eq_getElem_cons hlt
    have hw' := hw l[i] (List.getElem_mem hlt)
    rw [hd', Bhy] at hb
    rw [if_pos (by simp [len]; omega), if_pos hin, Ac7 _ _ hlt, hd', Ax5]
    obtain ⟨x, hx⟩ : ∃ x, l[i] = x := ⟨_, rfl⟩
    simp only [hx] at hw' hb ⊢
    have hx1 := Bv2 x
    have hx2 := Bqs x
    have hx3 := B1z (l.drop (i + 1))
    have hnext : ∀ b' : List Int, b'.length = b.length + (Azx x).length → b'.length + 3 * (l.length - (i + 1)) + 4 * At9 (l.drop (i + 1)) ≤ 70368744177664 := by intro b' h; omega
    by_cases ht : x.2.1 = true
    · have hdl : (Azx x).length = 2 + x.1.length := by unfold Azx; rw [if_pos ht]; simp only [List.length_cons, bytesOf, List.length_map]; omega
      rw [if_pos ht, Asy _ _ _ (by omega), B71 _ _ _ (by simp only [List.length_append, List.length_cons, List.length_nil]; omega), Abo (by omega),
        ih (i + 1) _ (by omega) (by omega) (hnext _ (by simp only [List.length_append, List.length_cons, List.length_nil, bytesOf, List.length_map]; omega))]
      unfold Azx
      rw [if_pos ht, List.append_assoc, List.append_assoc]; rfl
    · have hdl : (Azx x).length = 3 + 4 * x.2.2.length := by unfold Azx; rw [if_neg ht]; simp only [List.length_cons, List.length_append, Aen, A6h]; omega
      rw [if_neg ht, Asy _ _ _ (by omega), show (2 : Int) = ((2 : Nat) : Int) from rfl, A30 N _ 2 _ hN (by omega) (by simp only [List.length_append, List.length_cons, List.length_nil]; omega)]
      have h27 := Cba (R := R) N x.2.2 hw'.2 hN l (len l) i e3 e4 e5 e6 e7 e8 e9 (fun y4 y5 y6 y7 y8 y9 y10 y11 y12 y13 y14 => Adl N k y4 y5 (wi (y6 + 1)) y7 y8 y9 y10 y11 y12 y13 y14 K) N 0
        (b ++ [Ah4 1] ++ beB (len x.2.2) 2) (by omega) (by omega) (by simp only [List.length_append, List.length_cons, List.length_nil, Aen]; omega)
      refine Eq.trans h27 ?_
      rw [List.drop_zero, Abo (by omega),
        ih (i + 1) _ (by omega) (by omega) (hnext _ (by simp only [List.length_append, List.length_cons, List.length_nil, Aen, A6h]; omega))]
      unfold Azx
      rw [if_neg ht, List.append_assoc, List.append_assoc, List.append_assoc]; simp [len]
def Bi3 (nm : List UInt8) (data : Aaz) (l : OpL) (gl : Abt) : List Int :=
  ([] ++ [Ah4 98] ++ [Ah4 98] ++ [Ah4 1] ++ (Ah4 nm.length :: bytesOf nm) ++ beB (len data) 2 ++ Ax5 data ++ [Ah4 (len gl)] ++ Aqj gl ++ beB (len (Am6 l)) 4) ++ Am6 l
def B5p (nm : List UInt8) (data : Aaz) (l : OpL) (gl : Abt) : List Int := Bi3 nm data l gl ++ beB (Bqq 0 0 (Bi3 nm data l gl)) 4
theorem A2f {nm : List UInt8} {data : Aaz} {l : OpL} {gl : Abt} {procs labels : Int} (h : Af3 nm data l gl procs labels = 0) :
    Ao6 nm data l gl procs labels = 0 ∧ (Am6 l).length ≤ 32767 ∧ nm.length ≤ 255 ∧ gl.length ≤ 255 := by
  unfold Af3 at h
  split at h
  · rename_i h1; exact absurd h h1
  · rename_i h1
    split at h
    · cases h
    · rename_i h2; exact ⟨by omega, by omega, by omega, by omega⟩
theorem Bv3 {nm : List UInt8} {data : Aaz} {l : OpL} {gl : Abt} {procs labels : Int} (h : Af3 nm data l gl procs labels = 0) : (Bi3 nm data l gl).length ≤ 100000 := by
  obtain ⟨h1, h2, h3, h4⟩ := A2f h
  obtain ⟨h5, _, _⟩ := A1r h1
  simp only [Aqi, Bool.or_eq_false_iff, decide_eq_false_iff_not] at h5
  have := Bhz data
  unfold Bi3
  simp only [List.length_append, List.length_cons, List.length_nil, bytesOf, List.length_map, Aen, Bqr]
  omega
theorem Cee {R : Type} {N : Nat} {nm : List UInt8} {data : Aaz} {gl : Abt} (F : A6e N nm data gl) (hN : 120009 ≤ N) (l : OpL) (procs labels : Int) (K : Int → List Int → Option R) :
    Al0 N nm data l gl procs labels K = if Af3 nm data l gl procs labels = 0 then K 0 (B5p nm data l gl) else K (Af3 nm data l gl procs labels) [] := by
  simp only [Al0, Bim]
  rw [Ccw F hN]
  by_cases he : Af3 nm data l gl procs labels = 0
  case neg => rw [if_neg he, if_neg he, if_pos (by simpa using he)]
  rw [if_pos he, if_pos he, if_neg (by decide)]
  obtain ⟨h1, h2, h3, h4⟩ := A2f he
  obtain ⟨h5, _, _⟩ := A1r h1
  simp only [Aqi, Bool.or_eq_false_iff, decide_eq_false_iff_not] at h5
  have hdl := Bhz data
  have hpl := Bv3 he
  rw [Asy _ _ _ (by simp), Asy _ _ _ (by simp), Asy _ _ _ (by simp), B71 _ _ _ (by simp; omega), show (2 : Int) = ((2 : Nat) : Int) from rfl,
    A30 N _ 2 _ (by omega) (by omega) (by simp only [List.length_append, List.length_cons, List.length_nil, bytesOf, List.length_map]; omega)]
  have hd := Ccx (R := R) N data (by omega) (by omega) (fun d hd => ⟨(F.d3 d hd).2, (F.d1 d hd).2⟩) nm data l gl procs labels (Am6 l)
    (fun y34 y35 y36 y37 y38 y39 y40 y41 => Aaf N ((len y37)) y41 (fun y42 => Adm N N y37 ((len y37)) 0 y40 y42 (fun y43 y44 => Aam N ((len y43)) 4 y44 (fun y45 => if ((((List.length y45) + (List.length y43)) * (1 : Nat)) ≤ (70368744177664 : Nat)) then (Afv N ((y45 ++ y43)) (fun y46 => Aam N y46 4 ((y45 ++ y43)) (fun y47 => K 0 y47))) else none)))) N 0
    ([] ++ [Ah4 98] ++ [Ah4 98] ++ [Ah4 1] ++ (Ah4 nm.length :: bytesOf nm) ++ beB (len data) 2) (by omega) (by omega) (by rw [List.drop_zero]; simp only [List.length_append, List.length_cons, List.length_nil, bytesOf, List.length_map, Aen]; omega)
  refine Eq.trans hd ?_
  rw [List.drop_zero, Asy _ _ _ (by simp only [List.length_append, List.length_cons, List.length_nil, bytesOf, List.length_map, Aen]; omega)]
  have hg := B74 (R := R) N gl (by omega) (by omega) (Am6 l) (fun y43 y44 => Aam N ((len y43)) 4 y44 (fun y45 => if ((((List.length y45) + (List.length y43)) * (1 : Nat)) ≤ (70368744177664 : Nat)) then (Afv N ((y45 ++ y43)) (fun y46 => Aam N y46 4 ((y45 ++ y43)) (fun y47 => K 0 y47))) else none)) N 0
    ([] ++ [Ah4 98] ++ [Ah4 98] ++ [Ah4 1] ++ (Ah4 nm.length :: bytesOf nm) ++ beB (len data) 2 ++ Ax5 data ++ [Ah4 (len gl)]) (by omega) (by omega) (by simp only [List.length_append, List.length_cons, List.length_nil, bytesOf, List.length_map, Aen]; omega)
  refine Eq.trans hg ?_
  have hpl2 := hpl
  unfold Bi3 at hpl2
  simp only [List.length_append, List.length_cons, List.length_nil, bytesOf, List.length_map, Aen] at hpl2
  rw [List.drop_zero, show (4 : Int) = ((4 : Nat) : Int) from rfl, A30 N _ 4 _ (by omega) (by omega) (by simp only [List.length_append, List.length_cons, List.length_nil, bytesOf, List.length_map, Aen]; omega),
    if_pos (by simp only [List.length_append, List.length_cons, List.length_nil, bytesOf, List.length_map, Aen]; omega)]
  change Afv N (Bi3 nm data l gl) (fun y46 => Aam N y46 ((4 : Nat) : Int) (Bi3 nm data l gl) (fun y47 => K 0 y47)) = _
  rw [Cfy N _ (by omega) (by omega), A30 N _ 4 _ (by omega) (by omega) (by omega)]
  rfl
def hvF : Aaz → Int → Int
  | [], n => n
  | d :: r, n => if n ≤ 2000 then hvF r (n + 1 + d.1.length + d.2.2.length) else n
theorem Cfz {R : Type} (N : Nat) (lim : Int) (nm : List UInt8) (data : Aaz) (hd : A9y data) (hl : data.length ≤ 140737488351232) (ops : OpL) (gl : Abt) (procs labels : Int) (K : Int → Int → List UInt8 → Aaz → OpL → Abt → Int → Int → Option R) :
    ∀ (k i : Nat) (n : Int), i ≤ data.length → 2002 ≤ n + k → 1 ≤ k → 0 ≤ n → n ≤ 562949953421312 →
    Adp N k lim n i nm data ops gl procs labels K = K lim (hvF (data.drop i) n) nm data ops gl procs labels := by
  intro k
  induction k with
  | zero => intro i _ _ _ h; omega
  | succ k ih =>
    intro i n hi hk _ h0 h1
    simp only [Adp, Aws]
    by_cases hlt : i < data.length
    case neg =>
      rw [if_neg (by simp [len]; omega), List.drop_eq_nil_of_le (by omega)]; rfl
    have hin : (0 : Int) ≤ i ∧ (i : Int) < len data := by simp only [len]; omega
    have hd' := hd data[i] (List.getElem_mem hlt)
    rw [if_pos (by simp [len]; omega), List.drop_eq_getElem_cons hlt, hvF]
    by_cases hn : n ≤ 2000
    case neg => rw [if_neg (by simpa using hn), if_neg hn]
    rw [if_pos (by simpa using hn), if_pos hn, if_pos hin, if_pos hin, Ac7 _ _ hlt, Abo (by omega), Ad7 (i := n + 1) (by omega) (by omega), Ad7 (i := n + 1 + _) (by omega) (by omega), Ad7 (by omega) (by omega),
      ih (i + 1) _ (by omega) (by omega) (by omega) (by omega) (by omega)]
def Bkt (nm : List UInt8) (data : Aaz) (ops : OpL) (gl : Abt) (lim : Int) : Bool :=
  decide (lim < ops.length) || decide (400 < gl.length) || decide (2000 < hvF data nm.length)
theorem Cef {R : Type} (N : Nat) (nm : List UInt8) (hnm : nm.length ≤ 140737488351232) (data : Aaz) (hd : A9y data) (hl : data.length ≤ 140737488351232) (hN : 2002 ≤ N) (ops : OpL) (gl : Abt) (procs labels lim : Int) (K : Bool → Option R) :
    Af4 N nm data ops gl procs labels lim K = K (Bkt nm data ops gl lim) := by
  simp only [Af4, A0s]
  have := Cfz (R := R) N lim nm data hd hl ops gl procs labels (fun y0 y1 y2 y3 y4 y5 y6 y7 => if ((decide (((len y4) > y0))) = true) then (K true) else (if ((decide (((len y5) > (400 : Int)))) = true) then (K true) else (K ((decide ((y1 > (2000 : Int)))))))) N 0 nm.length (by omega) (by omega) (by omega) (by omega) (by omega)
  rw [List.drop_zero] at this
  refine Eq.trans this ?_
  unfold Bkt
  by_cases a : lim < ops.length
  · rw [if_pos (by simp only [len, decide_eq_true_eq]; omega), show decide (lim < ops.length) = true by simpa using a]; rfl
  rw [if_neg (by simp only [len, decide_eq_true_eq]; omega), show decide (lim < ops.length) = false by simpa using a]
  by_cases b : 400 < gl.length
  · rw [if_pos (by simp only [len, decide_eq_true_eq]; omega), show decide (400 < gl.length) = true by simpa using b]; rfl
  rw [if_neg (by simp only [len, decide_eq_true_eq]; omega), show decide (400 < gl.length) = false by simpa using b]; rfl
theorem Ccy : ∀ (l : Aaz) (n : Int), n ≤ hvF l n
  | [], n => Int.le_refl n
  | d :: r, n => by
    rw [hvF]; split
    · have := Ccy r (n + 1 + d.1.length + d.2.2.length); omega
    · omega
theorem B2q : ∀ (l : Aaz) (n : Int), 0 ≤ n → hvF l n ≤ 2000 → n + l.length ≤ 2000 ∧ ∀ d, d ∈ l → d.1.length ≤ 2000 ∧ d.2.2.length ≤ 2000
  | [], n, _, h => ⟨by simpa [hvF] using h, fun d hd => by cases hd⟩
  | d :: r, n, h0, h => by
    rw [hvF] at h
    split at h
    · have h1 := B2q r (n + 1 + d.1.length + d.2.2.length) (by omega) h
      have h2 := h1.1
      refine ⟨by rw [List.length_cons]; omega, fun e he => ?_⟩
      rcases List.mem_cons.mp he with rfl | he
      · omega
      · exact h1.2 e he
    · omega
def cls (v : Int) : Int := if v = 0 then 0 else if -128 ≤ v ∧ v ≤ 127 then 1 else if -32768 ≤ v ∧ v ≤ 32767 then 2 else 3
def ext (op : Int) : Int := if op = 24 then 1 else if op = 29 then 2 else if op = 30 then 4 else 0
def wid (k : Int) : Int := if k = 3 then 4 else k
theorem Bh0 {R : Type} (N : Nat) (v : Int) (K : Int → Option R) : Abr N v K = K (cls v) := by
  unfold Abr cls
  simp only [beq_iff_eq, decide_eq_true_eq]
  repeat' split
  all_goals first | rfl | (exfalso; omega)
theorem Bh1 {R : Type} (N : Nat) (v : Int) (K : Int → Option R) : Ab7 N v K = K (ext v) := by
  unfold Ab7 ext
  simp only [beq_iff_eq]
  repeat' split
  all_goals first | rfl | (exfalso; omega)
theorem Bh2 {R : Type} (N : Nat) (v : Int) (K : Int → Option R) : Ab6 N v K = K (wid v) := by
  unfold Ab6 wid
  simp only [beq_iff_eq]
  split <;> rfl
theorem Ccz (nm : List UInt8) (data : Aaz) (l : OpL) (gl : Abt) : (B5p nm data l gl).length = (Bi3 nm data l gl).length + 4 := by
  unfold B5p; rw [List.length_append, Aen]
theorem take_set {α : Type} (l : List α) (n j : Nat) (v : α) : (l.set j v).take n = (l.take n).set j v := List.take_set
theorem Bv4 {R : Type} (K : Bool → Option R) : Ai6 200000 K = K true := by kernel_rfl
abbrev Bqt : Ty := .pair .str (.pair (.list (.pair .str (.pair .bool (.list (.int .i64))))) (.pair (.list (.pair (.int .i64) (.pair (.int .i64) (.int .i64)))) (.pair (.list (.pair (.int .i64) (.int .i64))) (.pair (.int .i64) (.int .i64)))))
structure Byy (nm : List UInt8) (data : Aaz) (l : OpL) (gl : Abt) (procs labels : Int) : Prop where
  n : nm.length ≤ 140737488351232
  d : data.length ≤ 140737488351232
  dd : A9y data
  l : l.length ≤ 140737488351232
  g : gl.length ≤ 140737488351232
  p : -9223372036854775808 ≤ procs ∧ procs ≤ 9223372036854775807
  b : -9223372036854775808 ≤ labels ∧ labels ≤ 9223372036854775807
theorem Ch1 {nm : List UInt8} {data : Aaz} {l : OpL} {gl : Abt} {procs labels : Int} (h : Wf Bqt (nm, data, l, gl, procs, labels)) : Byy nm data l gl procs labels := by
  obtain ⟨h1, h2, h3, h4, h5, h6⟩ := h
  refine ⟨h1, h2.1, ?_, h3.1, h4.1, Cb4 h5, Cb4 h6⟩
  intro d hd
  obtain ⟨i, hi, rfl⟩ := List.getElem_of_mem hd
  have h := h2.2 i hi
  have e : List.getD data i (Ty.dflt (.pair .str (.pair .bool (.list (.int .i64))))) = data[i] := by rw [List.getD_eq_getElem?_getD, List.getElem?_eq_getElem hi]; rfl
  rw [e] at h
  exact ⟨h.1, h.2.2.1⟩
theorem Ceg {nm : List UInt8} {data : Aaz} {l : OpL} {gl : Abt} {procs labels lim : Int} (h : Byy nm data l gl procs labels) (hh : Bkt nm data l gl lim = false) : A6e 200000 nm data gl ∧ (l.length : Int) ≤ lim ∧ nm.length ≤ 2000 ∧ gl.length ≤ 400 ∧ data.length ≤ 2000 := by
  unfold Bkt at hh
  simp only [Bool.or_eq_false_iff, decide_eq_false_iff_not] at hh
  obtain ⟨⟨a, b⟩, c⟩ := hh
  have c' : hvF data nm.length ≤ 2000 := by omega
  have h1 := B2q data nm.length (by omega) c'
  have h2 := Ccy data nm.length
  refine ⟨⟨by omega, by omega, h.dd, fun d hd => ?_, fun d hd => ?_, by omega, by omega, by omega⟩, by omega, by omega, by omega, by omega⟩
  · have := h1.2 d hd; omega
  · have := h1.2 d hd; omega
theorem B10 {R : Type} {nm : List UInt8} {data : Aaz} {l : OpL} {gl : Abt} {procs labels : Int} (h : Byy nm data l gl procs labels) (K : Bool → Option R) :
    Ai5 200000 nm data l gl procs labels K = K (Bkt nm data l gl 40100) := by
  simp only [Ai5, A98]
  rw [Cef 200000 nm h.n data h.dd h.d (by omega)]
def Sfx (b r : List Int) : Prop := r.length ≤ b.length ∧ b.drop (b.length - r.length) = r
theorem Sfx.drop {b r : List Int} (h : Sfx b r) (n : Nat) : Sfx b (r.drop n) := by
  obtain ⟨h1, h2⟩ := h
  refine ⟨by rw [List.length_drop]; omega, ?_⟩
  rw [List.length_drop]
  by_cases hn : n ≤ r.length
  · rw [show b.length - (r.length - n) = (b.length - r.length) + n by omega, ← List.drop_drop, h2]
  · rw [List.drop_eq_nil_of_le (by omega), List.drop_eq_nil_of_le (by omega)]
theorem Ceh {α : Type} [DecidableEq α] {a b : List α} (h : a.length = b.length) {i : Nat} (hi : i < a.length) : (a.drop i = b.drop i) ↔ (a[i] = b[i]'(by omega) ∧ a.drop (i + 1) = b.drop (i + 1)) := by
  rw [List.drop_eq_getElem_cons hi, List.drop_eq_getElem_cons (show i < b.length by omega), List.cons.injEq]
theorem Cei {R : Type} (N : Nat) (a b : List Int) (h : a.length = b.length) (hl : a.length ≤ 1000000) (K0 : Bool → Option R) (K1 : Option R) : ∀ (k i : Nat), i ≤ a.length → a.length - i < k →
    Aek N k a b i K0 K1 = if a.drop i = b.drop i then K1 else K0 false := by
  intro k
  induction k with
  | zero => intro i _ h; omega
  | succ k ih =>
    intro i hi hk
    simp only [Aek, A1d]
    by_cases hlt : i < a.length
    case neg =>
      rw [if_neg (by simp [len]; omega), List.drop_eq_nil_of_le (by omega), List.drop_eq_nil_of_le (by omega), if_pos rfl]
    rw [if_pos (by simp [len]; omega), if_pos (by simp only [len]; omega), if_pos (by simp only [len]; omega), Ac7 _ _ hlt, Ac7 _ _ (show i < b.length by omega), Abo (by omega)]
    have hs := Ceh h hlt
    by_cases he : a[i] = b[i]'(by omega)
    · rw [if_neg (by simpa using he), ih (i + 1) (by omega) (by omega)]
      by_cases h2 : a.drop (i + 1) = b.drop (i + 1)
      · rw [if_pos h2, if_pos (hs.2 ⟨he, h2⟩)]
      · rw [if_neg h2, if_neg (fun h => h2 (hs.1 h).2)]
    · rw [if_pos (by simpa using he), if_neg (fun h => he (hs.1 h).1)]
theorem Byz {R : Type} (N : Nat) (a b : List Int) (hl : a.length ≤ 1000000) (hN : a.length < N) (K : Bool → Option R) : Ahm N a b K = K (decide (a = b)) := by
  simp only [Ahm, A58]
  by_cases h : a.length = b.length
  · rw [if_neg (by simp [len, h])]
    have := Cei (R := R) N a b h hl (fun y0 => K y0) (K true) N 0 (by omega) (by omega)
    rw [show ((0 : Nat) : Int) = 0 from rfl, List.drop_zero, List.drop_zero] at this
    rw [this]
    split <;> simp [*]
  · rw [if_pos (by simp [len]; omega), show decide (a = b) = false by simp; intro e; exact h (by rw [e])]
def A8j : OpL → Int → Int → Option (Int × Int)
  | [], p, m => some (p, m)
  | x :: r, p, m => if x.1 = 24 then (if x.2.1 = p + 1 then A8j r (p + 1) m else none)
    else A8j r p (if x.1 = 19 then (if x.2.1 > m then x.2.1 else m) else m)
def Bi4 (l : OpL) (p m procs labels : Int) : Bool := match A8j l p m with | none => false | some (p', m') => p' == procs && m' == labels
theorem Bh3 {R : Type} (N : Nat) (a b c : Int) (K : Bool → Option R) : Aa0 N a b c K = K (Ag7 a) := by
  simp only [Aa0, Ag7]
  cases a != 20 <;> cases a != 25 <;> cases a != 26 <;> cases a != 27 <;> cases a != 29 <;> cases a != 30 <;> rfl
theorem Bku {R : Type} (N : Nat) (a b c : Int) (K : Int → Option R) : Abf N a b c K = K (Aae (a, b, c)) := by
  simp only [Abf, Bbd, Aeb, Aae]
  by_cases h1 : a = 20
  · simp [h1]
  by_cases h2 : a = 21
  · simp [h2]
  by_cases h3 : a = 22
  · simp [h3]
  by_cases h4 : a = 27
  · simp [h4]
  by_cases h5 : a = 29
  · simp [h5]
  by_cases h6 : a = 30
  · simp [h6]
  simp [h1, h2, h3, h4, h5, h6]
def Bq9 (i : Nat) (x : Int × Int × Int) (r : OpL) : Bool := (!Ag7 x.1 || (Adx r != none && Adx r != some 24)) && (decide (0 < i) || x.1 == 24)
theorem B9e {R : Type} (N : Nat) (p m c : Int) (nm : List UInt8) (data : Aaz) (l : OpL) (gl : Abt) (procs labels : Int) (i : Nat) (x : Int × Int × Int) (hl : l.length ≤ 1099511627776) (hi : i < l.length)
    (K0 : Bool → Option R) (K1 : Int → Int → Int → Int → List UInt8 → Aaz → OpL → Abt → Int → Int → Option R) :
    Acb N p m c i (decide (((i + 1 : Nat) : Int) ≥ len l)) nm data l gl procs labels x.1 x.2.1 x.2.2 K0 K1 = if Bq9 i x (l.drop (i + 1)) = true then K1 p m c i nm data l gl procs labels else K0 false := by
  simp only [Acb, A3h, Bh3]
  have first : (if ((i : Int) == 0) = true then (if (x.1 != 24) = true then K0 false else K1 p m c i nm data l gl procs labels) else K1 p m c i nm data l gl procs labels) = if (decide (0 < i) || x.1 == 24) = true then K1 p m c i nm data l gl procs labels else K0 false := by
    by_cases h0 : i = 0
    · subst h0
      rw [if_pos (by decide)]
      unfold bne
      cases x.1 == 24 <;> rfl
    · rw [if_neg (by simp; omega), show decide (0 < i) = true by simp; omega]; rfl
  rw [first]
  unfold Bq9
  rw [Bql, Abo (by omega)]
  cases Ag7 x.1
  · rfl
  rw [if_pos rfl]
  by_cases h : i + 1 < l.length
  · rw [show decide (((i + 1 : Nat) : Int) ≥ len l) = false by simp only [len, decide_eq_false_iff_not]; omega, if_neg (by decide), if_pos h]
    rw [if_pos (by simp only [len]; omega), show l.getD (Int.toNat ((i + 1 : Nat) : Int)) (0, 0, 0) = Abd l (i + 1) by unfold Abd; rw [Int.toNat_natCast]]
    by_cases h24 : (Abd l (i + 1)).1 = 24
    · rw [if_pos (by simpa using h24), h24]; rfl
    · rw [if_neg (by simpa using h24), show (some (Abd l (i + 1)).1 != some 24) = true by simpa using h24]; rfl
  · rw [show decide (((i + 1 : Nat) : Int) ≥ len l) = true by simp only [len, decide_eq_true_eq]; omega, if_pos rfl, if_neg h]; rfl
theorem B2r (c : Nat) (x : Int × Int × Int) (r : OpL) (hx : 1 ≤ x.1) : Ae0 c (x :: r) = (decide (0 < c) == (x.1 == 30) && (x.1 != 19 || (Adx r == some 18 || Adx r == some 28 || Adx r == some 19)) && (!Ag7 x.1 || (Adx r != none && Adx r != some 24)) && Ae0 (if x.1 = 29 then x.2.2.toNat else c - 1) r) := by
  cases c with
  | succ c =>
    rw [Ae0, show decide (0 < c + 1) = true by simp]
    by_cases h : x.1 = 30
    · rw [h]; simp [Ag7]
    · have h' : (x.1 == 30) = false := by simpa using h
      rw [h']; rfl
  | zero =>
    rw [Ae0, show decide (0 < 0) = false by decide]
    by_cases h : x.1 = 30
    · rw [h]; simp
    · have h' : (x.1 == 30) = false := by simpa using h
      have h2 : (x.1 != 30) = true := by simpa using h
      rw [h', h2]
      by_cases h29 : x.1 = 29
      · rw [if_pos h29, if_pos h29, h29]; simp [Ag7]
      · rw [if_neg h29, if_neg h29]; simp only [Azu, Bool.true_and]; rfl
theorem B2s (x : Int × Int × Int) (r : OpL) (p m : Int) : A8j (x :: r) p m = if x.1 = 24 then (if x.2.1 = p + 1 then A8j r (p + 1) m else none) else A8j r p (if x.1 = 19 then (if x.2.1 > m then x.2.1 else m) else m) := rfl
theorem B9f {R : Type} (N : Nat) (nm : List UInt8) (data : Aaz) (l : OpL) (gl : Abt) (procs labels : Int) (hl : l.length ≤ 1099511627776) (hop : ∀ o, o ∈ l → 1 ≤ o.1) (hM : ∀ o, o ∈ l → o.1 = 29 → 0 ≤ o.2.2 ∧ o.2.2 ≤ 1000) (K : Bool → Option R) :
    ∀ (k i : Nat) (p m : Int) (c : Nat), i ≤ l.length → l.length - i < k → 0 ≤ p → p ≤ i → c ≤ 1000 →
    Ac2 N k p m c i nm data l gl procs labels (fun y0 => K y0) (fun y1 y2 y3 y4 y5 y6 y7 y8 y9 => if ((y3 == (0 : Int)) = true) then (if ((y1 == y8) = true) then (K ((y2 == y9))) else (K false)) else (K false)) =
      K (Ae0 c (l.drop i) && (decide (0 < i) || Ajx l) && Bi4 (l.drop i) p m procs labels) := by
  intro k
  induction k with
  | zero => intro i _ _ _ _ h; omega
  | succ k ih =>
    intro i p m c hi hk hp hpi hc
    simp only [Ac2, A5p]
    by_cases hlt : i < l.length
    case neg =>
      rw [if_neg (by simp [len]; omega), List.drop_eq_nil_of_le (by omega)]
      have hf : (decide (0 < i) || Ajx l) = true := by
        by_cases h0 : 0 < i
        · simp [h0]
        · have : l = [] := List.eq_nil_of_length_eq_zero (by omega)
          subst this; simp [Ajx, Adx]
      rw [hf, Bi4, A8j]
      simp only [Ae0, Bool.and_true]
      cases c with
      | zero =>
        rw [if_pos (by decide)]
        simp only [beq_self_eq_true, Bool.true_and]
        cases hpp : p == procs <;> simp
      | succ c => simp; omega
    have hin : (0 : Int) ≤ i ∧ (i : Int) < len l := by simp only [len]; omega
    have hop' := hop l[i] (List.getElem_mem hlt)
    have hM' := hM l[i] (List.getElem_mem hlt)
    have hhd : Adx (l.drop (i + 1)) = if i + 1 < l.length then some (Abd l (i + 1)).1 else none := Bql
    rw [if_pos (by simp [len]; omega), if_pos hin, Ac7 _ _ hlt, List.drop_eq_getElem_cons hlt]
    have hfst : (decide (0 < i) || Ajx l) = (decide (0 < i) || (l[i]).1 == 24) := by
      by_cases h0 : 0 < i
      · simp [h0]
      · obtain rfl : i = 0 := by omega
        cases l with
        | nil => simp at hlt
        | cons y r => simp [Ajx, Adx]
    rw [hfst]
    obtain ⟨x, hx⟩ : ∃ x, l[i] = x := ⟨_, rfl⟩
    simp only [hx] at hop' hM' ⊢
    rw [B2r c x _ hop']
    have hcd : decide ((c : Int) > 0) = decide (0 < c) := by congr 1; simp
    rw [hcd]
    by_cases h1 : (decide (0 < c) == (x.1 == 30)) = true
    case neg =>
      have h1' : (decide (0 < c) == (x.1 == 30)) = false := by simpa using h1
      rw [h1', if_pos (by decide)]; simp
    rw [h1, if_neg (by decide), Bool.true_and]
    have rest : ∀ c1 : Nat, c1 = c - 1 → Ade N p m (c1 : Int) i nm data l gl procs labels x.1 x.2.1 x.2.2 (fun y0 => K y0) (fun y1 y2 y3 y4 y5 y6 y7 y8 y9 y10 => Ac2 N k y1 y2 y3 (wi (y4 + 1)) y5 y6 y7 y8 y9 y10 (fun y0 => K y0) (fun y1 y2 y3 y4 y5 y6 y7 y8 y9 => if ((y3 == (0 : Int)) = true) then (if ((y1 == y8) = true) then (K ((y2 == y9))) else (K false)) else (K false))) =
        K ((x.1 != 19 || (Adx (l.drop (i + 1)) == some 18 || Adx (l.drop (i + 1)) == some 28 || Adx (l.drop (i + 1)) == some 19)) && (!Ag7 x.1 || (Adx (l.drop (i + 1)) != none && Adx (l.drop (i + 1)) != some 24)) && Ae0 (if x.1 = 29 then x.2.2.toNat else c - 1) (l.drop (i + 1)) && (decide (0 < i) || x.1 == 24) && Bi4 (x :: l.drop (i + 1)) p m procs labels) := by
      intro c1 hc1
      have fin : ∀ (p2 m2 : Int) (c2 : Nat), 0 ≤ p2 → p2 ≤ i + 1 → c2 ≤ 1000 → Acb N p2 m2 c2 i (decide (((i + 1 : Nat) : Int) ≥ len l)) nm data l gl procs labels x.1 x.2.1 x.2.2 (fun y0 => K y0) (fun y1 y2 y3 y4 y5 y6 y7 y8 y9 y10 => Ac2 N k y1 y2 y3 (wi (y4 + 1)) y5 y6 y7 y8 y9 y10 (fun y0 => K y0) (fun y1 y2 y3 y4 y5 y6 y7 y8 y9 => if ((y3 == (0 : Int)) = true) then (if ((y1 == y8) = true) then (K ((y2 == y9))) else (K false)) else (K false))) =
          K (Bq9 i x (l.drop (i + 1)) && Ae0 c2 (l.drop (i + 1)) && Bi4 (l.drop (i + 1)) p2 m2 procs labels) := by
        intro p2 m2 c2 h0 h2 h3
        rw [B9e N p2 m2 c2 nm data l gl procs labels i x hl hlt]
        by_cases he : Bq9 i x (l.drop (i + 1)) = true
        · rw [if_pos he, he, Abo (by omega), ih (i + 1) p2 m2 c2 (by omega) (by omega) h0 (by omega) h3, show decide (0 < i + 1) = true by simp]; simp
        · rw [if_neg he, show Bq9 i x (l.drop (i + 1)) = false by simpa using he]; rfl
      simp only [Ade, A3i]
      rw [Abo (by omega)]
      have hw : wi (p + 1) = p + 1 := Ad7 (by omega) (by omega)
      unfold Bq9 at fin
      unfold Bi4 at fin ⊢
      rw [B2s]
      by_cases h24 : x.1 = 24
      · rw [if_pos (by simpa using h24), hw, if_pos h24, if_neg (show ¬x.1 = 29 by omega), show (x.1 != 19) = true by rw [h24]; rfl, Bool.true_or, Bool.true_and]
        by_cases he : x.2.1 = p + 1
        · rw [if_neg (by simp [he]), if_pos he, fin (p + 1) m c1 (by omega) (by omega) (by omega), hc1]
          congr 1
          cases (!Ag7 x.1 || (Adx (l.drop (i + 1)) != none && Adx (l.drop (i + 1)) != some 24)) <;> cases (decide (0 < i) || x.1 == 24) <;> cases Ae0 (c - 1) (l.drop (i + 1)) <;> rfl
        · rw [if_pos (by simpa using he), if_neg he]; simp
      rw [if_neg (by simpa using h24), if_neg h24]
      by_cases h29 : x.1 = 29
      · rw [if_pos (by simpa using h29), if_pos h29, if_neg (show ¬x.1 = 19 by omega), show (x.1 != 19) = true by rw [h29]; rfl, Bool.true_or, Bool.true_and]
        have hm := hM' h29
        obtain ⟨M, hMe⟩ := Int.eq_ofNat_of_zero_le hm.1
        have fM := fin p m M hp (by omega) (by omega)
        rw [hMe] at fM
        rw [hMe, fM, Int.toNat_natCast]
        congr 1
        cases (!Ag7 x.1 || (Adx (l.drop (i + 1)) != none && Adx (l.drop (i + 1)) != some 24)) <;> cases (decide (0 < i) || x.1 == 24) <;> cases Ae0 M (l.drop (i + 1)) <;> rfl
      rw [if_neg (by simpa using h29), if_neg h29]
      by_cases h19 : x.1 = 19
      · rw [if_pos (by simpa using h19), if_pos h19, show (x.1 != 19) = false by rw [h19]; rfl, Bool.false_or]
        have fin2 := fin p (if x.2.1 > m then x.2.1 else m) c1 hp (by omega) (by omega)
        by_cases hlt1 : i + 1 < l.length
        · have hg : l.getD (Int.toNat ((i + 1 : Nat) : Int)) (0, 0, 0) = Abd l (i + 1) := by unfold Abd; rw [Int.toNat_natCast]
          have hin1 : (0 : Int) ≤ ((i + 1 : Nat) : Int) ∧ ((i + 1 : Nat) : Int) < len l := by simp only [len]; omega
          have hx1 : decide (((i + 1 : Nat) : Int) ≥ len l) = false := by simp only [len, decide_eq_false_iff_not]; omega
          rw [hx1] at fin2 ⊢
          rw [if_neg (by decide)]
          simp only [if_pos hin1, hg]
          rw [hhd, if_pos hlt1]
          rw [hhd, if_pos hlt1] at fin2
          have comm : ((!Ag7 x.1 || (some (Abd l (i + 1)).1 != none && some (Abd l (i + 1)).1 != some 24)) && (decide (0 < i) || x.1 == 24) && Ae0 c1 (l.drop (i + 1)) && (match A8j (l.drop (i + 1)) p (if x.2.1 > m then x.2.1 else m) with | none => false | some (p', m') => p' == procs && m' == labels)) =
              (true && (!Ag7 x.1 || (some (Abd l (i + 1)).1 != none && some (Abd l (i + 1)).1 != some 24)) && Ae0 (c - 1) (l.drop (i + 1)) && (decide (0 < i) || x.1 == 24) && (match A8j (l.drop (i + 1)) p (if x.2.1 > m then x.2.1 else m) with | none => false | some (p', m') => p' == procs && m' == labels)) := by
            rw [hc1]
            cases (!Ag7 x.1 || (some (Abd l (i + 1)).1 != none && some (Abd l (i + 1)).1 != some 24)) <;> cases (decide (0 < i) || x.1 == 24) <;> cases Ae0 (c - 1) (l.drop (i + 1)) <;> rfl
          by_cases a1 : (Abd l (i + 1)).1 = 18
          · rw [if_neg (by simpa using a1), show (some (Abd l (i + 1)).1 == some 18 || some (Abd l (i + 1)).1 == some 28 || some (Abd l (i + 1)).1 == some 19) = true by rw [a1]; rfl]
            exact fin2.trans (by rw [comm])
          rw [if_pos (by simpa using a1)]
          by_cases a2 : (Abd l (i + 1)).1 = 28
          · rw [if_neg (by simpa using a2), show (some (Abd l (i + 1)).1 == some 18 || some (Abd l (i + 1)).1 == some 28 || some (Abd l (i + 1)).1 == some 19) = true by rw [a2]; rfl]
            exact fin2.trans (by rw [comm])
          rw [if_pos (by simpa using a2)]
          by_cases a3 : (Abd l (i + 1)).1 = 19
          · rw [if_neg (by simpa using a3), show (some (Abd l (i + 1)).1 == some 18 || some (Abd l (i + 1)).1 == some 28 || some (Abd l (i + 1)).1 == some 19) = true by rw [a3]; rfl]
            exact fin2.trans (by rw [comm])
          · have b1 : (some (Abd l (i + 1)).1 == some 18) = false := by simpa using a1
            have b2 : (some (Abd l (i + 1)).1 == some 28) = false := by simpa using a2
            have b3 : (some (Abd l (i + 1)).1 == some 19) = false := by simpa using a3
            rw [if_pos (by simpa using a3), b1, b2, b3]; rfl
        · rw [if_pos (by simp only [len, decide_eq_true_eq]; omega), hhd, if_neg hlt1]; rfl
      · rw [if_neg (by simpa using h19), if_neg h19, show (x.1 != 19) = true by simpa using h19, Bool.true_or, Bool.true_and, fin p m c1 hp (by omega) (by omega), hc1]
        congr 1
        cases (!Ag7 x.1 || (Adx (l.drop (i + 1)) != none && Adx (l.drop (i + 1)) != some 24)) <;> cases (decide (0 < i) || x.1 == 24) <;> cases Ae0 (c - 1) (l.drop (i + 1)) <;> rfl
    by_cases h0 : 0 < c
    · rw [if_pos (by simpa using h0)]
      have hw : wi ((c : Int) - 1) = ((c - 1 : Nat) : Int) := by rw [Ad7 (by omega) (by omega)]; omega
      rw [hw]
      exact rest (c - 1) rfl
    · rw [if_neg (by simpa using h0)]
      obtain rfl : c = 0 := by omega
      exact rest 0 rfl
theorem Cc0 {R : Type} (N : Nat) (nm : List UInt8) (data : Aaz) (l : OpL) (gl : Abt) (procs labels : Int) (hl : l.length ≤ 1099511627776) (hN : l.length < N) (hop : ∀ o, o ∈ l → 1 ≤ o.1) (hM : ∀ o, o ∈ l → o.1 = 29 → 0 ≤ o.2.2 ∧ o.2.2 ≤ 1000) (K : Bool → Option R) :
    Agy N nm data l gl procs labels K = K (Ae0 0 l && Ajx l && Bi4 l 0 0 procs labels) := by
  simp only [Agy, Bba]
  have := B9f N nm data l gl procs labels hl hop hM K N 0 0 0 0 (by omega) (by omega) (by omega) (by omega) (by omega)
  rw [show ((0 : Nat) : Int) = 0 from rfl, List.drop_zero] at this
  exact this
def plR : Nat → OpL → Int → List Int → List Int → Option (List Int × List Int)
  | _, [], _, pl, pr => some (pl, pr)
  | i, x :: r, p, pl, pr =>
    if x.1 = 19 then (if 0 ≤ pl.getD x.2.1.toNat 0 then none else plR (i + 1) r p (pl.set x.2.1.toNat i) (pr.set i p))
    else plR (i + 1) r (if x.1 = 24 then p + 1 else p) pl (pr.set i (if x.1 = 24 then p + 1 else p))
def Bl0 : Nat → OpL → List Int → List Int → Bool
  | _, [], _, _ => true
  | i, x :: r, pl, pr => (decide (Aae x ≤ 0) || (decide (0 ≤ pl.getD (Aae x).toNat 0) && pr.getD (pl.getD (Aae x).toNat 0).toNat 0 == pr.getD i 0)) && Bl0 (i + 1) r pl pr
theorem Bkv : ∀ (r : OpL) (i : Nat) (p : Int) (pl pr : List Int) (q : List Int × List Int), plR i r p pl pr = some q → q.1.length = pl.length ∧ q.2.length = pr.length
  | [], _, _, _, _, q, h => by simp only [plR, Option.some.injEq] at h; subst h; exact ⟨rfl, rfl⟩
  | x :: r, i, p, pl, pr, q, h => by
    rw [plR] at h
    split at h
    · split at h
      · cases h
      · have := Bkv r _ _ _ _ q h
        simpa using this
    · have := Bkv r _ _ _ _ q h
      simpa using this
theorem B75 : ∀ (r : OpL) (i : Nat) (p : Int) (pl pr : List Int) (q : List Int × List Int) (L : Int), plR i r p pl pr = some q → ((i + r.length : Nat) : Int) ≤ L → (∀ n, pl.getD n 0 < L ∨ pl.getD n 0 ≤ 0) → (∀ n, q.1.getD n 0 < L ∨ q.1.getD n 0 ≤ 0)
  | [], _, _, _, _, q, L, h, _, hv => by simp only [plR, Option.some.injEq] at h; subst h; exact hv
  | x :: r, i, p, pl, pr, q, L, h, hL, hv => by
    rw [List.length_cons] at hL
    rw [plR] at h
    split at h
    · split at h
      · cases h
      · refine B75 r _ _ _ _ q L h (by omega) (fun n => ?_)
        rw [Ak8]
        split
        · left; omega
        · exact hv n
    · exact B75 r _ _ _ _ q L h (by omega) hv
theorem B5g {R : Type} (N : Nat) (nm : List UInt8) (data : Aaz) (l : OpL) (gl : Abt) (procs labels : Int) (x7 x8 pr : List Int) (hb : labels ≤ 1000000) (K : List UInt8 → Aaz → OpL → Abt → Int → Int → List Int → List Int → List Int → List Int → Option R) :
    ∀ (m k i : Nat) (pl : List Int), m < k → (i : Int) + m = labels + 1 → (pl.length : Int) = labels + 1 →
    Acc N k i nm data l gl procs labels x7 x8 pl pr K = K nm data l gl procs labels x7 x8 (pl.take i ++ List.replicate m (-1)) pr := by
  intro m
  induction m with
  | zero =>
    intro k i pl hk hi hl
    obtain ⟨k, rfl⟩ := exk hk
    simp only [Acc, Avl]
    rw [if_neg (by simp only [decide_eq_true_eq]; omega), List.take_of_length_le (by omega)]; simp
  | succ m ih =>
    intro k i pl hk hi hl
    obtain ⟨k, rfl⟩ := exk hk
    simp only [Acc, Avl]
    rw [if_pos (by simp only [decide_eq_true_eq]; omega), if_pos (by simp only [len]; omega), Abo (by omega), Int.toNat_natCast, ih k (i + 1) _ (by omega) (by omega) (by rw [List.length_set]; exact hl)]
    have e : (pl.set i (-1)).take (i + 1) = pl.take i ++ [-1] := by
      rw [List.take_add_one, List.take_set, List.getElem?_set_self (by omega), List.set_eq_of_length_le (by rw [List.length_take]; omega)]; rfl
    rw [e, List.append_assoc, List.replicate_succ]; rfl
theorem B11 {R : Type} (N : Nat) (nm : List UInt8) (data : Aaz) (l : OpL) (gl : Abt) (procs labels : Int) (x8 x9 : List Int) (hl : l.length ≤ 1099511627776) (hL : ∀ o, o ∈ l → o.1 = 19 → 1 ≤ o.2.1 ∧ o.2.1 ≤ labels)
    (K0 : Bool → List Int → List Int → Option R) (K1 : List UInt8 → Aaz → OpL → Abt → Int → Int → List Int → List Int → List Int → List Int → Option R) (hK : ∀ a b a' b', K0 false a b = K0 false a' b') :
    ∀ (k i : Nat) (p : Int) (pl pr : List Int), i ≤ l.length → l.length - i < k → 0 ≤ p → p ≤ i → (pl.length : Int) = labels + 1 → pr.length = l.length →
    Abv N k p i nm data l gl procs labels x8 x9 pl pr K0 K1 = match plR i (l.drop i) p pl pr with | none => K0 false [] [] | some (pl', pr') => K1 nm data l gl procs labels x8 x9 pl' pr' := by
  intro k
  induction k with
  | zero => intro i _ _ _ _ h; omega
  | succ k ih =>
    intro i p pl pr hi hk hp hpi hpl hpr
    simp only [Abv, A05]
    by_cases hlt : i < l.length
    case neg =>
      rw [if_neg (by simp [len]; omega), List.drop_eq_nil_of_le (by omega)]; rfl
    have hin : (0 : Int) ≤ i ∧ (i : Int) < len l := by simp only [len]; omega
    have hinp : (0 : Int) ≤ i ∧ (i : Int) < len pr := by simp only [len]; omega
    have hL' := hL l[i] (List.getElem_mem hlt)
    rw [if_pos (by simp [len]; omega), if_pos hin, Ac7 _ _ hlt, List.drop_eq_getElem_cons hlt, plR]
    simp only [Ach, if_pos hin, if_pos hinp, Ac7 _ _ hlt]
    obtain ⟨x, hx⟩ : ∃ x, l[i] = x := ⟨_, rfl⟩
    simp only [hx] at hL' ⊢
    rw [Abo (by omega), Int.toNat_natCast]
    have hw : wi (p + 1) = p + 1 := Ad7 (by omega) (by omega)
    by_cases h24 : x.1 = 24
    · rw [if_pos (by simpa using h24), if_neg (show ¬(x.1 == 19) = true by rw [h24]; decide), if_neg (show ¬x.1 = 19 by omega), if_pos h24, hw]
      exact ih (i + 1) (p + 1) pl _ (by omega) (by omega) (by omega) (by omega) hpl (by rw [List.length_set]; exact hpr)
    rw [if_neg (by simpa using h24), if_neg h24]
    by_cases h19 : x.1 = 19
    · have hv := hL' h19
      have hip : 0 ≤ x.2.1 ∧ x.2.1 < len pl := by simp only [len]; omega
      rw [if_pos (by simpa using h19), if_pos h19]
      simp only [if_pos hip]
      by_cases h0 : 0 ≤ pl.getD x.2.1.toNat 0
      · rw [if_pos (by simpa using h0), if_pos h0]
        exact hK _ _ _ _
      · rw [if_neg (by simpa using h0), if_neg h0]
        exact ih (i + 1) p _ _ (by omega) (by omega) hp (by omega) (by rw [List.length_set]; exact hpl) (by rw [List.length_set]; exact hpr)
    · rw [if_neg (by simpa using h19), if_neg h19]
      exact ih (i + 1) p pl _ (by omega) (by omega) hp (by omega) hpl (by rw [List.length_set]; exact hpr)
theorem B12 {R : Type} (N : Nat) (nm : List UInt8) (data : Aaz) (l : OpL) (gl : Abt) (procs labels : Int) (x7 x8 pl pr : List Int) (hl : l.length ≤ 1099511627776) (hn : ∀ x, x ∈ l → Aae x = 0 ∨ (1 ≤ Aae x ∧ Aae x ≤ labels)) (hpl : (pl.length : Int) = labels + 1) (hpr : pr.length = l.length) (hv : ∀ n, pl.getD n 0 < l.length ∨ pl.getD n 0 ≤ 0)
    (K0 : Bool → List Int → List Int → Option R) (K1 : List Int → List Int → List Int → List Int → Option R) :
    ∀ (k i : Nat), i ≤ l.length → l.length - i < k →
    Abp N k i nm data l gl procs labels x7 x8 pl pr K0 K1 = if Bl0 i (l.drop i) pl pr = true then K1 x7 x8 pl pr else K0 false pl pr := by
  intro k
  induction k with
  | zero => intro i _ h; omega
  | succ k ih =>
    intro i hi hk
    simp only [Abp, A08]
    by_cases hlt : i < l.length
    case neg =>
      rw [if_neg (by simp [len]; omega), List.drop_eq_nil_of_le (by omega)]; rfl
    have hin : (0 : Int) ≤ i ∧ (i : Int) < len l := by simp only [len]; omega
    have hinp : (0 : Int) ≤ i ∧ (i : Int) < len pr := by simp only [len]; omega
    have hn' := hn l[i] (List.getElem_mem hlt)
    rw [if_pos (by simp [len]; omega), if_pos hin, Ac7 _ _ hlt, List.drop_eq_getElem_cons hlt, Bl0]
    obtain ⟨x, hx⟩ : ∃ x, l[i] = x := ⟨_, rfl⟩
    simp only [hx, Bku] at hn' ⊢
    rw [show (x.1, x.2.1, x.2.2) = x from rfl, Abo (by omega), ih (i + 1) (by omega) (by omega)]
    by_cases h0 : Aae x > 0
    · have hip : 0 ≤ Aae x ∧ Aae x < len pl := by simp only [len]; omega
      rw [if_pos (by simpa using h0), if_pos hip, show decide (Aae x ≤ 0) = false by simp; omega, Bool.false_or]
      have hv' := hv (Aae x).toNat
      by_cases hneg : pl.getD (Aae x).toNat 0 < 0
      · rw [if_pos (by simpa using hneg), show decide (0 ≤ pl.getD (Aae x).toNat 0) = false from decide_eq_false (by omega)]; rfl
      · rw [if_neg (by simpa using hneg), if_pos hip, if_pos (by simp only [len]; omega), if_pos hinp, show decide (0 ≤ pl.getD (Aae x).toNat 0) = true from decide_eq_true (by omega), Bool.true_and, Int.toNat_natCast]
        by_cases he : pr.getD (pl.getD (Aae x).toNat 0).toNat 0 = pr.getD i 0
        · rw [if_neg (by simpa using he), show (pr.getD (pl.getD (Aae x).toNat 0).toNat 0 == pr.getD i 0) = true by simpa using he, Bool.true_and]
        · rw [if_pos (by simpa using he), show (pr.getD (pl.getD (Aae x).toNat 0).toNat 0 == pr.getD i 0) = false by simpa using he]; rfl
    · rw [if_neg (by simpa using h0), show decide (Aae x ≤ 0) = true by simp; omega, Bool.true_or, Bool.true_and]
def A31 (l : OpL) (labels : Int) : Option (List Int × List Int) :=
  match plR 0 l 0 (List.replicate (labels + 1).toNat (-1)) (List.replicate l.length 0) with
  | none => none
  | some (pl, pr) => if Bl0 0 l pl pr = true then some (pl, pr) else none
theorem Cbb {R : Type} (N : Nat) (nm : List UInt8) (data : Aaz) (l : OpL) (gl : Abt) (procs labels : Int) (hl : l.length < N) (hl2 : l.length ≤ 1000000) (hb : 0 ≤ labels ∧ labels ≤ 20000) (hN : 20001 < N)
    (hL : ∀ o, o ∈ l → o.1 = 19 → 1 ≤ o.2.1 ∧ o.2.1 ≤ labels) (hn : ∀ x, x ∈ l → Aae x = 0 ∨ (1 ≤ Aae x ∧ Aae x ≤ labels)) (K : Bool → List Int → List Int → Option R) (hK : ∀ a b a' b', K false a b = K false a' b') :
    Af2 N nm data l gl procs labels K = match A31 l labels with | none => K false [] [] | some (pl, pr) => K true pl pr := by
  have hw : wi (labels + 1) = labels + 1 := Ad7 (by omega) (by omega)
  simp only [Af2, A7w, hw]
  rw [if_pos (by omega), if_pos (by simp only [len]; omega)]
  have h7 := B5g (R := R) N nm data l gl procs labels [] [] (List.replicate (Int.toNat (len l)) 0) (by omega) (fun y0 y1 y2 y3 y4 y5 y6 y7 y8 y9 => Abv N N 0 0 y0 y1 y2 y3 y4 y5 y6 y7 y8 y9 (fun y10 y11 y12 => K y10 y11 y12) (fun y13 y14 y15 y16 y17 y18 y19 y20 y21 y22 => Abp N N 0 y13 y14 y15 y16 y17 y18 y19 y20 y21 y22 (fun y23 y24 y25 => K y23 y24 y25) (fun y26 y27 y28 y29 => K true y28 y29)))
    (labels + 1).toNat N 0 (List.replicate (labels + 1).toNat 0) (by omega) (by omega) (by simp; omega)
  rw [show ((0 : Nat) : Int) = 0 from rfl] at h7
  refine Eq.trans h7 ?_
  rw [List.take_zero, List.nil_append, show Int.toNat (len l) = l.length by simp [len]]
  have h17 := B11 (R := R) N nm data l gl procs labels [] [] (by omega) hL (fun y10 y11 y12 => K y10 y11 y12) (fun y13 y14 y15 y16 y17 y18 y19 y20 y21 y22 => Abp N N 0 y13 y14 y15 y16 y17 y18 y19 y20 y21 y22 (fun y23 y24 y25 => K y23 y24 y25) (fun y26 y27 y28 y29 => K true y28 y29)) hK
    N 0 0 (List.replicate (labels + 1).toNat (-1)) (List.replicate l.length 0) (by omega) (by omega) (by omega) (by omega) (by simp; omega) (by simp)
  rw [show ((0 : Nat) : Int) = 0 from rfl, List.drop_zero] at h17
  refine Eq.trans h17 ?_
  unfold A31
  cases hp : plR 0 l 0 (List.replicate (labels + 1).toNat (-1)) (List.replicate l.length 0) with
  | none => rfl
  | some q =>
    obtain ⟨pl, pr⟩ := q
    have hlen := Bkv _ _ _ _ _ _ hp
    have hval := B75 _ _ _ _ _ _ (l.length : Int) hp (by omega) (fun n => by
      rw [List.getD_eq_getElem?_getD, List.getElem?_replicate]; split <;> simp)
    simp only [List.length_replicate] at hlen
    dsimp only
    have h37 := B12 (R := R) N nm data l gl procs labels [] [] pl pr (by omega) hn (by omega) (by omega) hval (fun y23 y24 y25 => K y23 y24 y25) (fun y26 y27 y28 y29 => K true y28 y29) N 0 (by omega) (by omega)
    rw [show ((0 : Nat) : Int) = 0 from rfl, List.drop_zero] at h37
    refine Eq.trans h37 ?_
    cases Bl0 0 l pl pr
    · exact hK _ _ _ _
    · rfl
def B76 (i : Nat) (o a pl pr : List Int) : Prop :=
  ∀ n, n < a.length → (a.getD n 0 = 0 ∧ pl.getD n 0 < 0) ∨ (1 ≤ a.getD n 0 ∧ pl.getD n 0 = o.getD n 0 ∧ 1 ≤ o.getD n 0 ∧ o.getD n 0 < i ∧ pr.getD (o.getD n 0).toNat 0 = a.getD n 0)
theorem B76.next {i : Nat} {o a pl pr : List Int} (h : B76 i o a pl pr) (v : Int) : B76 (i + 1) o a pl (pr.set i v) := by
  intro n hn
  rcases h n hn with h | ⟨h1, h2, h3, h4, h5⟩
  · exact .inl h
  · refine .inr ⟨h1, h2, h3, by omega, ?_⟩
    rw [Ak8, if_neg (by omega)]; exact h5
theorem Ch2 : ∀ (r : OpL) (i : Nat) (p m : Int) (o a pl pr : List Int), o.length = a.length → pl.length = a.length → pr.length = i + r.length → (∀ x, x ∈ r → x.1 = 19 → 1 ≤ x.2.1 ∧ x.2.1 < a.length) → 0 ≤ p → (1 ≤ p → 1 ≤ i) → (p = 0 → Adx r = none ∨ Adx r = some 24) → B76 i o a pl pr →
    match plF i r p m o a with
    | none => A8j r p m = none ∨ plR i r p pl pr = none
    | some (p', m', o', a') => A8j r p m = some (p', m') ∧ ∃ pl' pr', plR i r p pl pr = some (pl', pr') ∧ B76 (i + r.length) o' a' pl' pr' := by
  intro r
  induction r with
  | nil => intro i p m o a pl pr _ _ _ _ _ _ _ h; exact ⟨rfl, pl, pr, rfl, h⟩
  | cons x r ih =>
    intro i p m o a pl pr ho hpl hpr hx hp hpi hp0 hinv
    rw [List.length_cons] at hpr
    have hL : i + (x :: r).length = (i + 1) + r.length := by rw [List.length_cons]; omega
    rw [hL, plF, A8j, plR]
    have hx' := hx x (by simp)
    have hr : ∀ y, y ∈ r → y.1 = 19 → 1 ≤ y.2.1 ∧ y.2.1 < a.length := fun y hy => hx y (by simp [hy])
    by_cases h24 : x.1 = 24
    · rw [if_pos h24, if_pos h24, if_neg (show ¬x.1 = 19 by omega), if_pos h24]
      by_cases he : x.2.1 = p + 1
      · rw [if_pos he, if_pos he]
        exact ih (i + 1) (p + 1) m o a pl _ ho hpl (by rw [List.length_set]; omega) hr (by omega) (by omega) (by omega) (hinv.next _)
      · rw [if_neg he, if_neg he]; exact .inl rfl
    have hp1 : 1 ≤ p := by
      rcases Int.lt_or_le 0 p with h | h
      · omega
      · have := hp0 (by omega)
        simp only [Adx] at this
        rcases this with h | h
        · cases h
        · injection h with h; exact absurd h h24
    rw [if_neg h24, if_neg h24]
    by_cases h19 : x.1 = 19
    · have hv := hx' h19
      rw [if_pos h19, if_pos h19, if_pos h19]
      have hi := hinv x.2.1.toNat (by omega)
      by_cases h0 : a.getD x.2.1.toNat 0 ≠ 0 ∨ p = 0
      · rw [if_pos h0, if_pos (show 0 ≤ pl.getD x.2.1.toNat 0 by omega)]; exact .inr rfl
      · rw [if_neg h0, if_neg (show ¬0 ≤ pl.getD x.2.1.toNat 0 by omega)]
        refine ih (i + 1) p _ (o.set x.2.1.toNat i) (a.set x.2.1.toNat p) (pl.set x.2.1.toNat i) (pr.set i p) (by rw [List.length_set, List.length_set]; exact ho) (by rw [List.length_set, List.length_set]; exact hpl) (by rw [List.length_set]; omega) (by rw [List.length_set]; exact hr) hp (by omega) (by omega) ?_
        intro n hn
        rw [List.length_set] at hn
        rw [Ak8, Ak8, Ak8]
        by_cases hnn : x.2.1.toNat = n
        · right
          rw [if_pos ⟨hnn, by omega⟩, if_pos ⟨hnn, by omega⟩, if_pos ⟨hnn, by omega⟩, Int.toNat_natCast, Ak8, if_pos ⟨rfl, by omega⟩]
          exact ⟨hp1, rfl, by have := hpi hp1; omega, by omega, rfl⟩
        · rw [if_neg (fun h => hnn h.1), if_neg (fun h => hnn h.1), if_neg (fun h => hnn h.1)]
          exact hinv.next p n hn
    · rw [if_neg h19, if_neg h19, if_neg h19, if_neg h24]
      exact ih (i + 1) p m o a pl _ ho hpl (by rw [List.length_set]; omega) hr hp (by omega) (by omega) (hinv.next _)
def Bqu : OpL → Int → List Int
  | [], _ => []
  | x :: r, p => (if x.1 = 24 then p + 1 else p) :: Bqu r (if x.1 = 24 then p + 1 else p)
theorem B9x : ∀ (r : OpL) (i : Nat) (p : Int) (pl pr : List Int) (q : List Int × List Int), plR i r p pl pr = some q → pr.length = i + r.length → (∀ j, j < i → q.2.getD j 0 = pr.getD j 0) ∧ q.2.drop i = Bqu r p
  | [], i, p, pl, pr, q, h, hl => by
    simp only [plR, Option.some.injEq] at h; subst h
    exact ⟨fun _ _ => rfl, by rw [Bqu]; exact List.drop_eq_nil_of_le (by simp at hl; simp; omega)⟩
  | x :: r, i, p, pl, pr, q, h, hl => by
    rw [List.length_cons] at hl
    rw [Bqu]
    have key : ∀ (p2 : Int) (pl2 : List Int), plR (i + 1) r p2 pl2 (pr.set i p2) = some q → (∀ j, j < i → q.2.getD j 0 = pr.getD j 0) ∧ q.2.drop i = p2 :: Bqu r p2 := by
      intro p2 pl2 h2
      have := B9x r (i + 1) p2 pl2 (pr.set i p2) q h2 (by rw [List.length_set]; omega)
      refine ⟨fun j hj => ?_, ?_⟩
      · rw [this.1 j (by omega), Ak8, if_neg (by omega)]
      · have hlen := (Bkv r _ _ _ _ q h2).2
        rw [List.length_set] at hlen
        have h3 := this.1 i (by omega)
        rw [Ak8, if_pos ⟨rfl, by omega⟩, List.getD_eq_getElem?_getD, List.getElem?_eq_getElem (by omega)] at h3
        rw [List.drop_eq_getElem_cons (by omega), this.2]
        simp only [Option.getD_some] at h3
        rw [h3]
    rw [plR] at h
    by_cases h24 : x.1 = 24
    · rw [if_neg (show ¬x.1 = 19 by omega), if_pos h24] at h
      rw [if_pos h24]; exact key _ _ h
    · rw [if_neg h24] at h ⊢
      split at h
      · split at h
        · cases h
        · exact key _ _ h
      · exact key _ _ h
theorem Cej (o a pl pr : List Int) (I : Nat) (hinv : B76 I o a pl pr) : ∀ (r : OpL) (i : Nat) (p m : Int), pr.drop i = Bqu r p → A8j r p m ≠ none → 0 ≤ p → (p = 0 → Adx r = none ∨ Adx r = some 24) → (∀ x, x ∈ r → Aae x = 0 ∨ (1 ≤ Aae x ∧ Aae x < a.length)) →
    Bl0 i r pl pr = Atp p r o a := by
  intro r
  induction r with
  | nil => intros; rfl
  | cons x r ih =>
    intro i p m hpr hs hp hp0 hn
    rw [Bqu] at hpr
    have hlt : i < pr.length := by
      rcases Nat.lt_or_ge i pr.length with h | h
      · exact h
      · rw [List.drop_eq_nil_of_le h] at hpr; cases hpr
    have hg : pr.getD i 0 = (if x.1 = 24 then p + 1 else p) := by
      rw [List.drop_eq_getElem_cons hlt] at hpr
      rw [List.getD_eq_getElem?_getD, List.getElem?_eq_getElem hlt]; exact (List.cons.inj hpr).1
    have hd : pr.drop (i + 1) = Bqu r (if x.1 = 24 then p + 1 else p) := by
      rw [List.drop_eq_getElem_cons hlt] at hpr; exact (List.cons.inj hpr).2
    have hn' := hn x (by simp)
    rw [Bl0, Atp, hg]
    have body : ∀ p2 : Int, 1 ≤ p2 → (decide (Aae x ≤ 0) || (decide (0 ≤ pl.getD (Aae x).toNat 0) && pr.getD (pl.getD (Aae x).toNat 0).toNat 0 == p2)) = (decide (Aae x ≤ 0) || (a.getD (Aae x).toNat 0 == p2 && o.getD (Aae x).toNat 0 != 0)) := by
      intro p2 h2
      rcases hn' with h | h
      · rw [h]; rfl
      · rcases hinv (Aae x).toNat (by omega) with ⟨e1, e2⟩ | ⟨e1, e2, e3, e4, e5⟩
        · rw [e1, show decide (0 ≤ pl.getD (Aae x).toNat 0) = false from decide_eq_false (by omega), show ((0 : Int) == p2) = false from beq_eq_false_iff_ne.mpr (by omega)]; rfl
        · rw [e2, e5, show decide (0 ≤ o.getD (Aae x).toNat 0) = true from decide_eq_true (by omega), show (o.getD (Aae x).toNat 0 != 0) = true from bne_iff_ne.mpr (by omega), Bool.true_and, Bool.and_true]
    rw [B2s] at hs
    have hr : ∀ y, y ∈ r → Aae y = 0 ∨ (1 ≤ Aae y ∧ Aae y < a.length) := fun y hy => hn y (by simp [hy])
    by_cases h24 : x.1 = 24
    · simp only [if_pos h24] at hs hd ⊢
      by_cases he : x.2.1 = p + 1
      · rw [if_pos he] at hs
        rw [he, body _ (by omega), ih (i + 1) (p + 1) m hd hs (by omega) (by omega) hr]
      · rw [if_neg he] at hs; exact absurd rfl hs
    · simp only [if_neg h24] at hs hd ⊢
      have hp1 : 1 ≤ p := by
        rcases Int.lt_or_le 0 p with h | h
        · omega
        · have := hp0 (by omega)
          simp only [Adx] at this
          rcases this with h | h
          · cases h
          · injection h with h; exact absurd h h24
      rw [body _ hp1, ih (i + 1) p _ hd hs hp (by omega) hr]
theorem Cbc (l : OpL) (procs labels : Int) (hb : 0 ≤ labels) (hf : Ajx l = true) (hL : ∀ o, o ∈ l → o.1 = 19 → 1 ≤ o.2.1 ∧ o.2.1 ≤ labels) (hn : ∀ x, x ∈ l → Aae x = 0 ∨ (1 ≤ Aae x ∧ Aae x ≤ labels)) :
    (match Akz l procs labels with | none => false | some (b, o, a) => b && Atp 0 l o a) = (Bi4 l 0 0 procs labels && (A31 l labels).isSome) ∧
    ∀ b o a pl pr, Akz l procs labels = some (b, o, a) → Atp 0 l o a = true → A31 l labels = some (pl, pr) → ∀ n : Nat, n < (labels + 1).toNat → (a.getD n 0 = 0 ∧ pl.getD n 0 < 0) ∨ (1 ≤ a.getD n 0 ∧ pl.getD n 0 = o.getD n 0 ∧ 1 ≤ o.getD n 0 ∧ o.getD n 0 < l.length) := by
  have hlen : (List.replicate (labels + 1).toNat (0 : Int)).length = (labels + 1).toNat := List.length_replicate
  have hrel := Ch2 l 0 0 0 (List.replicate (labels + 1).toNat 0) (List.replicate (labels + 1).toNat 0) (List.replicate (labels + 1).toNat (-1)) (List.replicate l.length 0) rfl (by simp) (by simp) (fun x hx h19 => by have := hL x hx h19; rw [hlen]; omega) (by omega) (by omega)
    (fun _ => by
      unfold Ajx at hf
      simp only [Bool.or_eq_true, beq_iff_eq] at hf; exact hf)
    (fun n hn => by
      left
      rw [hlen] at hn
      simp only [List.getD_eq_getElem?_getD, List.getElem?_replicate, if_pos hn, Option.getD_some]
      exact ⟨trivial, by omega⟩)
  have hh : Adx l = none ∨ Adx l = some 24 := by
    unfold Ajx at hf
    simp only [Bool.or_eq_true, beq_iff_eq] at hf; exact hf
  unfold Akz A31 Bi4
  cases hp : plF 0 l 0 0 (List.replicate (labels + 1).toNat 0) (List.replicate (labels + 1).toNat 0) with
  | none =>
    rw [hp] at hrel
    refine ⟨?_, fun _ _ _ _ _ h => by cases h⟩
    rcases hrel with h | h
    · rw [h]; rfl
    · rw [h]; simp
  | some q =>
    obtain ⟨p, m, o, a⟩ := q
    rw [hp] at hrel
    obtain ⟨h1, pl, pr, h2, h3⟩ := hrel
    have hal := B9u _ _ _ _ _ _ _ hp
    simp only [List.length_replicate] at hal
    have hrun := B9x l 0 0 _ _ _ h2 (by simp)
    rw [List.drop_zero] at hrun
    have hu := Cej o a pl pr (0 + l.length) h3 l 0 0 0 hrun.2 (by rw [h1]; simp) (by omega) (fun _ => hh) (fun x hx => by
      have := hn x hx
      rw [hal.2]; omega)
    rw [h1, h2]
    simp only [hu]
    refine ⟨?_, ?_⟩
    · cases Atp 0 l o a <;> simp
    · intro b o' a' pl' pr' e1 e2 e3 n hn'
      simp only [Option.some.injEq, Prod.mk.injEq] at e1
      obtain ⟨_, rfl, rfl⟩ := e1
      rw [if_pos e2] at e3
      simp only [Option.some.injEq, Prod.mk.injEq] at e3
      obtain ⟨rfl, rfl⟩ := e3
      rcases h3 n (by omega) with h | ⟨k1, k2, k3, k4, k5⟩
      · exact .inl h
      · exact .inr ⟨k1, k2, k3, by omega⟩
theorem B13 {R : Type} (N : Nat) (x : Int × Int × Int) (d : Int) (hx : 1 ≤ x.1 ∧ x.1 ≤ 30) (hd : 0 ≤ d ∧ d ≤ 4000) (hm : x.1 = 24 ∨ x.1 = 23 ∨ x.1 = 28 → 0 ≤ x.2.1 ∧ x.2.1 ≤ 4000 ∧ 0 ≤ x.2.2 ∧ x.2.2 ≤ 4000) (K : Int → Option R) :
    Agc N x.1 x.2.1 x.2.2 d K = K (Ah2 x d) := by
  obtain ⟨op, n, m⟩ := x
  simp only at hx hm
  have w1 : wi (d + 1) = d + 1 := Ad7 (by omega) (by omega)
  have w2 : wi (d - 1) = d - 1 := Ad7 (by omega) (by omega)
  have w3 : wi (d - 2) = d - 2 := Ad7 (by omega) (by omega)
  have w4 : wi (d - 3) = d - 3 := Ad7 (by omega) (by omega)
  simp only [Agc, Bbg, Acd, A3n, Abw, A3m, Adf, w1, w2, w3, w4]
  by_cases h24 : op = 24
  · subst h24
    rw [show wi (2 + m) = 2 + m from Ad7 (by have := hm (.inl rfl); omega) (by have := hm (.inl rfl); omega)]
    simp [Ah2]
  by_cases h23 : op = 23
  · subst h23
    rw [show wi (n + 1) = n + 1 from Ad7 (by have := hm (.inr (.inl rfl)); omega) (by have := hm (.inr (.inl rfl)); omega)]
    simp [Ah2]
  by_cases h28 : op = 28
  · subst h28
    rw [show wi (n + 1) = n + 1 from Ad7 (by have := hm (.inr (.inr rfl)); omega) (by have := hm (.inr (.inr rfl)); omega)]
    simp [Ah2]
  rcases Bdd hx with rfl | rfl | rfl | rfl | rfl | rfl | rfl | rfl | rfl | rfl | rfl | rfl | rfl | rfl | rfl | rfl | rfl | rfl | rfl | rfl | rfl | rfl | rfl | rfl | rfl | rfl | rfl | rfl | rfl | rfl <;>
    first
    | (exfalso; omega)
    | (simp [Ah2, kT, Amo]; done)
    | (simp [Ah2, kT, Amo]; congr 1; omega)
theorem B14 {R : Type} (N : Nat) (x : Int × Int × Int) (hx : 1 ≤ x.1 ∧ x.1 ≤ 30) (K : Int → Option R) : Afb N x.1 x.2.1 x.2.2 K = K (kT x.1).2.2.1 := by
  obtain ⟨op, n, m⟩ := x
  simp only at hx
  simp only [Afb, Bbj, Acm, A3o, Adw]
  rcases Bdd hx with rfl | rfl | rfl | rfl | rfl | rfl | rfl | rfl | rfl | rfl | rfl | rfl | rfl | rfl | rfl | rfl | rfl | rfl | rfl | rfl | rfl | rfl | rfl | rfl | rfl | rfl | rfl | rfl | rfl | rfl <;>
    simp [kT, Amo]
def B77 (x : Int × Int × Int) (d : Int) : Bool :=
  if x.1 = 2 ∨ x.1 = 3 then inB x.2.1 2 (d - 1) else if x.1 = 4 then decide (2 ≤ x.2.1) else if x.1 = 23 then inB x.2.1 2 (d - 3) else if x.1 = 18 then decide (x.2.1 ≤ d + 2000 + 2) else true
theorem B15 {R : Type} (N : Nat) (x : Int × Int × Int) (d : Int) (hd : 0 ≤ d ∧ d ≤ 4000) (K : Bool → Option R) : Afc N x.1 x.2.1 x.2.2 d K = K (B77 x d) := by
  obtain ⟨op, n, m⟩ := x
  have w1 : wi (d - 1) = d - 1 := Ad7 (by omega) (by omega)
  have w3 : wi (d - 3) = d - 3 := Ad7 (by omega) (by omega)
  have w2 : wi (wi (d + 2000) + 2) = d + 2000 + 2 := by rw [Ad7 (i := d + 2000) (by omega) (by omega), Ad7 (by omega) (by omega)]
  simp only [Afc, Bbm, Agl, A5r, An4, w1, w2, w3, B77]
  by_cases h2 : op = 2
  · simp [h2]
  by_cases h3 : op = 3
  · simp [h3]
  by_cases h4 : op = 4
  · simp [h4]
  by_cases h23 : op = 23
  · simp [h23]
  by_cases h18 : op = 18
  · simp [h18]
  simp [h2, h3, h4, h23, h18]
theorem Cek (x : Int × Int × Int) (d : Int) (f : Bool) (h24 : x.1 ≠ 24) : Bca x d f = (((x.1 == 18 && f) || B77 x d) && decide (2 ≤ d - (kT x.1).2.2.1)) := by
  unfold Bca B77
  have b24 : (x.1 == 24) = false := beq_eq_false_iff_ne.mpr h24
  rw [b24, Bool.false_or]
  congr 1
  by_cases h2 : x.1 = 2 ∨ x.1 = 3
  · rw [if_pos h2, if_pos h2, show (x.1 == 18) = false from beq_eq_false_iff_ne.mpr (by omega)]; simp
  rw [if_neg h2, if_neg h2]
  by_cases h4 : x.1 = 4
  · rw [if_pos h4, if_pos h4, h4]; simp
  rw [if_neg h4, if_neg h4]
  by_cases h23 : x.1 = 23
  · rw [if_pos h23, if_pos h23, h23]; simp
  rw [if_neg h23, if_neg h23]
  by_cases h18 : x.1 = 18
  · rw [if_pos h18, if_pos h18, h18]; simp
  · rw [if_neg h18, if_neg h18]; simp
def A9z (l : OpL) (j : Nat) : Bool := (Abd l (Ac0 l j)).1 == 28
theorem Cbd {R : Type} (N : Nat) (l : OpL) (hl : l.length ≤ 1099511627776) (K : OpL → Int → Option R) : ∀ (k j : Nat), Ac0 l j < l.length → l.length - j < k →
    Ae8 N k l j K = K l (Ac0 l j : Nat) := by
  intro k
  induction k with
  | zero => intro j _ h; omega
  | succ k ih =>
    intro j hj hk
    have hjl : j < l.length := by unfold Ac0 at hj; omega
    have hin : (0 : Int) ≤ j ∧ (j : Int) < len l := by simp only [len]; omega
    have hd' : l.drop j = l[j] :: l.drop (j + 1) := List.drop_eq_getElem_cons hjl
    simp only [Ae8, A5u]
    rw [if_pos (by simp only [len, decide_eq_true_eq]; omega), if_pos hin, Ac7 _ _ hjl, Abo (by omega)]
    by_cases h19 : l[j].1 = 19
    · have : Ac0 l j = Ac0 l (j + 1) := by unfold Ac0; rw [hd', Asm, if_pos h19]; omega
      rw [if_pos (by simpa using h19), ih (j + 1) (by omega) (by omega), this]
    · have : Ac0 l j = j := by unfold Ac0; rw [hd', Asm, if_neg h19]; rfl
      rw [if_neg (by simpa using h19), this]
theorem B16 {R : Type} (N : Nat) (l : OpL) (j : Int) (hl : l.length ≤ 1099511627776) (hN : l.length < N) (ho : Ae0 0 l = true) (h0 : 0 ≤ j) (hj : j < l.length) (K : Bool → Option R) :
    Aer N l j K = K (A9z l j.toNat) := by
  obtain ⟨n, rfl⟩ := Int.eq_ofNat_of_zero_le h0
  have hlt := Aue ho (j := n) (by omega)
  simp only [Aer, Bbp]
  rw [Cbd N l hl _ N n hlt (by omega), if_pos (by simp only [len, decide_eq_true_eq]; omega), if_pos (by simp only [len]; omega), Int.toNat_natCast, Int.toNat_natCast]
  rfl
def dpB (l : OpL) (pl : List Int) (i : Nat) (d : Int) (f : Bool) (x : Int × Int × Int) : Bool :=
  Bca x d (A2e l i) && decide (2 ≤ Ah2 x d) && decide (Ah2 x d ≤ 4000) && (x.1 != 28 || !f) && (decide (Aae x ≤ 0) || (A9z l (pl.getD (Aae x).toNat 0).toNat == (x.1 == 27)))
def A0m (l : OpL) (pl : List Int) : Nat → Int → Bool → OpL → Bool
  | _, _, _, [] => true
  | i, d, f, x :: r => if x.1 = 24 then A0m l pl (i + 1) (2 + x.2.2) true r
    else dpB l pl i d f x && A0m l pl (i + 1) (Ah2 x d) (if x.1 = 19 then f else Ag7 x.1) r
noncomputable def By0 {R : Type} (N : Nat) (rc : Ans R) (y0 : Int) (x1 : Bool) (x2 : Int) (x3 : List UInt8) (x4 : Aaz) (x5 : OpL) (x6 : Abt) (x7 x8 : Int) (x9 x10 : List Int) (K0 : Bool → Option R) (v0 v1 v2 : Int) : Option R :=
  (Abf N v0 v1 v2 (fun y4 => if ((decide ((y4 > (0 : Int)))) = true) then (if (((0 : Int) ≤ y4) ∧ (y4 < (len x9))) then (Aer N x5 ((List.getD x9 (Int.toNat y4) (0 : Int))) (fun y5 => if ((!(y5 == (v0 == (27 : Int)))) = true) then (K0 false) else (if ((v0 != (19 : Int)) = true) then (Aa0 N v0 v1 v2 (fun y6 => rc y0 y6 ((wi (x2 + (1 : Int)))) x3 x4 x5 x6 x7 x8 x9 x10)) else (rc y0 x1 ((wi (x2 + (1 : Int)))) x3 x4 x5 x6 x7 x8 x9 x10)))) else none) else (if ((v0 != (19 : Int)) = true) then (Aa0 N v0 v1 v2 (fun y7 => rc y0 y7 ((wi (x2 + (1 : Int)))) x3 x4 x5 x6 x7 x8 x9 x10)) else (rc y0 x1 ((wi (x2 + (1 : Int)))) x3 x4 x5 x6 x7 x8 x9 x10))))
noncomputable def Bl1 {R : Type} (N : Nat) (rc : Ans R) (y0 : Int) (x1 : Bool) (x2 : Int) (x3 : List UInt8) (x4 : Aaz) (x5 : OpL) (x6 : Abt) (x7 x8 : Int) (x9 x10 : List Int) (K0 : Bool → Option R) (v0 v1 v2 : Int) : Option R :=
  if ((v0 == (28 : Int)) = true) then (if (x1 = true) then (K0 false) else By0 N rc y0 x1 x2 x3 x4 x5 x6 x7 x8 x9 x10 K0 v0 v1 v2) else By0 N rc y0 x1 x2 x3 x4 x5 x6 x7 x8 x9 x10 K0 v0 v1 v2
theorem Cc1 {R : Type} (N : Nat) (rc : Ans R) (x0 : Int) (x1 : Bool) (x2 : Int) (x3 : List UInt8) (x4 : Aaz) (x5 : OpL) (x6 : Abt) (x7 x8 : Int) (x9 x10 : List Int) (K0 : Bool → Option R) (K1 : Option R) :
    A7z @Agc @Afb @Aaq @Afc @Abf @Aer @Aa0 N rc x0 x1 x2 x3 x4 x5 x6 x7 x8 x9 x10 K0 K1 =
    if ((decide ((x2 < (len x5)))) = true) then (if (((0 : Int) ≤ x2) ∧ (x2 < (len x5))) then (let v0 := (List.getD x5 (Int.toNat x2) ((0 : Int), ((0 : Int), (0 : Int)))).1; let v1 := (List.getD x5 (Int.toNat x2) ((0 : Int), ((0 : Int), (0 : Int)))).2.1; let v2 := (List.getD x5 (Int.toNat x2) ((0 : Int), ((0 : Int), (0 : Int)))).2.2; if ((v0 == (24 : Int)) = true) then (rc ((wi ((2 : Int) + v2))) true ((wi (x2 + (1 : Int)))) x3 x4 x5 x6 x7 x8 x9 x10) else (Agc N v0 v1 v2 x0 (fun y0 => if ((v0 == (18 : Int)) = true) then (let v3 := (wi (x2 - (1 : Int))); if (((0 : Int) ≤ v3) ∧ (v3 < (len x5))) then (Afb N v0 v1 v2 (fun y1 => if ((decide (((wi (x0 - y1)) < (2 : Int)))) = true) then (K0 false) else (Aaq N y0 2 4000 (fun y2 => if ((!y2) = true) then (K0 false) else (if ((!((List.getD x5 (Int.toNat v3) ((0 : Int), ((0 : Int), (0 : Int)))).1 == (19 : Int))) = true) then (Afc N v0 v1 v2 x0 (fun y3 => if ((!y3) = true) then (K0 false) else Bl1 N rc y0 x1 x2 x3 x4 x5 x6 x7 x8 x9 x10 K0 v0 v1 v2)) else Bl1 N rc y0 x1 x2 x3 x4 x5 x6 x7 x8 x9 x10 K0 v0 v1 v2))))) else none)
      else (Afb N v0 v1 v2 (fun y20 => if ((decide (((wi (x0 - y20)) < (2 : Int)))) = true) then (K0 false) else (Aaq N y0 2 4000 (fun y21 => if ((!y21) = true) then (K0 false) else (Afc N v0 v1 v2 x0 (fun y22 => if ((!y22) = true) then (K0 false) else Bl1 N rc y0 x1 x2 x3 x4 x5 x6 x7 x8 x9 x10 K0 v0 v1 v2))))))))) else none) else K1 := rfl
theorem Cc2 {R : Type} (N : Nat) (rc : Ans R) (y0 : Int) (f : Bool) (i : Nat) (nm : List UInt8) (data : Aaz) (l : OpL) (gl : Abt) (procs labels : Int) (pl pr : List Int) (K0 : Bool → Option R) (x : Int × Int × Int)
    (hl : l.length ≤ 1099511627776) (hN : l.length < N) (ho : Ae0 0 l = true) (hi : i < l.length) (hn : 0 < Aae x → 0 ≤ Aae x ∧ Aae x < pl.length ∧ 0 ≤ pl.getD (Aae x).toNat 0 ∧ pl.getD (Aae x).toNat 0 < l.length) :
    By0 N rc y0 f i nm data l gl procs labels pl pr K0 x.1 x.2.1 x.2.2 = if (decide (Aae x ≤ 0) || (A9z l (pl.getD (Aae x).toNat 0).toNat == (x.1 == 27))) = true then rc y0 (if x.1 = 19 then f else Ag7 x.1) ((i + 1 : Nat) : Int) nm data l gl procs labels pl pr else K0 false := by
  have fin : (if ((x.1 != (19 : Int)) = true) then (Aa0 N x.1 x.2.1 x.2.2 (fun y7 => rc y0 y7 ((wi ((i : Int) + (1 : Int)))) nm data l gl procs labels pl pr)) else (rc y0 f ((wi ((i : Int) + (1 : Int)))) nm data l gl procs labels pl pr)) = rc y0 (if x.1 = 19 then f else Ag7 x.1) ((i + 1 : Nat) : Int) nm data l gl procs labels pl pr := by
    rw [Bh3, Abo (by omega)]
    by_cases h : x.1 = 19
    · rw [if_neg (by simp [h]), if_pos h]
    · rw [if_pos (by simpa using h), if_neg h]
  unfold By0
  rw [Bku, show (x.1, x.2.1, x.2.2) = x from rfl]
  by_cases h0 : Aae x > 0
  · have hn' := hn h0
    rw [if_pos (by simpa using h0), if_pos (by simp only [len]; omega), B16 N l _ hl hN ho hn'.2.2.1 hn'.2.2.2, show decide (Aae x ≤ 0) = false from decide_eq_false (by omega), Bool.false_or]
    cases A9z l (pl.getD (Aae x).toNat 0).toNat == (x.1 == 27)
    · rfl
    · rw [if_neg (by decide), if_pos rfl]; exact fin
  · rw [if_neg (by simpa using h0), show decide (Aae x ≤ 0) = true from decide_eq_true (by omega), Bool.true_or, if_pos rfl]; exact fin
theorem Cel {R : Type} (N : Nat) (rc : Ans R) (y0 : Int) (f : Bool) (i : Nat) (nm : List UInt8) (data : Aaz) (l : OpL) (gl : Abt) (procs labels : Int) (pl pr : List Int) (K0 : Bool → Option R) (x : Int × Int × Int)
    (hl : l.length ≤ 1099511627776) (hN : l.length < N) (ho : Ae0 0 l = true) (hi : i < l.length) (hn : 0 < Aae x → 0 ≤ Aae x ∧ Aae x < pl.length ∧ 0 ≤ pl.getD (Aae x).toNat 0 ∧ pl.getD (Aae x).toNat 0 < l.length) :
    Bl1 N rc y0 f i nm data l gl procs labels pl pr K0 x.1 x.2.1 x.2.2 = if ((x.1 != 28 || !f) && (decide (Aae x ≤ 0) || (A9z l (pl.getD (Aae x).toNat 0).toNat == (x.1 == 27)))) = true then rc y0 (if x.1 = 19 then f else Ag7 x.1) ((i + 1 : Nat) : Int) nm data l gl procs labels pl pr else K0 false := by
  unfold Bl1
  rw [Cc2 N rc y0 f i nm data l gl procs labels pl pr K0 x hl hN ho hi hn]
  by_cases h : x.1 = 28
  · rw [if_pos (by simpa using h), show (x.1 != 28) = false by rw [h]; rfl]
    cases f
    · rfl
    · rfl
  · rw [if_neg (by simpa using h), show (x.1 != 28) = true from bne_iff_ne.mpr h]; rfl
theorem Cc3 {R : Type} (N : Nat) (nm : List UInt8) (data : Aaz) (l : OpL) (gl : Abt) (procs labels : Int) (pl pr : List Int) (nd : Int) (hp : procs ≤ 200) (hl : l.length ≤ 1099511627776) (hN : l.length < N) (ho : Ae0 0 l = true) (hf : Ajx l = true)
    (hall : ∀ x, x ∈ l → Ag3 nd procs labels x = true) (hn : ∀ x, x ∈ l → 0 < Aae x → 0 ≤ Aae x ∧ Aae x < pl.length ∧ 0 ≤ pl.getD (Aae x).toNat 0 ∧ pl.getD (Aae x).toNat 0 < l.length) (K0 : Bool → Option R) (K1 : Option R) :
    ∀ (k i : Nat) (d : Int) (f : Bool), i ≤ l.length → l.length - i < k → 0 ≤ d ∧ d ≤ 4000 →
      Ae4 N k d f i nm data l gl procs labels pl pr K0 K1 = if A0m l pl i d f (l.drop i) = true then K1 else K0 false := by
  intro k
  induction k with
  | zero => intro i _ _ _ h; omega
  | succ k ih =>
    intro i d f hi hk hd
    simp only [Ae4, Cc1]
    by_cases hlt : i < l.length
    case neg =>
      rw [if_neg (by simp [len]; omega), List.drop_eq_nil_of_le (by omega)]; rfl
    have hin : (0 : Int) ≤ i ∧ (i : Int) < len l := by simp only [len]; omega
    have hx' := hall l[i] (List.getElem_mem hlt)
    have hn' := hn l[i] (List.getElem_mem hlt)
    have h0i : i = 0 → (l[i]).1 = 24 := by
      rintro rfl
      cases l with
      | nil => simp at hlt
      | cons y r => simpa [Ajx, Adx] using hf
    rw [if_pos (by simp [len]; omega), if_pos hin, Ac7 _ _ hlt, List.drop_eq_getElem_cons hlt, A0m]
    obtain ⟨x, hx⟩ : ∃ x, l[i] = x := ⟨_, rfl⟩
    simp only [hx] at hx' hn' h0i ⊢
    have hop := A3t hx'
    by_cases h24 : x.1 = 24
    · have hm := Bvy hp hx' (.inl h24)
      have hm8 : x.2.2 ≤ 8 := by
        obtain ⟨a, b, c⟩ := x
        simp only at h24; subst h24
        simp [Ag3, Asx, inB] at hx'
        simp only; omega
      rw [if_pos (by simpa using h24), if_pos h24, Ad7 (i := 2 + x.2.2) (by omega) (by omega), Abo (by omega)]
      exact ih (i + 1) (2 + x.2.2) true (by omega) (by omega) (by omega)
    rw [if_neg (by simpa using h24), if_neg h24, B13 N x d hop hd (Bvy hp hx')]
    have hip : 0 < i := by
      rcases Nat.eq_zero_or_pos i with h | h
      · exact absurd (h0i h) h24
      · exact h
    have hkt := B1v x.1
    have hwn : wi (d - (kT x.1).2.2.1) = d - (kT x.1).2.2.1 := Ad7 (by omega) (by omega)
    have mid : Bl1 N (fun x0 x1 x2 x3 x4 x5 x6 x7 x8 x9 x10 => Ae4 N k x0 x1 x2 x3 x4 x5 x6 x7 x8 x9 x10 K0 K1) (Ah2 x d) f i nm data l gl procs labels pl pr K0 x.1 x.2.1 x.2.2 = _ := Cel N _ (Ah2 x d) f i nm data l gl procs labels pl pr K0 x hl hN ho hlt hn'
    have step : ∀ e : Bool, e = ((x.1 == 18 && A2e l i) || B77 x d) → (if (decide (wi (d - (kT x.1).2.2.1) < 2)) = true then K0 false else if (!inB (Ah2 x d) 2 4000) = true then K0 false else if (!e) = true then K0 false else Bl1 N (fun x0 x1 x2 x3 x4 x5 x6 x7 x8 x9 x10 => Ae4 N k x0 x1 x2 x3 x4 x5 x6 x7 x8 x9 x10 K0 K1) (Ah2 x d) f i nm data l gl procs labels pl pr K0 x.1 x.2.1 x.2.2) =
        if (dpB l pl i d f x && A0m l pl (i + 1) (Ah2 x d) (if x.1 = 19 then f else Ag7 x.1) (l.drop (i + 1))) = true then K1 else K0 false := by
      intro e he
      unfold dpB
      rw [Cek x d _ h24, ← he, hwn]
      by_cases c1 : d - (kT x.1).2.2.1 < 2
      · rw [if_pos (by simpa using c1), show decide (2 ≤ d - (kT x.1).2.2.1) = false from decide_eq_false (by omega)]; simp
      rw [if_neg (by simpa using c1), show decide (2 ≤ d - (kT x.1).2.2.1) = true from decide_eq_true (by omega), Bool.and_true]
      by_cases c2 : 2 ≤ Ah2 x d
      case neg =>
        rw [if_pos (by unfold inB; simp; omega), show decide (2 ≤ Ah2 x d) = false from decide_eq_false c2]; simp
      by_cases c3 : Ah2 x d ≤ 4000
      case neg =>
        rw [if_pos (by unfold inB; simp; omega), show decide (Ah2 x d ≤ 4000) = false from decide_eq_false c3]; simp
      rw [if_neg (by unfold inB; simp; omega), show decide (2 ≤ Ah2 x d) = true from decide_eq_true c2, show decide (Ah2 x d ≤ 4000) = true from decide_eq_true c3, Bool.and_true, Bool.and_true]
      cases e
      · rfl
      rw [if_neg (by decide), mid, Bool.true_and]
      cases hc : ((x.1 != 28 || !f) && (decide (Aae x ≤ 0) || (A9z l (pl.getD (Aae x).toNat 0).toNat == (x.1 == 27))))
      · rfl
      · rw [if_pos rfl, Bool.true_and]
        exact ih (i + 1) (Ah2 x d) _ (by omega) (by omega) (by omega)
    simp only [B14 N x hop, An4, B15 N x d hd]
    by_cases h18 : x.1 = 18
    · have hw : wi ((i : Int) - 1) = ((i - 1 : Nat) : Int) := by rw [Ad7 (by omega) (by omega)]; omega
      rw [if_pos (by simpa using h18), hw, if_pos (by simp only [len]; omega), Int.toNat_natCast]
      have hpv : A2e l i = ((Abd l (i - 1)).1 == 19) := by unfold A2e; rw [show decide (0 < i) = true from decide_eq_true hip, Bool.true_and]
      refine Eq.trans ?_ (step _ rfl)
      rw [hpv, show (x.1 == 18) = true by rw [h18]; rfl, Bool.true_and]
      show (if decide (wi (d - (kT x.1).2.2.1) < 2) = true then K0 false else if (!inB (Ah2 x d) 2 4000) = true then K0 false else if (!(Abd l (i - 1)).1 == 19) = true then _ else _) = _
      cases (Abd l (i - 1)).1 == 19 <;> rfl
    · rw [if_neg (by simpa using h18)]
      refine Eq.trans ?_ (step _ rfl)
      rw [show (x.1 == 18) = false from beq_eq_false_iff_ne.mpr h18]; rfl
def Aub : OpL → Option Int
  | [] => none
  | x :: r => if x.1 = 19 then Aub r else some x.1
theorem Bth : ∀ (l : OpL) (h : Asm l < l.length), Aub l = some (Abd l (Asm l)).1
  | [], h => by simp [Asm] at h
  | x :: r, h => by
    rw [Asm] at h ⊢
    rw [Aub]
    split
    · rename_i h19
      rw [if_pos h19] at h
      rw [Bth r (by simp at h; omega)]; rfl
    · rfl
theorem B2t {l : OpL} (ho : Ae0 0 l = true) {j : Nat} (hj : j < l.length) : Aub (l.drop j) = some (Abd l (Ac0 l j)).1 := by
  have h := Aue ho hj
  rw [Bth _ (by rw [List.length_drop]; unfold Ac0 at h; omega)]
  unfold Abd Ac0
  rw [B2o]
theorem By1 (l : OpL) (pl : List Int) : ∀ (r : OpL) (i : Nat) (d : Int), Aub r = some 28 → A0m l pl i d true r = false
  | [], _, _, h => by cases h
  | x :: r, i, d, h => by
    rw [Aub] at h
    rw [A0m]
    by_cases h19 : x.1 = 19
    · rw [if_pos h19] at h
      rw [if_neg (by omega), if_pos h19, By1 l pl r (i + 1) _ h, Bool.and_false]
    · rw [if_neg h19] at h
      injection h with h
      rw [if_neg (by omega)]
      have : dpB l pl i d true x = false := by
        unfold dpB
        rw [h]; simp
      rw [this, Bool.false_and]
theorem Cem (l : OpL) (o pl : List Int) (hol : Ae0 0 l = true) (hrel : ∀ x, x ∈ l → 0 < Aae x → pl.getD (Aae x).toNat 0 = o.getD (Aae x).toNat 0)
    (hop : ∀ x, x ∈ l → 1 ≤ x.1 ∧ x.1 ≤ 30 ∧ (x.1 = 29 → 0 ≤ x.2.2) ∧ (x.1 = 24 → 0 ≤ x.2.2 ∧ x.2.2 ≤ 8)) :
    ∀ (r : OpL) (i c : Nat) (d : Int) (f : Bool), l.drop i = r → Ae0 c r = true → (f = true → Aub r ≠ some 28) → Bi0 l o i d r = A0m l pl i d f r := by
  intro r
  induction r with
  | nil => intros; rfl
  | cons x r ih =>
    intro i c d f hd hc hf
    have hlt : i < l.length := by
      rcases Nat.lt_or_ge i l.length with h | h
      · exact h
      · rw [List.drop_eq_nil_of_le h] at hd; cases hd
    have hdc := hd
    rw [List.drop_eq_getElem_cons hlt] at hdc
    have hx : l[i] = x := (List.cons.inj hdc).1
    have hr : l.drop (i + 1) = r := (List.cons.inj hdc).2
    have hm : x ∈ l := by rw [← hx]; exact List.getElem_mem hlt
    have hop' := hop x hm
    have hoa : Abd l i = x := by rw [Awp hlt]; exact hx
    rw [B2r c x r hop'.1] at hc
    simp only [Bool.and_eq_true] at hc
    obtain ⟨⟨⟨hc1, hc2⟩, hc3⟩, hc4⟩ := hc
    rw [Bi0, A0m]
    have hG : ∀ f2 : Bool, (f2 = if x.1 = 19 then f else Ag7 x.1) → ∀ d2, (x.1 == 19 || Asl l i || decide (l.length ≤ i + 1) || (Abd l (Ac0 l (i + 1))).1 != 28) = true → Bi0 l o (i + 1) d2 r = A0m l pl (i + 1) d2 f2 r := by
      intro f2 hf2 d2 hg
      refine ih (i + 1) _ d2 f2 hr hc4 ?_
      intro h1
      by_cases h19 : x.1 = 19
      · rw [if_pos h19] at hf2
        have := hf (by rw [← hf2]; exact h1)
        rw [Aub, if_pos h19] at this; exact this
      · rw [if_neg h19] at hf2
        have hgo : Ag7 x.1 = true := by rw [← hf2]; exact h1
        have hne : Asl l i = false := by
          unfold Asl
          rw [hoa]
          simp only [Ag7, Bool.and_eq_true, bne_iff_ne, ne_eq] at hgo
          rw [if_neg (by omega), if_neg (by omega), if_neg (by omega)]
        rw [hne, show (x.1 == 19) = false from beq_eq_false_iff_ne.mpr h19, Bool.false_or, Bool.false_or] at hg
        by_cases h2 : i + 1 < l.length
        · rw [show decide (l.length ≤ i + 1) = false from decide_eq_false (by omega), Bool.false_or, bne_iff_ne] at hg
          rw [← hr, B2t hol h2]
          intro h; injection h with h; exact hg h
        · rw [← hr, List.drop_eq_nil_of_le (by omega)]; simp [Aub]
    have hG0 : (x.1 == 19 || Asl l i || decide (l.length ≤ i + 1) || (Abd l (Ac0 l (i + 1))).1 != 28) = false → ∀ d2, A0m l pl (i + 1) d2 (if x.1 = 19 then f else Ag7 x.1) r = false := by
      intro hg d2
      simp only [Bool.or_eq_false_iff, beq_eq_false_iff_ne, decide_eq_false_iff_not, bne_eq_false_iff_eq] at hg
      obtain ⟨⟨⟨g1, g2⟩, g3⟩, g4⟩ := hg
      have hnl : Aub r = some 28 := by rw [← hr, B2t hol (by omega), g4]
      rw [if_neg g1]
      have hgo : Ag7 x.1 = true := by
        unfold Asl at g2
        rw [hoa] at g2
        simp only at g2
        by_cases e1 : x.1 = 20 ∨ x.1 = 25 ∨ x.1 = 26 ∨ x.1 = 27
        · rw [if_pos e1] at g2; cases g2
        rw [if_neg e1] at g2
        by_cases e2 : x.1 = 29
        · rw [if_pos e2] at g2
          rw [if_pos e2] at hc4
          have h3 := hop'.2.2.1 e2
          have h4 : x.2.2 ≠ 0 := by simpa using g2
          obtain ⟨q, hq⟩ : ∃ q, x.2.2.toNat = q + 1 := ⟨x.2.2.toNat - 1, by omega⟩
          rw [hq] at hc4
          cases r with
          | nil => simp [Ae0] at hc4
          | cons y r =>
            simp only [Ae0, Bool.and_eq_true, beq_iff_eq] at hc4
            rw [Aub, if_neg (by omega), hc4.1] at hnl
            simp at hnl
        rw [if_neg e2] at g2
        by_cases e3 : x.1 = 30
        · rw [if_pos e3] at g2
          simp only [Bool.or_eq_false_iff, decide_eq_false_iff_not, bne_eq_false_iff_eq] at g2
          have h5 : i + 1 < l.length := by omega
          rw [← hr, List.drop_eq_getElem_cons h5, Aub, ← Awp h5, g2.2] at hnl
          simp at hnl
        · unfold Ag7
          simp only [Bool.and_eq_true, bne_iff_ne, ne_eq]
          omega
      rw [hgo]
      exact By1 l pl r (i + 1) d2 hnl
    unfold Blx
    by_cases h24 : x.1 = 24
    · have hm8 := hop'.2.2.2 h24
      have ha : Ah2 x d = 2 + x.2.2 := by unfold Ah2; rw [if_neg (by omega), if_pos h24]
      have hfit : Bca x d (A2e l i) = true := by unfold Bca; rw [h24]; rfl
      have hnm : Aae x = 0 := by unfold Aae; rw [if_neg (by omega), if_neg (by omega)]
      rw [if_pos h24, hfit, ha, hnm, show decide (2 ≤ 2 + x.2.2) = true from decide_eq_true (by omega), show decide (2 + x.2.2 ≤ 4000) = true from decide_eq_true (by omega)]
      have hgt : (if x.1 = 19 then f else Ag7 x.1) = true := by rw [h24]; rfl
      have h1 := hG true hgt.symm (2 + x.2.2)
      have h2 := fun h => hG0 h (2 + x.2.2)
      rw [hgt] at h2
      cases hg : (x.1 == 19 || Asl l i || decide (l.length ≤ i + 1) || (Abd l (Ac0 l (i + 1))).1 != 28)
      · rw [h2 hg]; rfl
      · rw [h1 hg]; rfl
    rw [if_neg h24]
    unfold dpB
    have hrel' := hrel x hm
    have hx28 : (x.1 != 28 || !f) = true := by
      by_cases h28 : x.1 = 28
      · cases f
        · simp
        · have := hf rfl
          rw [Aub, if_neg (by omega), h28] at this
          exact absurd rfl this
      · rw [show (x.1 != 28) = true from bne_iff_ne.mpr h28]; rfl
    have hnm : (decide (Aae x ≤ 0) || (((Abd l (Ac0 l (o.getD (Aae x).toNat 0).toNat)).1 == 28) == (x.1 == 27))) = (decide (Aae x ≤ 0) || (A9z l (pl.getD (Aae x).toNat 0).toNat == (x.1 == 27))) := by
      by_cases h0 : 0 < Aae x
      · rw [hrel' h0]; rfl
      · rw [show decide (Aae x ≤ 0) = true from decide_eq_true (by omega)]; rfl
    rw [hx28, hnm, Bool.and_true]
    have h1 := hG _ rfl (Ah2 x d)
    have h2 := fun h => hG0 h (Ah2 x d)
    cases hg : (x.1 == 19 || Asl l i || decide (l.length ≤ i + 1) || (Abd l (Ac0 l (i + 1))).1 != 28)
    · rw [h2 hg]; simp
    · rw [h1 hg, Bool.and_true]
      cases Bca x d (A2e l i) <;> cases decide (2 ≤ Ah2 x d) <;> cases decide (Ah2 x d ≤ 4000) <;> cases (decide (Aae x ≤ 0) || (A9z l (pl.getD (Aae x).toNat 0).toNat == (x.1 == 27))) <;> rfl
theorem Cbe {R : Type} (N : Nat) (nm : List UInt8) (data : Aaz) (l : OpL) (gl : Abt) (procs labels : Int) (hl : l.length ≤ 1099511627776) (hd : data.length ≤ 2000) (hp : procs ≤ 200) (hb : labels ≤ 20000)
    (K0 : Int → Option R) (K1 : List UInt8 → Aaz → OpL → Abt → Int → Int → Option R) :
    ∀ (k i : Nat), i ≤ l.length → l.length - i < k →
      Aez N k i nm data l gl procs labels K0 K1 = if (l.drop i).all (Ag3 data.length procs labels) then K1 nm data l gl procs labels else K0 60 := by
  intro k
  induction k with
  | zero => intro i _ h; omega
  | succ k ih =>
    intro i hi hk
    simp only [Aez, A3e]
    by_cases hlt : i < l.length
    case neg =>
      rw [if_neg (by simp [len]; omega), List.drop_eq_nil_of_le (by omega)]
      simp
    have hin : (0 : Int) ≤ i ∧ (i : Int) < len l := by simp only [len]; omega
    rw [if_pos (by simp [len]; omega), if_pos hin, Ac7 _ _ hlt, Abo (by omega), List.drop_eq_getElem_cons hlt, List.all_cons, Bvv N _ _ _ nm data l gl procs labels hd hp hb]
    have : (inB l[i].1 1 30 && Asx l[i].1 l[i].2.1 l[i].2.2 data.length procs labels) = Ag3 data.length procs labels l[i] := rfl
    rw [this, ih (i + 1) (by omega) (by omega)]
    cases Ag3 data.length procs labels l[i] <;> rfl
theorem Cc4 {nd procs labels : Int} {x : Int × Int × Int} (h : Ag3 nd procs labels x = true) (h24 : x.1 = 24) : 0 ≤ x.2.2 ∧ x.2.2 ≤ 8 := by
  obtain ⟨op, n, m⟩ := x
  simp only at h24; subst h24
  simp [Ag3, Asx, inB] at h
  exact h.2
theorem Bkw {R : Type} {N : Nat} {nm : List UInt8} {data : Aaz} {gl : Abt} (F : A6e N nm data gl) (l : OpL) (procs labels : Int) (K : Int → Option R) :
    Ajc N nm data l gl procs labels K = K (Ao6 nm data l gl procs labels) := by
  have hN := F.N1
  simp only [Ajc, Bbs]
  rw [Bvw N _ _ _ _ _ _ F.d0 (by omega)]
  unfold Ao6
  cases h : Aqi data l procs labels
  case true => rfl
  simp only [Aqi, Bool.or_eq_false_iff, decide_eq_false_iff_not] at h
  simp only [Bool.false_eq_true, if_false]
  unfold Azv
  by_cases c1 : procs < 0
  · rw [if_pos (by simpa using c1), show decide (0 ≤ procs) = false from decide_eq_false (by omega)]; simp
  rw [if_neg (by simpa using c1)]
  by_cases c2 : labels < 0
  · rw [if_pos (by simpa using c2), show decide (0 ≤ labels) = false from decide_eq_false (by omega)]; simp
  rw [if_neg (by simpa using c2), B1r N nm data l gl procs labels F.d1 (by omega) F.d3 (by omega) F.g1 F.g2 F.n2 F.n1]
  rw [show decide (0 ≤ procs) = true from decide_eq_true (by omega), show decide (0 ≤ labels) = true from decide_eq_true (by omega)]
  cases c3 : Aq3 nm == 0
  case false => simp
  rw [Bool.and_true, Bool.and_true, Bool.and_true, Bool.true_and]
  have hloop := Cbe (R := R) N nm data l gl procs labels (by omega) (by omega) (by omega) (by omega) (fun y2 => K y2) (fun y3 y4 y5 y6 y7 y8 => Agy N y3 y4 y5 y6 y7 y8 (fun y9 => if ((!y9) = true) then (K 60) else (Af2 N y3 y4 y5 y6 y7 y8 (fun y10 y11 y12 => if ((!y10) = true) then (K 60) else (Ah7 N y3 y4 y5 y6 y7 y8 y11 y12 (fun y13 => if ((!y13) = true) then (K 61) else (K 0))))))) N 0 (by omega) (by omega)
  rw [List.drop_zero, show ((0 : Nat) : Int) = 0 from rfl] at hloop
  cases c4 : Bf1 data gl procs
  case false =>
    rw [if_pos (by decide)]
    cases Akz l procs labels with
    | none => simp
    | some q => obtain ⟨b, o, a⟩ := q; simp
  rw [if_neg (by decide)]
  refine Eq.trans hloop ?_
  by_cases hn : l.all (Ag3 data.length procs labels) = true
  case neg =>
    rw [if_neg hn, show l.all (Ag3 data.length procs labels) = false by simpa using hn]; rfl
  rw [if_pos hn, hn, Bool.true_and]
  have hall : ∀ o, o ∈ l → Ag3 data.length procs labels o = true := List.all_eq_true.mp hn
  rw [Cc0 N nm data l gl procs labels (by omega) (by omega) (fun o ho => (A3t (hall o ho)).1) (fun o ho h => Bvx (hall o ho) h)]
  cases c5 : Ae0 0 l && Ajx l
  case false =>
    rw [if_pos (by simp)]
    cases Akz l procs labels with
    | none => simp
    | some q => obtain ⟨b, o, a⟩ := q; simp
  simp only [Bool.and_eq_true] at c5
  rw [Bool.true_and]
  have hL : ∀ o, o ∈ l → o.1 = 19 → 1 ≤ o.2.1 ∧ o.2.1 ≤ labels := fun o ho h => Bf2 (hall o ho) h
  have hnm : ∀ x, x ∈ l → Aae x = 0 ∨ (1 ≤ Aae x ∧ Aae x ≤ labels) := fun x hx => A8w (hall x hx)
  have hrel := Cbc l procs labels (by omega) c5.2 hL hnm
  have hcode : (match Akz l procs labels with | none => false | some (b, o, a) => b && true && true && Atp 0 l o a) = (Bi4 l 0 0 procs labels && (A31 l labels).isSome) := by
    rw [← hrel.1]
    cases Akz l procs labels with
    | none => rfl
    | some q => obtain ⟨b, o, a⟩ := q; simp
  refine Eq.trans ?_ (congrArg (fun b : Bool => K (if b = true then (if Azw l procs labels = true then 0 else 61) else 60)) hcode.symm)
  rw [Cbb N nm data l gl procs labels (by omega) (by omega) ⟨by omega, by omega⟩ (by omega) hL hnm _ (fun a b a' b' => rfl)]
  cases c6 : Bi4 l 0 0 procs labels
  case false => rfl
  rw [if_neg (by decide), Bool.true_and]
  cases hpl : A31 l labels with
  | none => rfl
  | some q =>
    obtain ⟨pl, pr⟩ := q
    simp only [Option.isSome_some, Bool.not_true, Bool.false_eq_true, if_false]
    rw [c6, hpl] at hrel
    cases hp : Akz l procs labels with
    | none =>
      rw [hp] at hrel
      exact absurd hrel.1 (by simp)
    | some q =>
      obtain ⟨b, o, a⟩ := q
      have hr1 := hrel.1
      rw [hp] at hr1
      simp only [Option.isSome_some, Bool.and_true, Bool.and_eq_true] at hr1
      have hr2 := hrel.2 b o a pl pr hp hr1.2 rfl
      have hu := hr1.2
      have hlen := Biz hp
      simp only at hlen
      have hpll : pl.length = (labels + 1).toNat := by
        unfold A31 at hpl
        split at hpl
        · cases hpl
        · rename_i pl' pr' hq
          have := Bkv _ _ _ _ _ _ hq
          split at hpl
          · simp only [Option.some.injEq, Prod.mk.injEq] at hpl
            obtain ⟨rfl, rfl⟩ := hpl
            simpa using this.1
          · cases hpl
      have huse : ∀ (r : OpL) (p : Int), Atp p r o a = true → ∀ x, x ∈ r → 0 < Aae x → o.getD (Aae x).toNat 0 ≠ 0 := by
        intro r
        induction r with
        | nil => intro p _ x hx; cases hx
        | cons y r ih =>
          intro p h x hx h0
          simp only [Atp, Bool.and_eq_true, Bool.or_eq_true, decide_eq_true_eq, bne_iff_ne, ne_eq, beq_iff_eq] at h
          rcases List.mem_cons.mp hx with rfl | hx
          · rcases h.1 with h | h
            · omega
            · exact h.2
          · exact ih _ h.2 x hx h0
      have hov := Btg hp
      have hre : ∀ x, x ∈ l → 0 < Aae x → (pl.getD (Aae x).toNat 0 = o.getD (Aae x).toNat 0) ∧ 0 ≤ Aae x ∧ Aae x < pl.length ∧ 0 ≤ pl.getD (Aae x).toNat 0 ∧ pl.getD (Aae x).toNat 0 < l.length := by
        intro x hx h0
        have h1 := hnm x hx
        have h2 := huse l 0 hu x hx h0
        have h3 := hr2 (Aae x).toNat (by omega)
        have h4 := hov (Aae x).toNat
        simp only at h4
        rcases h3 with ⟨e1, e2⟩ | ⟨e1, e2, e3, e4⟩
        · exfalso
          have huse2 : ∀ (r : OpL) (p : Int), Atp p r o a = true → (p = 0 → Adx r = none ∨ Adx r = some 24) → 0 ≤ p → (∀ y, y ∈ r → y.1 = 24 → 1 ≤ y.2.1) → ∀ x, x ∈ r → 0 < Aae x → a.getD (Aae x).toNat 0 ≠ 0 := by
            intro r
            induction r with
            | nil => intro p _ _ _ _ x hx; cases hx
            | cons y r ih =>
              intro p h hp0 hp h24 x hx h0
              simp only [Atp, Bool.and_eq_true, Bool.or_eq_true, decide_eq_true_eq, bne_iff_ne, ne_eq, beq_iff_eq] at h
              have hp1 : 1 ≤ (if y.1 = 24 then y.2.1 else p) := by
                split
                · rename_i h; exact h24 y (by simp) h
                · rename_i hy
                  rcases Int.lt_or_le 0 p with h | h
                  · omega
                  · have := hp0 (by omega)
                    simp only [Adx] at this
                    rcases this with h | h
                    · cases h
                    · injection h with h; exact absurd h hy
              rcases List.mem_cons.mp hx with rfl | hx
              · rcases h.1 with h | h
                · omega
                · omega
              · exact ih _ h.2 (by omega) (by omega) (fun z hz => h24 z (by simp [hz])) x hx h0
          have hf := c5.2
          unfold Ajx at hf
          simp only [Bool.or_eq_true, beq_iff_eq] at hf
          exact huse2 l 0 hu (fun _ => hf) (by omega) (fun y hy h => by
            have := hall y hy
            obtain ⟨u, v, w⟩ := y
            simp only at h; subst h
            simp [Ag3, Asx, inB] at this
            exact this.1.1) x hx h0 e1
        · exact ⟨e2, by omega, by omega, by omega, by omega⟩
      simp only [Ah7, Bfs]
      have hd := Cc3 (R := R) N nm data l gl procs labels pl pr data.length (by omega) (by omega) (by omega) c5.1 c5.2 hall (fun x hx h0 => (hre x hx h0).2) (fun y0 => if (!y0) = true then K 61 else K 0) (if (!true) = true then K 61 else K 0) N 0 0 false (by omega) (by omega) (by omega)
      rw [List.drop_zero, show ((0 : Nat) : Int) = 0 from rfl] at hd
      refine Eq.trans hd ?_
      have hsd := Cem l o pl c5.1 (fun x hx h0 => (hre x hx h0).1) (fun x hx => ⟨(A3t (hall x hx)).1, (A3t (hall x hx)).2, fun h => (Bvx (hall x hx) h).1, fun h => Cc4 (hall x hx) h⟩) l 0 0 0 false rfl c5.1 (fun h => by cases h)
      have hst : Azw l procs labels = A0m l pl 0 0 false l := by unfold Azw; rw [hp]; exact hsd
      rw [hst]
      cases A0m l pl 0 0 false l <;> rfl
theorem Cc5 (v : Int) : cls v = Ajh v := by
  unfold cls Ajh
  repeat' split
  all_goals first | rfl | (exfalso; omega)
theorem Cc6 {c : Int} (h : 0 ≤ c ∧ c < 4) : wid c = Ae5 c := by
  have : c = 0 ∨ c = 1 ∨ c = 2 ∨ c = 3 := by omega
  rcases this with rfl | rfl | rfl | rfl <;> decide
theorem Cc7 (op : Int) : ext op = Afd op := by
  unfold ext Afd
  repeat' split
  all_goals first | rfl | (exfalso; omega)
def A6i (op : Int) : Bool := op == 20 || op == 21 || op == 22 || op == 27 || op == 29
theorem Bf3 {R : Type} (N : Nat) (op : Int) (K : Bool → Option R) : Abh N op K = K (A6i op) := by
  unfold Abh A6i
  cases op == 20 <;> cases op == 21 <;> cases op == 22 <;> cases op == 27 <;> rfl
def k0R (x : Int × Int × Int) : Int := if A6i x.1 = true ∨ x.1 = 19 then 0 else Ajh x.2.1
def Bqv (l : OpL) : Nat → OpL → List Int → List Int
  | _, [], b => b
  | i, x :: r, b => Bqv l (i + 1) r (if x.1 = 19 then b.set x.2.1.toNat (Ac0 l i) else b)
structure Chk (nd procs labels : Int) (l : OpL) : Prop where
  all : ∀ x, x ∈ l → Ag3 nd procs labels x = true
  ord : Ae0 0 l = true
  fst : Ajx l = true
  lb : 0 ≤ labels ∧ labels ≤ 20000
  len : l.length ≤ 40000
  pr : procs ≤ 200
theorem Cc8 {nm : List UInt8} {data : Aaz} {l : OpL} {gl : Abt} {procs labels : Int} (h : Ao6 nm data l gl procs labels = 0) : Chk data.length procs labels l := by
  obtain ⟨h1, h2, h3⟩ := A1r h
  have ha := B2p h2
  simp only [Aqi, Bool.or_eq_false_iff, decide_eq_false_iff_not] at h1
  simp only [Azv, Bool.and_eq_true, decide_eq_true_eq] at h2
  obtain ⟨⟨⟨⟨_, hp0⟩, hl0⟩, hn⟩, hc⟩ := h2
  cases hp : Akz l procs labels with
  | none => rw [hp] at hc; cases hc
  | some r =>
    obtain ⟨b, o, a⟩ := r
    rw [hp] at hc
    simp only [Bool.and_eq_true] at hc
    exact ⟨ha, hc.1.1.2.1, hc.1.1.2.2, ⟨hl0, by omega⟩, by omega, by omega⟩
theorem Cbf {R : Type} (N : Nat) (l : OpL) (hl : l.length ≤ 1099511627776) (x0 : Int) (nm : List UInt8) (data : Aaz) (gl : Abt) (procs labels op n m : Int) (ks pl lab : List Int) (K : Int → Int → List UInt8 → Aaz → OpL → Abt → Int → Int → Int → Int → Int → List Int → List Int → List Int → Option R) :
    ∀ (k j : Nat), Ac0 l j < l.length → l.length - j < k → Ab4 N k x0 j nm data l gl procs labels op n m ks pl lab K = K x0 (Ac0 l j : Nat) nm data l gl procs labels op n m ks pl lab := by
  intro k
  induction k with
  | zero => intro j _ h; omega
  | succ k ih =>
    intro j hj hk
    have hjl : j < l.length := by unfold Ac0 at hj; omega
    have hin : (0 : Int) ≤ j ∧ (j : Int) < len l := by simp only [len]; omega
    have hd' : l.drop j = l[j] :: l.drop (j + 1) := List.drop_eq_getElem_cons hjl
    simp only [Ab4, A73]
    rw [if_pos hin, Ac7 _ _ hjl, Abo (by omega)]
    by_cases h19 : l[j].1 = 19
    · have : Ac0 l j = Ac0 l (j + 1) := by unfold Ac0; rw [hd', Asm, if_pos h19]; omega
      rw [if_pos (by simpa using h19), ih (j + 1) (by omega) (by omega), this]
    · have : Ac0 l j = j := by unfold Ac0; rw [hd', Asm, if_neg h19]; rfl
      rw [if_neg (by simpa using h19), this]
theorem B78 {R : Type} (N : Nat) (i : Int) (nm : List UInt8) (data : Aaz) (l : OpL) (gl : Abt) (procs labels : Int) (x : Int × Int × Int) (ks pl lab : List Int) (hk : ks.length ≤ 1000000) (K : Int → List UInt8 → Aaz → OpL → Abt → Int → Int → List Int → List Int → List Int → Option R) :
    Aci N i nm data l gl procs labels x.1 x.2.1 x.2.2 ks pl lab K = K i nm data l gl procs labels (ks ++ [k0R x]) pl lab := by
  have hs : ∀ v : Int, (ks.length + [v].length) * 8 ≤ 70368744177664 := fun v => by simp only [List.length_cons, List.length_nil]; omega
  simp only [Aci, A76, Bh0, Bf3, Ab5, if_pos (hs _), k0R, Cc5]
  cases h : A6i x.1
  · by_cases h19 : x.1 = 19
    · simp [h19]
    · simp [h19]
  · simp
theorem Cc9 {R : Type} (N : Nat) (nm : List UInt8) (data : Aaz) (l : OpL) (gl : Abt) (procs labels nd : Int) (hN : l.length < N) (C : Chk nd procs labels l) (pl : List Int) (K : List UInt8 → Aaz → OpL → Abt → Int → Int → List Int → List Int → List Int → Option R) :
    ∀ (k i : Nat) (ks lab : List Int), i ≤ l.length → l.length - i < k → ks.length = i → (lab.length : Int) = labels + 1 →
    Acs N k i nm data l gl procs labels ks pl lab K = K nm data l gl procs labels (ks ++ (l.drop i).map k0R) pl (Bqv l i (l.drop i) lab) := by
  have hl := C.len
  intro k
  induction k with
  | zero => intro i _ _ _ h; omega
  | succ k ih =>
    intro i ks lab hi hk hks hlab
    simp only [Acs, Bbu]
    by_cases hlt : i < l.length
    case neg =>
      rw [if_neg (by simp [len]; omega), List.drop_eq_nil_of_le (by omega)]; simp [Bqv]
    have hin : (0 : Int) ≤ i ∧ (i : Int) < len l := by simp only [len]; omega
    have hx' := C.all l[i] (List.getElem_mem hlt)
    rw [if_pos (by simp [len]; omega), if_pos hin, Ac7 _ _ hlt, List.drop_eq_getElem_cons hlt, List.map_cons, Bqv]
    obtain ⟨x, hx⟩ : ∃ x, l[i] = x := ⟨_, rfl⟩
    simp only [hx] at hx' ⊢
    by_cases h19 : x.1 = 19
    · have hv := Bf2 hx' h19
      rw [if_pos (by simpa using h19), if_pos h19, Cbf N l (by omega) _ _ _ _ _ _ _ _ _ _ _ _ _ N i (Aue C.ord hlt) (by omega), if_pos (by simp only [len]; omega), B78 N _ _ _ _ _ _ _ x _ _ _ (by omega), Abo (by omega),
        ih (i + 1) _ _ (by omega) (by omega) (by rw [List.length_append]; simp; omega) (by rw [List.length_set]; exact hlab), List.append_assoc]
      rfl
    · rw [if_neg (by simpa using h19), if_neg h19, B78 N _ _ _ _ _ _ _ x _ _ _ (by omega), Abo (by omega),
        ih (i + 1) _ _ (by omega) (by omega) (by rw [List.length_append]; simp; omega) hlab, List.append_assoc]
      rfl
def plc (l : OpL) (cs : List Int) (off : Int) : List Int := (Aed l cs off).2 ++ [(Aed l cs off).1]
theorem Cen {R : Type} (N : Nat) (l : OpL) (ks : List Int) (hc : ks.length = l.length) (hl : l.length ≤ 1000000) (hcs : ∀ n, 0 ≤ ks.getD n 0 ∧ ks.getD n 0 < 4) (x4 x5 : List Int) (K : Int → List Int → List Int → List Int → List Int → Option R) :
    ∀ (k i : Nat) (off : Int) (acc : List Int), i ≤ l.length → l.length - i < k → 0 ≤ off → off ≤ 9 * i → acc.length = i →
      Ad2 N k l off i ks x4 x5 acc K = K (Aed (l.drop i) (ks.drop i) off).1 ks x4 x5 (acc ++ (Aed (l.drop i) (ks.drop i) off).2) := by
  intro k
  induction k with
  | zero => intro i _ _ _ h; omega
  | succ k ih =>
    intro i off acc hi hk h0 h9 ha
    simp only [Ad2, Azn]
    by_cases hlt : i < l.length
    case neg =>
      rw [if_neg (by simp [len]; omega), List.drop_eq_nil_of_le (by omega)]
      simp [Aed]
    have hltc : i < ks.length := by omega
    have hin : (0 : Int) ≤ i ∧ (i : Int) < len l := by simp only [len]; omega
    have hinc : (0 : Int) ≤ i ∧ (i : Int) < len ks := by simp only [len]; omega
    have hci := hcs i
    rw [show ks.getD i 0 = ks[i] by simp [List.getD_eq_getElem?_getD, hltc]] at hci
    have hw := Amp hci
    rw [if_pos (by simp [len]; omega), if_pos (by simp only [List.length_cons, List.length_nil]; omega), if_pos hin, Ac7 _ _ hlt, Abo (by omega), List.drop_eq_getElem_cons hlt, List.drop_eq_getElem_cons hltc, Aed]
    obtain ⟨x, hx⟩ : ∃ x, l[i] = x := ⟨_, rfl⟩
    simp only [hx, if_pos hin]
    have he := Amq x.1
    by_cases h19 : x.1 = 19
    · rw [if_neg (by simpa using h19), if_pos h19, ih (i + 1) off _ (by omega) (by omega) h0 (by omega) (by simp [ha]), List.append_assoc]; rfl
    · have hoff : wi (off + wi (wi (1 + Ae5 ks[i]) + Afd x.1)) = off + (1 + Ae5 ks[i] + Afd x.1) := by
        rw [Ad7 (i := 1 + Ae5 ks[i]) (by omega) (by omega), Ad7 (i := 1 + Ae5 ks[i] + Afd x.1) (by omega) (by omega), Ad7 (by omega) (by omega)]
      rw [if_pos (by simpa using h19), if_neg h19, if_pos hinc, Ac7 _ _ hltc, Bh2, Bh1, Cc6 hci, Cc7, hoff, ih (i + 1) _ _ (by omega) (by omega) (by omega) (by omega) (by simp [ha]), List.append_assoc]; rfl
theorem Cda {R : Type} (N : Nat) (l : OpL) (ks : List Int) (hc : ks.length = l.length) (hl : l.length ≤ 1000000) (hN : l.length < N) (hcs : ∀ n, 0 ≤ ks.getD n 0 ∧ ks.getD n 0 < 4) (pl lab : List Int) (K : List Int → List Int → List Int → List Int → Option R) :
    Aa3 N l ks pl lab K = K ks pl lab (plc l ks 0) := by
  simp only [Aa3, A3s]
  have := Cen (R := R) N l ks hc hl hcs pl lab (fun y0 y1 y2 y3 y4 => if ((((List.length y4) + (List.length (y0 :: ([] : List Int)))) * (8 : Nat)) ≤ (70368744177664 : Nat)) then (K y1 y2 y3 ((y4 ++ (y0 :: ([] : List Int))))) else none) N 0 0 [] (by omega) (by omega) (by omega) (by omega) rfl
  rw [List.drop_zero, List.drop_zero, List.nil_append] at this
  refine Eq.trans this ?_
  have hlen := A3u l ks 0 hc
  rw [if_pos (by simp only [List.length_cons, List.length_nil]; omega)]
  rfl
def Sim (l : OpL) (cs ks : List Int) : Prop := ks.length = cs.length ∧ (∀ i, i < l.length → (Abd l i).1 ≠ 19 → ks.getD i 0 = cs.getD i 0) ∧ ∀ n, 0 ≤ ks.getD n 0 ∧ ks.getD n 0 < 4
theorem Bf4 : ∀ (l : OpL) (cs ks : List Int) (off : Int), cs.length = l.length → Sim l cs ks → Aed l ks off = Aed l cs off
  | [], [], ks, off, _, h => by
    have := h.1
    simp only [List.length_nil] at this
    rw [List.eq_nil_of_length_eq_zero this]
  | x :: r, c :: cs, ks, off, hl, h => by
    match ks, h.1 with
    | k :: ks, hk =>
      have hs : Sim r cs ks := ⟨by simpa using hk, fun i hi hne => h.2.1 (i + 1) (by simpa using hi) hne, fun n => h.2.2 (n + 1)⟩
      simp only [Aed]
      by_cases h19 : x.1 = 19
      · simp only [if_pos h19]; rw [Bf4 r cs ks off (by simpa using hl) hs]
      · have : k = c := h.2.1 0 (by simp) h19
        subst this
        simp only [if_neg h19]; rw [Bf4 r cs ks _ (by simpa using hl) hs]
theorem Bv5 : ∀ (l : OpL) (cs : List Int) (off : Int), cs.length = l.length → ∀ i, i < l.length →
    (plc l cs off).getD (i + 1) 0 = (Aed l cs off).2.getD i 0 + (if (Abd l i).1 = 19 then 0 else 1 + Ae5 (cs.getD i 0) + Afd (Abd l i).1)
  | x :: r, c :: cs, off, hl, i, hi => by
    have hl' : cs.length = r.length := by simpa using hl
    have e : plc (x :: r) (c :: cs) off = off :: plc r cs (if x.1 = 19 then off else off + (1 + Ae5 c + Afd x.1)) := by simp [plc, Aed]
    rw [e, List.getD_cons_succ]
    cases i with
    | zero =>
      have h0 : (plc r cs (if x.1 = 19 then off else off + (1 + Ae5 c + Afd x.1))).getD 0 0 = (if x.1 = 19 then off else off + (1 + Ae5 c + Afd x.1)) := by
        cases r with
        | nil => cases cs with
          | nil => rfl
          | cons _ _ => simp at hl'
        | cons y r => cases cs with
          | nil => simp at hl'
          | cons _ _ => rfl
      rw [h0]
      show _ = off + (if x.1 = 19 then 0 else 1 + Ae5 c + Afd x.1)
      split <;> omega
    | succ i =>
      rw [Bv5 r cs _ hl' i (by simpa using hi)]; rfl
theorem Cdb {l : OpL} {cs : List Int} {off : Int} (hc : cs.length = l.length) {i : Nat} (hi : i < l.length) : (plc l cs off).getD i 0 = (Aed l cs off).2.getD i 0 := by
  unfold plc
  rw [List.getD_eq_getElem?_getD, List.getElem?_append_left (by rw [A3u l cs off hc]; exact hi), ← List.getD_eq_getElem?_getD]
theorem B79 {l : OpL} {cs : List Int} (hc : cs.length = l.length) (ho : Ae0 0 l = true) : ∀ (m j : Nat), l.length - j ≤ m → j < l.length → (plc l cs 0).getD (Ac0 l j) 0 = (Aed l cs 0).2.getD j 0
  | 0, j, h, hj => by omega
  | m + 1, j, h, hj => by
    have hd' : l.drop j = l[j] :: l.drop (j + 1) := List.drop_eq_getElem_cons hj
    by_cases h19 : l[j].1 = 19
    · have e : Ac0 l j = Ac0 l (j + 1) := by unfold Ac0; rw [hd', Asm, if_pos h19]; omega
      have hlt := Aue ho hj
      have hj1 : j + 1 < l.length := by rw [e] at hlt; unfold Ac0 at hlt; omega
      rw [e, B79 hc ho m (j + 1) (by omega) hj1, ← Cdb hc hj1, Bv5 l cs 0 hc j hj, Awp hj, if_pos h19]; omega
    · have e : Ac0 l j = j := by unfold Ac0; rw [hd', Asm, if_neg h19]; rfl
      rw [e, Cdb hc hj]
theorem B2u (k v n : Int) : ∀ m : Alu, Ahb n (Bhx k v m) = if n = k then v else Ahb n m
  | [] => by
    simp only [Bhx, Asn, Ahb, Aov, Ty.beq]
    by_cases h : n = k
    · subst h; simp
    · have hb : (n == k) = false := by simpa using h
      simp only [hb, if_neg h]
  | (k', v') :: r => by
    have ih := B2u k v n r
    simp only [Bhx, Asn, Ahb, Aov, Ty.beq] at ih ⊢
    by_cases h1 : k = k'
    · subst h1
      simp only [beq_self_eq_true, Aov, Ty.beq]
      by_cases h : n = k
      · subst h; simp
      · have hb : (n == k) = false := by simpa using h
        simp only [hb, if_neg h]
    · have hb1 : (k == k') = false := by simpa using h1
      simp only [hb1, Aov, Ty.beq]
      by_cases h2 : n = k'
      · subst h2
        have h3 : ¬ n = k := fun e => h1 e.symm
        simp only [beq_self_eq_true, if_neg h3]
      · have hb2 : (n == k') = false := by simpa using h2
        simp only [hb2]
        exact ih
theorem B17 (l : OpL) (labels : Int) (hL : ∀ o, o ∈ l → o.1 = 19 → 1 ≤ o.2.1 ∧ o.2.1 ≤ labels) : ∀ (r : OpL) (i : Nat) (lab : List Int) (m : Alu), (∀ x, x ∈ r → x ∈ l) → (lab.length : Int) = labels + 1 → (∀ n : Int, 0 ≤ n → n ≤ labels → lab.getD n.toNat 0 = (Ac0 l (Ahb n m).toNat : Nat)) →
    (Bqv l i r lab).length = lab.length ∧ ∀ n : Int, 0 ≤ n → n ≤ labels → (Bqv l i r lab).getD n.toNat 0 = (Ac0 l (Ahb n (Ado i r m)).toNat : Nat)
  | [], _, _, _, _, _, h => ⟨rfl, h⟩
  | x :: r, i, lab, m, hm, hlen, h => by
    rw [Bqv, Ado]
    have hr : ∀ y, y ∈ r → y ∈ l := fun y hy => hm y (by simp [hy])
    by_cases h19 : x.1 = 19
    · have hv := hL x (hm x (by simp)) h19
      rw [if_pos h19, if_pos h19]
      have := B17 l labels hL r (i + 1) (lab.set x.2.1.toNat (Ac0 l i : Nat)) (Bhx x.2.1 i m) hr (by rw [List.length_set]; exact hlen) (fun n h0 h1 => by
        rw [Ak8, B2u]
        by_cases e : n = x.2.1
        · subst e
          rw [if_pos ⟨rfl, by omega⟩, if_pos rfl, Int.toNat_natCast]
        · rw [if_neg (by omega), if_neg e]; exact h n h0 h1)
      rw [List.length_set] at this
      exact this
    · rw [if_neg h19, if_neg h19]
      exact B17 l labels hL r (i + 1) lab m hr hlen h
def Aqk (l : OpL) (labels : Int) : List Int := Bqv l 0 l (List.replicate (labels + 1).toNat 0)
theorem B8a {l : OpL} {nd procs labels : Int} (C : Chk nd procs labels l) : ((Aqk l labels).length : Int) = labels + 1 ∧ ∀ n : Int, 0 ≤ n → n ≤ labels → (Aqk l labels).getD n.toNat 0 = (Ac0 l (Ahb n (Ado 0 l [])).toNat : Nat) := by
  have hb := C.lb
  have h0 : Ac0 l 0 = 0 := by
    unfold Ac0
    rw [List.drop_zero]
    have hf := C.fst
    cases l with
    | nil => rfl
    | cons x r =>
      simp only [Ajx, Adx, Bool.or_eq_true, beq_iff_eq] at hf
      have : x.1 = 24 := by
        rcases hf with h | h
        · cases h
        · injection h
      rw [Asm, if_neg (by omega)]
  have := B17 l labels (fun o ho h => Bf2 (C.all o ho) h) l 0 (List.replicate (labels + 1).toNat 0) [] (fun x h => h) (by simp; omega) (fun n h1 h2 => by
    have e : Ahb n [] = 0 := rfl
    rw [e, List.getD_eq_getElem?_getD, List.getElem?_replicate, if_pos (by omega)]
    simp [h0])
  unfold Aqk
  refine ⟨?_, this.2⟩
  rw [this.1]; simp; omega
theorem Bqw {nd procs labels : Int} {x : Int × Int × Int} (h : Ag3 nd procs labels x = true) : (A6i x.1 = true ↔ 0 < Aae x ∧ x.1 ≠ 30) ∧ (A6i x.1 = true → Aae x = x.2.1 ∧ 1 ≤ x.2.1 ∧ x.2.1 ≤ labels) ∧ (x.1 = 30 → Aae x = x.2.2 ∧ 1 ≤ x.2.2 ∧ x.2.2 ≤ labels) ∧ ((0 < Aae x ∧ x.1 ≠ 30) → x.1 ≠ 19) := by
  obtain ⟨op, n, m⟩ := x
  have h' := h
  simp only [Ag3, Bool.and_eq_true, decide_eq_true_eq] at h'
  obtain ⟨⟨h1, h2⟩, h3⟩ := h'
  rcases Bdd ⟨h1, h2⟩ with rfl | rfl | rfl | rfl | rfl | rfl | rfl | rfl | rfl | rfl | rfl | rfl | rfl | rfl | rfl | rfl | rfl | rfl | rfl | rfl | rfl | rfl | rfl | rfl | rfl | rfl | rfl | rfl | rfl | rfl <;>
    simp [A6i, Aae] <;> simp [Asx, inB] at h3 <;> omega
theorem Cf0 {l : OpL} {cs ks : List Int} {nd procs labels : Int} (C : Chk nd procs labels l) (hc : cs.length = l.length) (hs : Sim l cs ks) {i : Nat} (hi : i < l.length) (h19 : (Abd l i).1 ≠ 19) {n : Int} (h0 : 0 ≤ n) (h1 : n ≤ labels) :
    (plc l ks 0).getD ((Aqk l labels).getD n.toNat 0).toNat 0 - (plc l ks 0).getD (i + 1) 0 = Amr (Ado 0 l []) (Aed l cs 0).2 cs l i n ∧ 0 ≤ (Aqk l labels).getD n.toNat 0 ∧ (Aqk l labels).getD n.toNat 0 < (plc l ks 0).length ∧ (plc l ks 0).length = l.length + 1 := by
  have hlab := (B8a C).2 n h0 h1
  have hmk := Bly l n (by omega)
  have hpk : plc l ks 0 = plc l cs 0 := by unfold plc; rw [Bf4 l cs ks 0 hc hs]
  have hll := Aue C.ord (j := (Ahb n (Ado 0 l [])).toNat) (by omega)
  have hlen : (plc l cs 0).length = l.length + 1 := by unfold plc; rw [List.length_append, A3u l cs 0 hc]; rfl
  rw [hpk, hlab, Int.toNat_natCast, B79 hc C.ord l.length _ (by omega) (by omega), Bv5 l cs 0 hc i hi, if_neg h19]
  unfold Amr A0l
  refine ⟨by omega, by omega, by omega, hlen⟩
theorem Bv6 {R : Type} (N : Nat) {l : OpL} {cs ks : List Int} {nd procs labels : Int} (C : Chk nd procs labels l) (hs : Al8 l.length cs) (hk : Sim l cs ks) {i : Nat} (hi : i < l.length) (h19 : (Abd l i).1 ≠ 19) {n : Int} (h0 : 0 ≤ n) (h1 : n ≤ labels) (K : Int → List Int → List Int → List Int → Option R) :
    Aaj N i n ks (plc l ks 0) (Aqk l labels) K = K (Amr (Ado 0 l []) (Aed l cs 0).2 cs l i n) ks (plc l ks 0) (Aqk l labels) := by
  have hd := Cf0 C hs.1 hk hi h19 h0 h1
  have hlab := B8a C
  have hl := C.len
  have hpv := Blz l cs 0 hs.1 hs.2 (by omega)
  have hmk := Bly l n (by omega)
  have h2 := hpv.2 (Ahb n (Ado 0 l [])).toNat
  have h3 := hpv.2 i
  have h4 := Amp (hs.2 i)
  have h5 := Amq (Abd l i).1
  unfold Aaj
  rw [if_pos (by simp only [len]; omega)]
  dsimp only
  rw [if_pos (by simp only [len]; omega), Abo (by omega), if_pos (by simp only [len]; omega), Int.toNat_natCast, hd.1]
  rw [Ad7 (by unfold Amr A0l; omega) (by unfold Amr A0l; omega)]
theorem Sim.set {l : OpL} {cs ks : List Int} (h : Sim l cs ks) (i : Nat) (v : Int) (hv : 0 ≤ v ∧ v < 4) : Sim l (cs.set i v) (ks.set i v) := by
  refine ⟨by rw [List.length_set, List.length_set]; exact h.1, fun j hj hne => ?_, fun n => ?_⟩
  · rw [Ak8, Ak8, h.1]
    split
    · rfl
    · exact h.2.1 j hj hne
  · rw [Ak8]
    split
    · exact hv
    · exact h.2.2 n
theorem Cbg {R : Type} (N : Nat) (nm : List UInt8) (data : Aaz) (l : OpL) (gl : Abt) (procs labels nd : Int) (C : Chk nd procs labels l) (cs ks : List Int) (hs : Al8 l.length cs) (hk : Sim l cs ks) (K : Bool → List UInt8 → Aaz → OpL → Abt → Int → Int → List Int → List Int → List Int → List Int → Option R) :
    ∀ (k i : Nat) (b : Bool) (s s' : List Int), i ≤ l.length → l.length - i < k → s.length = l.length → Sim l s s' →
    ∃ s'', Sim l (Ajw (Ado 0 l []) (Aed l cs 0).2 cs l i (l.drop i) b s).2 s'' ∧
      Ab8 N k b i nm data l gl procs labels s' ks (plc l ks 0) (Aqk l labels) K = K (Ajw (Ado 0 l []) (Aed l cs 0).2 cs l i (l.drop i) b s).1 nm data l gl procs labels s'' ks (plc l ks 0) (Aqk l labels) := by
  have hl := C.len
  intro k
  induction k with
  | zero => intro i _ _ _ _ h; omega
  | succ k ih =>
    intro i b s s' hi hk' hsl hss
    simp only [Ab8, A8c]
    by_cases hlt : i < l.length
    case neg =>
      rw [if_neg (by simp [len]; omega), List.drop_eq_nil_of_le (by omega)]
      exact ⟨s', hss, rfl⟩
    have hin : (0 : Int) ≤ i ∧ (i : Int) < len l := by simp only [len]; omega
    have hx' := C.all l[i] (List.getElem_mem hlt)
    have hoa := Awp hlt
    rw [if_pos (by simp [len]; omega), if_pos hin, Ac7 _ _ hlt, List.drop_eq_getElem_cons hlt, Abo (by omega)]
    obtain ⟨x, hx⟩ : ∃ x, l[i] = x := ⟨_, rfl⟩
    simp only [hx, if_pos hin, Bf3, Bh0, Cc5] at hx' hoa ⊢
    have hfn := Bqw hx'
    cases hf : A6i x.1
    · have hno : ¬(0 < Aae x ∧ x.1 ≠ 30) := fun h => by rw [hfn.1.2 h] at hf; cases hf
      rw [if_pos (by decide), show Ajw (Ado 0 l []) (Aed l cs 0).2 cs l i (x :: l.drop (i + 1)) b s = Ajw (Ado 0 l []) (Aed l cs 0).2 cs l (i + 1) (l.drop (i + 1)) b s by rw [Ajw, if_neg (fun h => hno ⟨h.1, h.2.1⟩)]]
      exact ih (i + 1) b s s' (by omega) (by omega) hsl hss
    have hyes := hfn.1.1 hf
    have hrng := hfn.2.1 hf
    have h19 : (Abd l i).1 ≠ 19 := by rw [hoa]; exact hfn.2.2.2 hyes
    rw [if_neg (by decide), Bv6 N C hs hk hlt h19 (by omega) hrng.2.2, if_pos (by have := hk.1; have := hs.1; simp only [len]; omega), Int.toNat_natCast, hk.2.1 i hlt h19]
    by_cases hg : cs.getD i 0 < Ajh (Amr (Ado 0 l []) (Aed l cs 0).2 cs l i x.2.1)
    · rw [if_pos (decide_eq_true hg), if_pos (by have := hss.1; simp only [len]; omega), show Ajw (Ado 0 l []) (Aed l cs 0).2 cs l i (x :: l.drop (i + 1)) b s = Ajw (Ado 0 l []) (Aed l cs 0).2 cs l (i + 1) (l.drop (i + 1)) true (s.set i (Ajh (Amr (Ado 0 l []) (Aed l cs 0).2 cs l i x.2.1))) by rw [Ajw, if_pos ⟨hyes.1, hyes.2, hg⟩]]
      exact ih (i + 1) true _ _ (by omega) (by omega) (by rw [List.length_set]; exact hsl) (hss.set i _ (Bc5 _))
    · rw [if_neg (fun h => hg (of_decide_eq_true h)), show Ajw (Ado 0 l []) (Aed l cs 0).2 cs l i (x :: l.drop (i + 1)) b s = Ajw (Ado 0 l []) (Aed l cs 0).2 cs l (i + 1) (l.drop (i + 1)) b s by rw [Ajw, if_neg (fun h => hg h.2.2)]]
      exact ih (i + 1) b s s' (by omega) (by omega) hsl hss
end Q

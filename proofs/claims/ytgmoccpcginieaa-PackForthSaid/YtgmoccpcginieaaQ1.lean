/- The plain law, part 1. -/
import Derived.Test.YtgmoccpcginieaaO
import Derived.Test.YtgmoccpcginieaaX7
open Go Go.AX Go.Proofs
namespace Q
def qesc (c : UInt8) : Bool := c == 10 || c == 9 || c == 42 || c == 34
def qbad (c : UInt8) : Bool := !qesc c && (decide (c.toNat < 32) || decide (126 < c.toNat))
def qenc1 (c : UInt8) : List Int := if c = 10 then [42, 110] else if c = 9 then [42, 116] else if c = 42 then [42, 42] else if c = 34 then [42, 34] else [(c.toNat : Int)]
def qenc (s : List UInt8) : List Int := s.flatMap qenc1
def qerr (s : List UInt8) : Int := if s.any qbad then 3 else if 100 < s.length then 2 else 0
theorem idx4 (c : UInt8) : idxByte [10, 9, 42, 34] ((c.toNat : Nat) : Int) = if c = 10 then 0 else if c = 9 then 1 else if c = 42 then 2 else if c = 34 then 3 else -1 := by
  have e : (((c.toNat : Nat) : Int)).toNat.toUInt8 = c := by simp
  unfold idxByte
  rw [e]
  simp only [Lib.indexByte, beq_iff_eq]
  by_cases h1 : c = 10
  · subst h1; rfl
  by_cases h2 : c = 9
  · subst h2; rfl
  by_cases h3 : c = 42
  · subst h3; rfl
  by_cases h4 : c = 34
  · subst h4; rfl
  simp [h1, h2, h3, h4, Ne.symm h1, Ne.symm h2, Ne.symm h3, Ne.symm h4]
theorem qenc1_len (c : UInt8) : (qenc1 c).length ≤ 2 ∧ byteList (qenc1 c) = true := by
  unfold qenc1
  have : c.toNat < 256 := c.toNat_lt
  repeat' split
  all_goals (constructor <;> simp [byteList] <;> omega)
theorem byteList_append (a b : List Int) : byteList (a ++ b) = (byteList a && byteList b) := by simp [byteList]
theorem wb_eq {R : Type} (N : Nat) (v : Int) (b : List Int) (K : List Int → Option R) (h : b.length + 1 ≤ 70368744177664) : strings_Builder_WriteByte_w1 N v b K = K (b ++ [v]) := by
  unfold strings_Builder_WriteByte_w1
  rw [if_pos (by simp; omega)]
theorem wb0_eq {R : Type} (N : Nat) (v : Int) (b : List Int) (K : List Int → Option R) (h : b.length + 1 ≤ 70368744177664) : strings_Builder_WriteByte N v b K = K (b ++ [v]) := by
  unfold strings_Builder_WriteByte
  rw [if_pos (by simp; omega)]
theorem quote_loop {R : Type} (N : Nat) (s : List UInt8) (hs : s.length ≤ 1099511627776) (K0 : List UInt8 → Int → Option R) (K1 : List UInt8 → List Int → Option R) : ∀ (m k i : Nat) (b : List Int), m < k → i + m = s.length → b.length ≤ 1 + 2 * i →
    lex_Quote_9 N k s s.length i b K0 K1 = if (s.drop i).any qbad then K0 [] 3 else K1 s (b ++ qenc (s.drop i))
  | m, 0, _, _, hk, _, _ => by omega
  | 0, k + 1, i, b, _, hi, _ => by
    simp only [lex_Quote_9, lex_Quote_9_b]
    rw [if_neg (by simp; omega), List.drop_eq_nil_of_le (by omega)]
    simp [qenc]
  | m + 1, k + 1, i, b, hk, hi, hb => by
    simp only [lex_Quote_9, lex_Quote_9_b]
    have hin : (0 : Int) ≤ i ∧ (i : Int) < len s := by simp only [len]; omega
    rw [if_pos (by simp; omega), if_pos hin]
    have hlt : i < s.length := by omega
    have hd : s.drop i = s[i] :: s.drop (i + 1) := List.drop_eq_getElem_cons hlt
    have hg : s.getD (Int.toNat (i : Int)) 0 = s[i] := by
      rw [List.getD_eq_getElem?_getD]; simp [hlt]
    rw [hg, hd]
    generalize s[i] = c
    have hc := c.toNat_lt
    have hw : wi ((i : Int) + 1) = ((i + 1 : Nat) : Int) := by
      simp only [wi]; rw [w64 (by omega)]; rfl
    have ih := fun b' (hb' : b'.length ≤ 1 + 2 * (i + 1)) => quote_loop N s hs K0 K1 m k (i + 1) b' (by omega) (by omega) hb'
    rw [idx4]
    by_cases h1 : c = 10
    · subst h1
      rw [if_pos rfl, if_pos (by decide), wb_eq _ _ _ _ (by omega), if_pos (by decide), wb_eq _ _ _ _ (by simp; omega), hw, ih _ (by simp; omega)]
      simp [qbad, qesc, qenc, qenc1]
    rw [if_neg h1]
    by_cases h2 : c = 9
    · subst h2
      rw [if_pos rfl, if_pos (by decide), wb_eq _ _ _ _ (by omega), if_pos (by decide), wb_eq _ _ _ _ (by simp; omega), hw, ih _ (by simp; omega)]
      simp [qbad, qesc, qenc, qenc1]
    rw [if_neg h2]
    by_cases h3 : c = 42
    · subst h3
      rw [if_pos rfl, if_pos (by decide), wb_eq _ _ _ _ (by omega), if_pos (by decide), wb_eq _ _ _ _ (by simp; omega), hw, ih _ (by simp; omega)]
      simp [qbad, qesc, qenc, qenc1]
    rw [if_neg h3]
    by_cases h4 : c = 34
    · subst h4
      rw [if_pos rfl, if_pos (by decide), wb_eq _ _ _ _ (by omega), if_pos (by decide), wb_eq _ _ _ _ (by simp; omega), hw, ih _ (by simp; omega)]
      simp [qbad, qesc, qenc, qenc1]
    rw [if_neg h4, if_neg (by decide)]
    have hq : qesc c = false := by simp [qesc, h1, h2, h3, h4]
    by_cases h5 : c.toNat < 32
    · rw [if_pos (by simp; omega)]
      simp [qbad, hq, h5]
    rw [if_neg (by simp; omega)]
    by_cases h6 : 126 < c.toNat
    · rw [if_pos (by simp; omega)]
      simp [qbad, hq, h6]
    rw [if_neg (by simp; omega), wb_eq _ _ _ _ (by omega), hw, ih _ (by simp; omega)]
    simp [qbad, hq, h5, h6, qenc, qenc1, h1, h2, h3, h4]
theorem qenc_bytes (s : List UInt8) : byteList (qenc s) = true ∧ (qenc s).length ≤ 2 * s.length := by
  induction s with
  | nil => simp [qenc, byteList]
  | cons c s ih =>
    have := qenc1_len c
    simp only [qenc, List.flatMap_cons, byteList_append, List.length_append, List.length_cons] at ih ⊢
    rw [this.2, ih.1]
    exact ⟨rfl, by omega⟩
theorem lex_Quote_eq (N : Nat) (s : List UInt8) (hs : s.length ≤ 1099511627776) (hN : s.length < N) : ∃ r, ∀ {R : Type} (K : List UInt8 → Int → Option R), lex_Quote N s K = K r (qerr s) := by
  have key : ∀ {R : Type} (K : List UInt8 → Int → Option R), lex_Quote N s K = K (if s.any qbad then [] else if 100 < s.length then [] else strOf (34 :: qenc s ++ [34])) (qerr s) := by
    intro R K
    simp only [lex_Quote, lex_Quote_b]
    rw [wb0_eq _ _ _ _ (by simp)]
    simp only [len]
    have := quote_loop N s hs (fun y1 y2 => K y1 y2) (fun y3 y4 => if (decide ((y3.length : Int) > 100)) = true then K [] 2 else strings_Builder_WriteByte_w1 N 34 y4 fun y5 => if 0 < y5.length ∧ y5.length ≤ 70368744177664 ∧ byteList y5 = true then K (strOf y5) 0 else none) s.length N 0 ([] ++ [34]) hN (by omega) (by simp)
    rw [show ((0 : Nat) : Int) = 0 from rfl] at this
    rw [this]
    simp only [List.drop_zero, qerr]
    by_cases h1 : s.any qbad = true
    · simp only [if_pos h1]
    simp only [if_neg h1]
    by_cases h2 : 100 < s.length
    · rw [if_pos (by simp; omega), if_pos h2, if_pos h2]
    rw [if_neg (by simp; omega), if_neg h2, if_neg h2]
    have hq := qenc_bytes s
    rw [wb_eq _ _ _ _ (by simp; omega), if_pos]
    · rfl
    · refine ⟨by simp, by simp; omega, ?_⟩
      rw [byteList_append, byteList_append, hq.1]; rfl
  exact ⟨_, fun K => key K⟩
def wideB (n : Int) : Bool := decide (-2147483648 ≤ n) && decide (n ≤ 2147483647)
def inB (v a b : Int) : Bool := decide (a ≤ v) && decide (v ≤ b)
def kindsT : List (List UInt8 × Int × Int × Int) := [([], 0, 0, 0), ([110, 117, 109], 1, 0, 1), ([108, 111, 99, 97, 108], 2, 0, 1), ([112, 117, 116, 108], 2, 1, 0), ([97, 100, 100, 114, 108], 2, 0, 1),
  ([103, 108, 111, 98, 97, 108], 3, 0, 1), ([112, 117, 116, 103], 3, 1, 0), ([97, 100, 100, 114, 103], 3, 0, 1), ([115, 116, 97, 116, 105, 99], 4, 0, 1), ([112, 117, 116, 115], 4, 1, 0), ([97, 100, 100, 114, 115], 4, 0, 1),
  ([112, 114, 111, 99], 5, 0, 1), ([108, 111, 97, 100], 0, 1, 1), ([115, 116, 111, 114, 101], 0, 2, 0), ([103, 101, 116, 98], 0, 2, 1), ([112, 117, 116, 98], 0, 3, 0), ([98, 105, 110], 7, 2, 1), ([117, 110], 8, 1, 1),
  ([115, 116, 97, 99, 107], 2, 0, 0), ([108, 97, 98, 101, 108], 6, 0, 0), ([106, 117, 109, 112], 6, 0, 0), ([116, 114, 117, 101], 6, 1, 0), ([102, 97, 108, 115, 101], 6, 1, 0), ([99, 97, 108, 108], 2, 0, 0),
  ([101, 110, 116, 101, 114], 5, 0, 0), ([114, 101, 116, 117, 114, 110], 0, 1, 0), ([98, 97, 99, 107], 0, 0, 0), ([114, 101, 115, 117, 108, 116], 6, 1, 0), ([116, 97, 107, 101], 2, 0, 0), ([115, 119, 105, 116, 99, 104], 6, 1, 0), ([99, 97, 115, 101], 1, 0, 0)]
def kT (op : Int) : List UInt8 × Int × Int × Int := kindsT.getD op.toNat ([], 0, 0, 0)
/-- the numbers of an instruction are as said -/
def numB (op n m nd procs labels : Int) : Bool :=
  if op = 1 then wideB n && m == 0
  else if op = 2 ∨ op = 3 ∨ op = 4 ∨ op = 18 ∨ op = 23 ∨ op = 28 then inB n 0 4000 && m == 0
  else if op = 5 ∨ op = 6 ∨ op = 7 then inB n 0 199 && m == 0
  else if op = 8 ∨ op = 9 ∨ op = 10 then inB n 0 (nd - 1) && m == 0
  else if op = 11 then inB n 1 procs && m == 0
  else if op = 16 then inB n 1 17 && m == 0
  else if op = 17 then (n == 18 || n == 19) && m == 0
  else if op = 19 ∨ op = 20 ∨ op = 21 ∨ op = 22 ∨ op = 27 then inB n 1 labels && m == 0
  else if op = 24 then inB n 1 procs && inB m 0 8
  else if op = 29 then inB n 1 labels && inB m 0 1000
  else if op = 30 then wideB n && inB m 1 labels
  else n == 0 && m == 0
theorem ocode_in_eq {R : Type} (N : Nat) (v a b : Int) (K : Bool → Option R) : ocode_in N v a b K = K (inB v a b) := by
  unfold ocode_in inB
  by_cases h : a ≤ v
  · rw [if_pos (by simpa using h)]; simp [h]
  · rw [if_neg (by simpa using h)]; simp [h]
theorem ocode_wide_eq {R : Type} (N : Nat) (v : Int) (K : Bool → Option R) : ocode_wide N v K = K (wideB v) := by
  simp only [ocode_wide, ocode_wide_b, ocode_in_eq]; rfl
theorem ifT {R : Type} (a b : Bool) (K : Bool → Option R) : (if a = true then K b else K false) = K (a && b) := by cases a <;> rfl
theorem num42 {R : Type} (N : Nat) (ok : Bool) (op n m : Int) (nm : List UInt8) (data : List (List UInt8 × Bool × List Int)) (ops : List (Int × Int × Int)) (gl : List (Int × Int)) (procs labels : Int) (K : Bool → Option R) :
    ocode_numbers_42 N ok op n m nm data ops gl procs labels K = K (ok && (if op = 24 then inB m 0 8 else if op = 29 then inB m 0 1000 else if op = 30 then inB m 1 labels else m == 0)) := by
  simp only [ocode_numbers_42, ocode_numbers_42_b, ocode_in_eq, ifT, beq_iff_eq]
  repeat' split
  all_goals rfl
theorem cases30 {op : Int} (h : 1 ≤ op ∧ op ≤ 30) : op = 1 ∨ op = 2 ∨ op = 3 ∨ op = 4 ∨ op = 5 ∨ op = 6 ∨ op = 7 ∨ op = 8 ∨ op = 9 ∨ op = 10 ∨ op = 11 ∨ op = 12 ∨ op = 13 ∨ op = 14 ∨ op = 15 ∨ op = 16 ∨ op = 17 ∨ op = 18 ∨ op = 19 ∨ op = 20 ∨ op = 21 ∨ op = 22 ∨ op = 23 ∨ op = 24 ∨ op = 25 ∨ op = 26 ∨ op = 27 ∨ op = 28 ∨ op = 29 ∨ op = 30 := by omega
theorem ocode_numbers_eq {R : Type} (N : Nat) (op n m : Int) (nm : List UInt8) (data : List (List UInt8 × Bool × List Int)) (ops : List (Int × Int × Int)) (gl : List (Int × Int)) (procs labels : Int) (hd : data.length ≤ 1000000) (h : 1 ≤ op ∧ op ≤ 30) (K : Bool → Option R) :
    ocode_numbers N op n m nm data ops gl procs labels (kT op).1 (kT op).2.1 (kT op).2.2.1 (kT op).2.2.2 K = K (numB op n m data.length procs labels) := by
  have hw : wi (len data - 1) = (data.length : Int) - 1 := by simp only [wi, len]; rw [w64 (by omega)]
  rcases cases30 h with rfl | rfl | rfl | rfl | rfl | rfl | rfl | rfl | rfl | rfl | rfl | rfl | rfl | rfl | rfl | rfl | rfl | rfl | rfl | rfl | rfl | rfl | rfl | rfl | rfl | rfl | rfl | rfl | rfl | rfl <;>
    simp only [ocode_numbers, ocode_numbers_b, num42, ocode_in_eq, ocode_wide_eq, hw] <;> simp [kT, kindsT, numB]
  by_cases hn : n = 18
  · simp [hn]
  · have : (n == 18) = false := by simpa using hn
    simp [hn, this]
abbrev DataL := List (List UInt8 × Bool × List Int)
abbrev OpL := List (Int × Int × Int)
abbrev EntL := List (Int × Int)
def dWords (d : List UInt8 × Bool × List Int) : Int := d.2.2.length + (if d.2.1 = true then (d.1.length + 2) / 2 else 0)
def dSum (l : DataL) : Int := (l.map dWords).sum
def largeB (data : DataL) (ops : OpL) (procs labels : Int) : Bool :=
  decide (40000 < ops.length) || decide (2000 < data.length) || decide (200 < procs) || decide (20000 < labels) || decide (7800 < dSum data)
def DataOK (l : DataL) : Prop := ∀ d, d ∈ l → d.1.length ≤ 140737488351232 ∧ d.2.2.length ≤ 140737488351232
theorem large_loop {R : Type} (N : Nat) (data : DataL) (hd : DataOK data) (hl : data.length ≤ 2000) (K : Int → Option R) : ∀ (m k i : Nat) (acc : Int), m < k → i + m = data.length → 0 ≤ acc → acc ≤ i * 281474976710656 →
    ocode_large_11 N k acc data data.length i K = K (acc + dSum (data.drop i)) := by
  intro m
  induction m with
  | zero =>
    intro k i acc hk hi _ _
    obtain ⟨k, rfl⟩ : ∃ j, k = j + 1 := ⟨k - 1, by omega⟩
    simp only [ocode_large_11, ocode_large_11_b]
    rw [if_neg (by simp; omega), List.drop_eq_nil_of_le (by omega)]
    simp [dSum]
  | succ m ih0 =>
    intro k i acc hk hi h0 ha
    obtain ⟨k, rfl⟩ : ∃ j, k = j + 1 := ⟨k - 1, by omega⟩
    simp only [ocode_large_11, ocode_large_11_b]
    have hin : (0 : Int) ≤ i ∧ (i : Int) < len data := by simp only [len]; omega
    rw [if_pos (by simp; omega), if_pos hin]
    have hlt : i < data.length := by omega
    have hdr : data.drop i = data[i] :: data.drop (i + 1) := List.drop_eq_getElem_cons hlt
    have hg : data.getD (Int.toNat (i : Int)) (([] : List UInt8), (false, ([] : List Int))) = data[i] := by
      rw [List.getD_eq_getElem?_getD]; simp [hlt]
    have hb := hd data[i] (List.getElem_mem hlt)
    rw [hg, hdr]
    generalize data[i] = d at hb
    have hw : wi ((i : Int) + 1) = ((i + 1 : Nat) : Int) := by simp only [wi]; rw [w64 (by omega)]; rfl
    have h1 : wi (acc + ((d.2.2.length : Nat) : Int)) = acc + d.2.2.length := by simp only [wi]; rw [w64 (by omega)]
    have h2 : wi (((d.1.length : Nat) : Int) + 2) = d.1.length + 2 := by simp only [wi]; rw [w64 (by omega)]
    have h3 : wi (Int.tdiv (((d.1.length : Nat) : Int) + 2) 2) = (d.1.length + 2) / 2 := by
      rw [Int.tdiv_eq_ediv_of_nonneg (by omega)]; simp only [wi]; rw [w64 (by omega)]
    have h4 : wi (acc + ((d.2.2.length : Nat) : Int) + ((d.1.length : Int) + 2) / 2) = acc + d.2.2.length + (d.1.length + 2) / 2 := by simp only [wi]; rw [w64 (by omega)]
    rw [hw, h1, h2, h3, h4]
    have ih := fun acc' h h' => ih0 k (i + 1) acc' (by omega) (by omega) h h'
    by_cases ht : d.2.1 = true
    · rw [if_pos ht, ih _ (by omega) (by omega)]
      simp only [dSum, List.map_cons, List.sum_cons, dWords, if_pos ht]
      congr 1; omega
    · rw [if_neg ht, ih _ (by omega) (by omega)]
      simp only [dSum, List.map_cons, List.sum_cons, dWords, if_neg ht]
      congr 1; omega
theorem ocode_large_eq {R : Type} (N : Nat) (nm : List UInt8) (data : DataL) (ops : OpL) (gl : EntL) (procs labels : Int) (hd : DataOK data) (hN : 2000 < N) (K : Bool → Option R) :
    ocode_large N nm data ops gl procs labels K = K (largeB data ops procs labels) := by
  simp only [ocode_large, ocode_large_b, largeB, len]
  by_cases h1 : (ops.length : Int) > 40000
  · rw [if_pos (by simpa using h1)]; simp [show 40000 < ops.length by omega]
  rw [if_neg (by simpa using h1)]
  by_cases h2 : (data.length : Int) > 2000
  · rw [if_pos (by simpa using h2)]; simp [show 2000 < data.length by omega]
  rw [if_neg (by simpa using h2)]
  by_cases h3 : procs > 200
  · rw [if_pos (by simpa using h3)]; simp [show 200 < procs by omega]
  rw [if_neg (by simpa using h3)]
  by_cases h4 : labels > 20000
  · rw [if_pos (by simpa using h4)]; simp [show 20000 < labels by omega]
  rw [if_neg (by simpa using h4)]
  have := large_loop N data hd (by omega) (fun y0 => K (decide (y0 > 7800))) data.length N 0 0 (by omega) (by omega) (by omega) (by omega)
  rw [show ((0 : Nat) : Int) = 0 from rfl] at this
  rw [this]
  simp [show ¬ 40000 < ops.length by omega, show ¬ 2000 < data.length by omega, show ¬ 200 < procs by omega, show ¬ 20000 < labels by omega]
theorem getD_at {α : Type} (l : List α) (d : α) {i : Nat} (h : i < l.length) : l.getD (Int.toNat (i : Int)) d = l[i] := by
  rw [List.getD_eq_getElem?_getD]; simp [h]
theorem wi_succ {i : Nat} (h : i < 4611686018427387904) : wi ((i : Int) + 1) = ((i + 1 : Nat) : Int) := by
  simp only [wi]; rw [w64 (by omega)]; rfl
theorem exk {k m : Nat} (h : m < k) : ∃ j, k = j + 1 := ⟨k - 1, by omega⟩
def datOK (d : List UInt8 × Bool × List Int) : Bool :=
  if d.2.1 = true then qerr d.1 == 0 && d.2.2.length == 0 else d.1 == ([] : List UInt8) && d.2.2.length != 0 && d.2.2.all wideB
/-- texts of areas are not too long for a machine -/
def TextOK (l : DataL) : Prop := ∀ d, d ∈ l → d.1.length ≤ 1099511627776 ∧ d.2.2.length ≤ 1099511627776
theorem areas1_eq {R : Type} (N : Nat) (v : Int) (K : Bool → Option R) : ocode_areas_1 N v K = K (!wideB v) := by
  simp only [ocode_areas_1, ocode_areas_1_b, ocode_wide_eq]
theorem idxf_loop {R : Type} (N : Nat) (l : List Int) (hl : l.length ≤ 1099511627776) (K0 : Int → Option R) (K1 : Option R) : ∀ (m k i : Nat), m < k → i + m = l.length →
    ∃ j : Nat, slices_IndexFunc_int_int_5 N k l l.length i K0 K1 = if (l.drop i).all wideB then K1 else K0 j := by
  intro m
  induction m with
  | zero =>
    intro k i hk hi
    obtain ⟨k, rfl⟩ := exk hk
    refine ⟨0, ?_⟩
    simp only [slices_IndexFunc_int_int_5, slices_IndexFunc_int_int_5_b]
    rw [if_neg (by simp; omega), List.drop_eq_nil_of_le (by omega)]
    simp
  | succ m ih =>
    intro k i hk hi
    obtain ⟨k, rfl⟩ := exk hk
    have hlt : i < l.length := by omega
    have hin : (0 : Int) ≤ i ∧ (i : Int) < len l := by simp only [len]; omega
    have hd : l.drop i = l[i] :: l.drop (i + 1) := List.drop_eq_getElem_cons hlt
    simp only [slices_IndexFunc_int_int_5, slices_IndexFunc_int_int_5_b]
    rw [if_pos (by simp; omega), if_pos hin, getD_at _ _ hlt, areas1_eq, wi_succ (by omega)]
    obtain ⟨j, hj⟩ := ih k (i + 1) (by omega) (by omega)
    rw [hj, hd, List.all_cons]
    by_cases h : wideB l[i] = true
    · exact ⟨j, by simp [h]⟩
    · exact ⟨i, by simp [h]⟩
theorem contains_eq {R : Type} (N : Nat) (l : List Int) (hl : l.length ≤ 1099511627776) (hN : l.length < N) (K : Bool → Option R) : slices_ContainsFunc_int_int N l K = K (!l.all wideB) := by
  simp only [slices_ContainsFunc_int_int, slices_ContainsFunc_int_int_b, slices_IndexFunc_int_int, slices_IndexFunc_int_int_b, len]
  obtain ⟨j, hj⟩ := idxf_loop N l hl (fun y0 => K (decide (y0 ≥ 0))) (K (decide ((-1 : Int) ≥ 0))) l.length N 0 hN (by omega)
  rw [show ((0 : Nat) : Int) = 0 from rfl] at hj
  rw [hj, List.drop_zero]
  by_cases h : l.all wideB = true
  · simp [h]
  · have h' : l.all wideB = false := by simpa using h
    simp only [h', Bool.false_eq_true, if_false, Bool.not_false]
    congr 1
theorem areas5_loop {R : Type} (N : Nat) (data : DataL) (hd : TextOK data) (hl : data.length ≤ 2000) (hN : ∀ d, d ∈ data → d.1.length < N ∧ d.2.2.length < N) (nm : List UInt8) (dat : DataL) (ops : OpL) (gl : EntL) (procs labels : Int) (K0 : Bool → Option R) (K1 : List UInt8 → DataL → OpL → EntL → Int → Int → Option R) :
    ∀ (m k i : Nat), m < k → i + m = data.length →
    ocode_areas_5 N k data data.length i nm dat ops gl procs labels K0 K1 = if (data.drop i).all datOK then K1 nm dat ops gl procs labels else K0 false := by
  intro m
  induction m with
  | zero =>
    intro k i hk hi
    obtain ⟨k, rfl⟩ := exk hk
    simp only [ocode_areas_5, ocode_areas_5_b]
    rw [if_neg (by simp; omega), List.drop_eq_nil_of_le (by omega)]
    simp
  | succ m ih =>
    intro k i hk hi
    obtain ⟨k, rfl⟩ := exk hk
    have hlt : i < data.length := by omega
    have hin : (0 : Int) ≤ i ∧ (i : Int) < len data := by simp only [len]; omega
    have hdr : data.drop i = data[i] :: data.drop (i + 1) := List.drop_eq_getElem_cons hlt
    simp only [ocode_areas_5, ocode_areas_5_b]
    rw [if_pos (by simp; omega), if_pos hin, getD_at _ _ hlt, wi_succ (by omega), ih k (i + 1) (by omega) (by omega), hdr, List.all_cons]
    have h1 := hd data[i] (List.getElem_mem hlt)
    have h2 := hN data[i] (List.getElem_mem hlt)
    generalize data[i] = d at h1 h2
    by_cases ht : d.2.1 = true
    · rw [if_pos ht]
      obtain ⟨r, hr⟩ := lex_Quote_eq N d.1 h1.1 h2.1
      rw [hr]
      simp only [datOK, if_pos ht, len]
      by_cases hq : qerr d.1 = 0
      · have hq' : (qerr d.1 != 0) = false := by simp [hq]
        have hq2 : (qerr d.1 == 0) = true := by simp [hq]
        rw [hq', hq2]
        by_cases hw : d.2.2.length = 0
        · have e1 : (d.2.2.length == 0) = true := by simp [hw]
          have e2 : decide (((d.2.2.length : Nat) : Int) > 0) = false := by simp [hw]
          simp only [e1, e2, Bool.false_eq_true, if_false, if_true, Bool.true_and, Bool.and_true, Bool.false_and, Bool.and_false, Bool.not_true, Bool.not_false]
        · have e1 : (d.2.2.length == 0) = false := by simp [hw]
          have e2 : decide (((d.2.2.length : Nat) : Int) > 0) = true := by simp; omega
          simp only [e1, e2, Bool.false_eq_true, if_false, if_true, Bool.true_and, Bool.and_true, Bool.false_and, Bool.and_false, Bool.not_true, Bool.not_false]
      · have hq' : (qerr d.1 != 0) = true := by simp [hq]
        have hq2 : (qerr d.1 == 0) = false := by simp [hq]
        rw [hq', hq2]
        simp only [Bool.false_eq_true, if_false, if_true, Bool.true_and, Bool.and_true, Bool.false_and, Bool.and_false, Bool.not_true, Bool.not_false]
    · rw [if_neg ht]
      simp only [datOK, if_neg ht, len]
      by_cases hq : (d.1 == ([] : List UInt8)) = true
      · rw [hq]
        by_cases hw : d.2.2.length = 0
        · have e1 : (((d.2.2.length : Nat) : Int) == 0) = true := by simp [hw]
          have e2 : (d.2.2.length != 0) = false := by simp [hw]
          simp only [e1, e2, Bool.false_eq_true, if_false, if_true, Bool.true_and, Bool.and_true, Bool.false_and, Bool.and_false, Bool.not_true, Bool.not_false]
        · have hw' : (((d.2.2.length : Nat) : Int) == 0) = false := by
            rw [beq_eq_false_iff_ne]; omega
          have hw2 : (d.2.2.length != 0) = true := by simp [hw]
          rw [hw', hw2, contains_eq N d.2.2 h1.2 h2.2]
          by_cases ha : d.2.2.all wideB = true
          · simp only [ha, Bool.false_eq_true, if_false, if_true, Bool.true_and, Bool.and_true, Bool.false_and, Bool.and_false, Bool.not_true, Bool.not_false]
          · have ha' : d.2.2.all wideB = false := by simpa using ha
            simp only [ha', Bool.false_eq_true, if_false, if_true, Bool.true_and, Bool.and_true, Bool.false_and, Bool.and_false, Bool.not_true, Bool.not_false]
      · have hq' : (d.1 == ([] : List UInt8)) = false := by simpa using hq
        rw [hq']; simp only [Bool.false_eq_true, if_false, if_true, Bool.true_and, Bool.and_true, Bool.false_and, Bool.and_false, Bool.not_true, Bool.not_false]
theorem chain3 {S : Type} (a b c d : Bool) (x y : S) : (if (!a) = true then y else if b = true then y else if (!c) = true then y else if d = true then x else y) = if (a && !b && c && d) = true then x else y := by
  cases a <;> cases b <;> cases c <;> cases d <;> rfl
def entB (procs : Int) : List Int → EntL → Bool
  | _, [] => true
  | seen, e :: r => inB e.1 1 199 && !seen.contains e.1 && inB e.2 1 procs && entB procs (e.1 :: seen) r
theorem mget_mset (k k' : Int) (l : List (Int × Bool)) : (mget (kt := .int .i64) (et := .bool) k (mset (kt := .int .i64) (et := .bool) k' true l)).getD false = (k == k' || (mget (kt := .int .i64) (et := .bool) k l).getD false) := by
  induction l with
  | nil =>
    simp only [mset, mget, Ty.beq]
    cases h : (k == k') <;> simp
  | cons x l ih =>
    obtain ⟨a, b⟩ := x
    simp only [mset, Ty.beq]
    cases h1 : (k' == a) with
    | true =>
      have := beq_iff_eq.1 h1
      subst this
      simp only [mget, Ty.beq]
      cases h : (k == k') <;> simp
    | false =>
      simp only [mget, Ty.beq]
      cases h2 : (k == a) with
      | true =>
        have := beq_iff_eq.1 h2
        subst this
        have : (k == k') = false := by
          rw [beq_eq_false_iff_ne] at h1 ⊢
          exact fun h => h1 h.symm
        simp [this]
      | false => simpa using ih
theorem ent_loop {R : Type} (N : Nat) (gl : EntL) (hl : gl.length ≤ 1099511627776) (nm : List UInt8) (dat : DataL) (ops : OpL) (gl2 : EntL) (procs labels : Int) (K0 : Bool → Option R) (K1 : Option R) :
    ∀ (m k i : Nat) (seen : List Int) (mp : List (Int × Bool)), m < k → i + m = gl.length → (∀ x, (mget (kt := .int .i64) (et := .bool) x mp).getD false = seen.contains x) →
    ocode_areas_27 N k gl gl.length i nm dat ops gl2 procs labels mp K0 K1 = if entB procs seen (gl.drop i) then K1 else K0 false := by
  intro m
  induction m with
  | zero =>
    intro k i seen mp hk hi hm
    obtain ⟨k, rfl⟩ := exk hk
    simp only [ocode_areas_27, ocode_areas_27_b]
    rw [if_neg (by simp; omega), List.drop_eq_nil_of_le (by omega)]
    simp [entB]
  | succ m ih =>
    intro k i seen mp hk hi hm
    obtain ⟨k, rfl⟩ := exk hk
    have hlt : i < gl.length := by omega
    have hin : (0 : Int) ≤ i ∧ (i : Int) < len gl := by simp only [len]; omega
    have hd : gl.drop i = gl[i] :: gl.drop (i + 1) := List.drop_eq_getElem_cons hlt
    simp only [ocode_areas_27, ocode_areas_27_b]
    rw [if_pos (by simp; omega), if_pos hin, getD_at _ _ hlt, ocode_in_eq, ocode_in_eq, wi_succ (by omega), hd]
    rw [ih k (i + 1) (gl[i].1 :: seen) _ (by omega) (by omega) (fun x => by rw [mget_mset, hm, List.contains_cons])]
    rw [hm]
    simp only [entB]
    exact chain3 _ _ _ _ _ _
/-- areas and entries are as said -/
def areasB (data : DataL) (gl : EntL) (procs : Int) : Bool := data.all datOK && entB procs [] gl
theorem ocode_areas_eq {R : Type} (N : Nat) (nm : List UInt8) (data : DataL) (ops : OpL) (gl : EntL) (procs labels : Int) (hd : TextOK data) (hl : data.length ≤ 2000) (hN : ∀ d, d ∈ data → d.1.length < N ∧ d.2.2.length < N) (hN2 : 2000 < N) (hg : gl.length < N) (hg2 : gl.length ≤ 1099511627776) (K : Bool → Option R) :
    ocode_areas N nm data ops gl procs labels K = K (areasB data gl procs) := by
  simp only [ocode_areas, ocode_areas_b, len]
  have h1 := areas5_loop N data hd hl hN nm data ops gl procs labels (fun y0 => K y0) (fun y1 y2 y3 y4 y5 y6 => ocode_areas_27 N N y4 ((y4.length : Nat) : Int) 0 y1 y2 y3 y4 y5 y6 [] (fun y7 => K y7) (K true)) data.length N 0 (by omega) (by omega)
  have h2 := ent_loop N gl hg2 nm data ops gl procs labels (fun y7 => K y7) (K true) gl.length N 0 [] [] hg (by omega) (fun x => rfl)
  rw [show ((0 : Nat) : Int) = 0 from rfl] at h1 h2
  rw [h1, List.drop_zero]
  simp only [h2, List.drop_zero, areasB]
  cases data.all datOK <;> cases entB procs [] gl <;> rfl
def opAt (l : OpL) (i : Nat) : Int × Int × Int := l.getD i (0, 0, 0)
/-- code goes on behind an instruction -/
def goesOn (op : Int) : Bool := op != 20 && op != 25 && op != 26 && op != 27 && op != 29 && op != 30
def headOp : OpL → Option Int
  | [] => none
  | o :: _ => some o.1
def stepOK (o : Int × Int × Int) (r : OpL) : Bool :=
  (o.1 != 19 || (headOp r == some 18 || headOp r == some 28 || headOp r == some 19)) && (!goesOn o.1 || (headOp r != none && headOp r != some 24))
def ordB : Nat → OpL → Bool
  | c, [] => c == 0
  | c + 1, o :: r => o.1 == 30 && ordB c r
  | 0, o :: r => o.1 != 30 && (if o.1 = 29 then ordB o.2.2.toNat r else stepOK o r && ordB 0 r)
def casesB (c : Nat) (s : OpL) : Bool := decide (c ≤ s.length) && (s.take c).all fun o => o.1 == 30
theorem ordB_cases : ∀ (c : Nat) (s : OpL), ordB c s = (casesB c s && ordB 0 (s.drop c))
  | 0, s => by simp [casesB]
  | c + 1, [] => by simp [casesB, ordB]
  | c + 1, o :: r => by
    have h : casesB (c + 1) (o :: r) = (o.1 == 30 && casesB c r) := by
      simp only [casesB, List.length_cons, List.take_succ_cons, List.all_cons]
      have : decide (c + 1 ≤ r.length + 1) = decide (c ≤ r.length) := by simp
      rw [this]
      cases decide (c ≤ r.length) <;> cases (o.1 == 30) <;> simp
    rw [ordB, ordB_cases c r, h, List.drop_succ_cons, Bool.and_assoc]
theorem getD_drop {α : Type} (l : List α) (i j : Nat) (d : α) : (l.drop i).getD j d = l.getD (i + j) d := by
  simp [List.getD_eq_getElem?_getD]
theorem headOp_drop (l : OpL) (i : Nat) : headOp (l.drop i) = if i < l.length then some (l.getD i (0, 0, 0)).1 else none := by
  by_cases h : i < l.length
  · rw [if_pos h, List.drop_eq_getElem_cons h]
    simp [headOp, h]
  · rw [if_neg h, List.drop_eq_nil_of_le (by omega)]; rfl
theorem case_loop {R : Type} (N : Nat) (l : OpL) (i M : Nat) (hl : l.length ≤ 1099511627776) (hM : M ≤ 1000) (hi : i < l.length) (K0 : Bool → Option R) (K1 : OpL → Int → Option R) :
    ∀ (m k j : Nat), m < k → j + m = M →
    ocode_order_17 N k l i M j K0 K1 = if casesB (M - j) (l.drop (i + 1 + j)) then K1 l i else K0 false := by
  intro m
  induction m with
  | zero =>
    intro k j hk hj
    obtain ⟨k, rfl⟩ := exk hk
    simp only [ocode_order_17, ocode_order_17_b]
    rw [if_neg (by simp; omega), show M - j = 0 by omega]
    simp [casesB]
  | succ m ih =>
    intro k j hk hj
    obtain ⟨k, rfl⟩ := exk hk
    simp only [ocode_order_17, ocode_order_17_b]
    rw [if_pos (by simp; omega), wi_succ (by omega)]
    have e1 : wi (((i + 1 : Nat) : Int) + (j : Int)) = ((i + 1 + j : Nat) : Int) := by simp only [wi]; rw [w64 (by omega)]; omega
    rw [e1, wi_succ (by omega)]
    simp only [len]
    by_cases h : i + 1 + j < l.length
    · rw [if_neg (by simp; omega), if_pos (by omega), getD_at _ _ h, ih k (j + 1) (by omega) (by omega)]
      have hd : l.drop (i + 1 + j) = l[i + 1 + j] :: l.drop (i + 1 + (j + 1)) := List.drop_eq_getElem_cons h
      have hc : casesB (M - j) (l.drop (i + 1 + j)) = (l[i + 1 + j].1 == 30 && casesB (M - (j + 1)) (l.drop (i + 1 + (j + 1)))) := by
        rw [hd, show M - j = (M - (j + 1)) + 1 by omega]
        simp only [casesB, List.length_cons, List.take_succ_cons, List.all_cons]
        have : decide (M - (j + 1) + 1 ≤ (l.drop (i + 1 + (j + 1))).length + 1) = decide (M - (j + 1) ≤ (l.drop (i + 1 + (j + 1))).length) := by simp
        rw [this]
        cases decide (M - (j + 1) ≤ (l.drop (i + 1 + (j + 1))).length) <;> cases (l[i + 1 + j].1 == 30) <;> simp
      rw [hc]
      by_cases h30 : l[i + 1 + j].1 = 30
      · simp [h30]
      · have h2 : (l[i + 1 + j].1 == 30) = false := by simpa using h30
        have h3 : (l[i + 1 + j].1 != 30) = true := by simpa using h30
        simp only [h2, h3, if_true, Bool.false_and, Bool.false_eq_true, if_false]
    · rw [if_pos (by simp; omega)]
      have hc : casesB (M - j) (l.drop (i + 1 + j)) = false := by
        simp only [casesB, Bool.and_eq_false_iff]
        left; simp; omega
      rw [hc]; simp
/-- code does not go on behind the instruction i -/
def endsB (l : OpL) (i : Nat) : Bool :=
  let o := opAt l i
  if o.1 = 20 ∨ o.1 = 25 ∨ o.1 = 26 ∨ o.1 = 27 then true
  else if o.1 = 29 then o.2.2 == 0
  else if o.1 = 30 then decide (i + 1 = l.length) || (opAt l (i + 1)).1 != 30
  else false
theorem ocode_Ends_eq {R : Type} (N : Nat) (l : OpL) (i : Nat) (hl : l.length ≤ 1099511627776) (hi : i < l.length) (K : Bool → Option R) : ocode_Ends N l i K = K (endsB l i) := by
  simp only [ocode_Ends, ocode_Ends_b, ocode_Ends_12, endsB, opAt]
  have hin : (0 : Int) ≤ i ∧ (i : Int) < len l := by simp only [len]; omega
  rw [if_pos hin, show Int.toNat (i : Int) = i from by simp]
  obtain ⟨o, ho⟩ : ∃ o, l.getD i (0, 0, 0) = o := ⟨_, rfl⟩
  simp only [ho, if_pos hin]
  by_cases h1 : o.1 = 20
  · simp [h1]
  by_cases h2 : o.1 = 25
  · simp [h2]
  by_cases h3 : o.1 = 26
  · simp [h3]
  by_cases h4 : o.1 = 27
  · simp [h4]
  rw [if_neg (by simpa using h1), if_neg (by simpa using h2), if_neg (by simpa using h3), if_neg (by simpa using h4), if_neg (show ¬ (o.1 = 20 ∨ o.1 = 25 ∨ o.1 = 26 ∨ o.1 = 27) by omega)]
  by_cases h5 : o.1 = 29
  · rw [if_pos (by simpa using h5), if_pos h5]
  rw [if_neg (by simpa using h5), if_neg h5]
  by_cases h6 : o.1 = 30
  · rw [if_pos (by simpa using h6), if_pos h6, wi_succ (by omega)]
    by_cases h7 : i + 1 = l.length
    · rw [if_pos (by simp only [len, beq_iff_eq]; omega)]; simp [h7]
    · rw [if_neg (by simp only [len, beq_iff_eq]; omega), if_pos (by simp only [len]; omega)]
      simp [h7]
  · rw [if_neg (by simpa using h6), if_neg h6]
theorem order44_eq {R : Type} (N : Nat) (l : OpL) (i : Nat) (last : Bool) (hl : l.length ≤ 1099511627776) (hi : i < l.length) (hlast : last = decide (i + 1 = l.length)) (K0 : Bool → Option R) (K1 : OpL → Int → Option R) :
    ocode_order_44 N l i last K0 K1 = if (last || (opAt l (i + 1)).1 == 24) && !endsB l i then K0 false else K1 l i := by
  simp only [ocode_order_44, ocode_order_44_b, ocode_Ends_eq N l i hl hi]
  cases last with
  | true =>
    simp only [if_true, Bool.true_or, Bool.true_and]
  | false =>
    have hne : i + 1 ≠ l.length := by simpa using hlast.symm
    simp only [Bool.false_eq_true, if_false, Bool.false_or]
    rw [wi_succ (by omega), if_pos (by simp only [len]; omega)]
    have : l.getD (Int.toNat ((i + 1 : Nat) : Int)) (0, 0, 0) = opAt l (i + 1) := by simp [opAt]
    rw [this]
    cases h : ((opAt l (i + 1)).1 == 24) with
    | true => simp only [if_true, Bool.true_and]
    | false => simp only [Bool.false_eq_true, if_false, Bool.false_and]
theorem opAt_lt {l : OpL} {i : Nat} (h : i < l.length) : opAt l i = l[i] := by simp [opAt, List.getD_eq_getElem?_getD, h]
theorem headOp_at {l : OpL} {i : Nat} : headOp (l.drop i) = if i < l.length then some (opAt l i).1 else none := by
  rw [headOp_drop]; rfl
theorem casesB_le {c : Nat} {s : OpL} (h : casesB c s = true) : c ≤ s.length ∧ ∀ j, j < c → (opAt s j).1 = 30 := by
  simp only [casesB, Bool.and_eq_true, decide_eq_true_eq, List.all_eq_true, beq_iff_eq] at h
  refine ⟨h.1, fun j hj => ?_⟩
  have hjl : j < s.length := by omega
  rw [opAt_lt hjl]
  exact h.2 _ (by
    rw [List.mem_take_iff_getElem]
    exact ⟨j, by omega, rfl⟩)
theorem order_loop {R : Type} (N : Nat) (l : OpL) (hl : l.length ≤ 1099511627776) (hN : 1000 < N) (hM : ∀ o, o ∈ l → o.1 = 29 → 0 ≤ o.2.2 ∧ o.2.2 ≤ 1000) (K0 : Bool → Option R) (K1 : OpL → Option R) :
    ∀ (k i : Nat), i ≤ l.length → l.length - i < k → ocode_order_5 N k l i K0 K1 = if ordB 0 (l.drop i) then K1 l else K0 false := by
  intro k
  induction k with
  | zero => intro i _ h; omega
  | succ k ih =>
    intro i hi hk
    simp only [ocode_order_5, ocode_order_5_b]
    by_cases hlt : i < l.length
    case neg =>
      rw [if_neg (by simp [len]; omega), List.drop_eq_nil_of_le (by omega)]
      simp [ordB]
    have hin : (0 : Int) ≤ i ∧ (i : Int) < len l := by simp only [len]; omega
    have hd : l.drop i = l[i] :: l.drop (i + 1) := List.drop_eq_getElem_cons hlt
    have hM' := hM l[i] (List.getElem_mem hlt)
    have hoi : opAt l i = l[i] := opAt_lt hlt
    rw [if_pos (by simp [len]; omega), if_pos hin, getD_at _ _ hlt, wi_succ (by omega), hd]
    simp only [if_pos hin]
    obtain ⟨o, ho⟩ : ∃ o, l[i] = o := ⟨_, rfl⟩
    simp only [ho] at hM' hoi ⊢
    by_cases h29 : o.1 = 29
    · -- a switch
      rw [if_pos (by simpa using h29)]
      obtain ⟨M, hMe⟩ := Int.eq_ofNat_of_zero_le (hM' h29).1
      have hMle : M ≤ 1000 := by have := (hM' h29).2; omega
      have hcl := case_loop N l i M hl hMle hlt (fun y0 => K0 y0) (fun y1 y2 =>
        if 0 ≤ y2 ∧ y2 < len y1 then
          if (!wi (wi (y2 + (List.getD y1 (Int.toNat y2) (0, 0, 0)).2.2) + 1) == len y1) = true then
            if 0 ≤ wi (wi (y2 + (List.getD y1 (Int.toNat y2) (0, 0, 0)).2.2) + 1) ∧ wi (wi (y2 + (List.getD y1 (Int.toNat y2) (0, 0, 0)).2.2) + 1) < len y1 then
              if ((List.getD y1 (Int.toNat (wi (wi (y2 + (List.getD y1 (Int.toNat y2) (0, 0, 0)).2.2) + 1))) (0, 0, 0)).1 == 30) = true then K0 false
              else ocode_order_44 N y1 (wi (y2 + (List.getD y1 (Int.toNat y2) (0, 0, 0)).2.2)) (wi (wi (y2 + (List.getD y1 (Int.toNat y2) (0, 0, 0)).2.2) + 1) == len y1) (fun y3 => K0 y3) fun y4 y5 => ocode_order_5 N k y4 (wi (y5 + 1)) K0 K1
            else none
          else ocode_order_44 N y1 (wi (y2 + (List.getD y1 (Int.toNat y2) (0, 0, 0)).2.2)) (wi (wi (y2 + (List.getD y1 (Int.toNat y2) (0, 0, 0)).2.2) + 1) == len y1) (fun y6 => K0 y6) fun y7 y8 => ocode_order_5 N k y7 (wi (y8 + 1)) K0 K1
        else none) M N 0 (by omega) (by omega)
      rw [show ((0 : Nat) : Int) = 0 from rfl] at hcl
      rw [hMe, hcl, Nat.sub_zero, Nat.add_zero]
      have hord : ordB 0 (o :: l.drop (i + 1)) = (casesB M (l.drop (i + 1)) && ordB 0 (l.drop (i + 1 + M))) := by
        rw [ordB, if_pos h29, hMe, Int.toNat_natCast, ordB_cases, List.drop_drop]
        simp [h29]
      rw [hord]
      by_cases hc : casesB M (l.drop (i + 1)) = true
      case neg =>
        have hc' : casesB M (l.drop (i + 1)) = false := by simpa using hc
        simp only [hc', Bool.false_eq_true, if_false, Bool.false_and]
      obtain ⟨c1, c2⟩ := casesB_le hc
      have c1 : M ≤ l.length - (i + 1) := by simpa using c1
      simp only [hc, if_true, Bool.true_and, if_pos hin, getD_at _ _ hlt, ho, hMe]
      have e1 : wi ((i : Int) + (M : Int)) = ((i + M : Nat) : Int) := by simp only [wi]; rw [w64 (by omega)]; omega
      rw [e1, wi_succ (by omega)]
      have hends : (¬ i + M + 1 < l.length ∨ (opAt l (i + M + 1)).1 ≠ 30) → endsB l (i + M) = true := by
        intro hh
        unfold endsB
        cases M with
        | zero =>
          rw [Nat.add_zero] at hh ⊢
          simp only [hoi, h29, hMe]
          simp
        | succ M =>
          have h30 : (opAt l (i + (M + 1))).1 = 30 := by
            have := c2 M (by omega)
            unfold opAt at this ⊢
            rw [getD_drop] at this
            rw [show i + (M + 1) = i + 1 + M by omega]; exact this
          simp only [h30]
          rcases hh with hh | hh
          · simp; omega
          · simp; omega
      have fin : ∀ last : Bool, last = decide (i + M + 1 = l.length) → (¬ i + M + 1 < l.length ∨ (opAt l (i + M + 1)).1 ≠ 30) → ocode_order_44 N l ((i + M : Nat) : Int) last (fun y3 => K0 y3) (fun y4 y5 => ocode_order_5 N k y4 (wi (y5 + 1)) K0 K1) = if ordB 0 (l.drop (i + 1 + M)) = true then K1 l else K0 false := by
        intro last hlast hh
        rw [order44_eq N l (i + M) last hl (by omega) hlast, hends hh]
        simp only [Bool.not_true, Bool.and_false, Bool.false_eq_true, if_false]
        rw [wi_succ (by omega), ih (i + M + 1) (by omega) (by omega), show i + M + 1 = i + 1 + M by omega]
      by_cases hlast : i + M + 1 = l.length
      · have hb : ((((i + M + 1 : Nat) : Int)) == len l) = true := by simp only [len, beq_iff_eq]; omega
        rw [hb]
        simp only [Bool.not_true, Bool.false_eq_true, if_false]
        exact fin true (by simp [hlast]) (.inl (by omega))
      · have hb : ((((i + M + 1 : Nat) : Int)) == len l) = false := by
          rw [beq_eq_false_iff_ne]; simp only [len]; omega
        rw [hb]
        simp only [Bool.not_false, if_true]
        rw [if_pos (by simp only [len]; omega)]
        have hg : l.getD (Int.toNat ((i + M + 1 : Nat) : Int)) (0, 0, 0) = opAt l (i + M + 1) := by
          unfold opAt; rw [Int.toNat_natCast]
        rw [hg]
        by_cases h30 : (opAt l (i + M + 1)).1 = 30
        · rw [if_pos (by simpa using h30)]
          have hlt2 : i + 1 + M < l.length := by omega
          have : ordB 0 (l.drop (i + 1 + M)) = false := by
            rw [List.drop_eq_getElem_cons hlt2, ordB, ← opAt_lt hlt2, show i + 1 + M = i + M + 1 by omega]
            simp [h30]
          rw [this]; simp
        · rw [if_neg (by simpa using h30)]
          exact fin false (by simp [hlast]) (.inr h30)
    rw [if_neg (by simpa using h29)]
    by_cases h30 : o.1 = 30
    · rw [if_pos (by simpa using h30)]
      simp [ordB, h30]
    rw [if_neg (by simpa using h30)]
    have hord : ordB 0 (o :: l.drop (i + 1)) = (stepOK o (l.drop (i + 1)) && ordB 0 (l.drop (i + 1))) := by
      rw [ordB, if_neg h29]; simp [h30]
    rw [hord]
    have hhead : headOp (l.drop (i + 1)) = if i + 1 < l.length then some (opAt l (i + 1)).1 else none := headOp_at
    have hlb : ((((i + 1 : Nat) : Int)) == len l) = decide (i + 1 = l.length) := by
      rw [Bool.eq_iff_iff]; simp only [len, beq_iff_eq, decide_eq_true_eq]; omega
    have hends : endsB l i = !goesOn o.1 := by
      unfold endsB goesOn
      rw [hoi]
      by_cases a1 : o.1 = 20
      · simp [a1]
      by_cases a2 : o.1 = 25
      · simp [a2]
      by_cases a3 : o.1 = 26
      · simp [a3]
      by_cases a4 : o.1 = 27
      · simp [a4]
      have b1 : (o.1 != 20) = true := by simpa using a1
      have b2 : (o.1 != 25) = true := by simpa using a2
      have b3 : (o.1 != 26) = true := by simpa using a3
      have b4 : (o.1 != 27) = true := by simpa using a4
      have b5 : (o.1 != 29) = true := by simpa using h29
      have b6 : (o.1 != 30) = true := by simpa using h30
      rw [if_neg (by omega), if_neg h29, if_neg h30, b1, b2, b3, b4, b5, b6]; rfl
    have fin : o.1 ≠ 19 ∨ (i + 1 < l.length ∧ ((opAt l (i + 1)).1 = 18 ∨ (opAt l (i + 1)).1 = 28 ∨ (opAt l (i + 1)).1 = 19)) →
        ocode_order_44 N l (i : Int) (decide (i + 1 = l.length)) (fun y9 => K0 y9) (fun y10 y11 => ocode_order_5 N k y10 (wi (y11 + 1)) K0 K1) = if (stepOK o (l.drop (i + 1)) && ordB 0 (l.drop (i + 1))) = true then K1 l else K0 false := by
      intro hh
      rw [order44_eq N l i _ hl hlt rfl, wi_succ (by omega), ih (i + 1) (by omega) (by omega), hends, Bool.not_not]
      have hs : stepOK o (l.drop (i + 1)) = !((decide (i + 1 = l.length) || (opAt l (i + 1)).1 == 24) && goesOn o.1) := by
        unfold stepOK
        rw [hhead]
        have h19 : (o.1 != 19 || ((if i + 1 < l.length then some (opAt l (i + 1)).1 else none) == some 18 || (if i + 1 < l.length then some (opAt l (i + 1)).1 else none) == some 28 || (if i + 1 < l.length then some (opAt l (i + 1)).1 else none) == some 19)) = true := by
          rcases hh with hh | ⟨hh, h2⟩
          · simp [hh]
          · rw [if_pos hh]
            rcases h2 with h2 | h2 | h2 <;> simp [h2]
        rw [h19, Bool.true_and]
        by_cases hl1 : i + 1 < l.length
        · have : decide (i + 1 = l.length) = false := by simp; omega
          rw [this, if_pos hl1]
          by_cases h24 : (opAt l (i + 1)).1 = 24
          · simp [h24]
          · have h24' : ((opAt l (i + 1)).1 == 24) = false := by simpa using h24
            simp [h24, h24']
        · have : decide (i + 1 = l.length) = true := by simp; omega
          rw [this, if_neg hl1]
          simp
      rw [hs]
      cases (decide (i + 1 = l.length) || (opAt l (i + 1)).1 == 24) && goesOn o.1 <;> simp
    simp only [hlb]
    by_cases h19 : o.1 = 19
    · rw [if_pos (by simpa using h19)]
      by_cases hl1 : i + 1 = l.length
      · have hx : decide (i + 1 = l.length) = true := by simp [hl1]
        have hs : stepOK o (l.drop (i + 1)) = false := by
          unfold stepOK
          rw [hhead, if_neg (by omega), h19]; rfl
        rw [hx, hs]; simp
      · have hx : decide (i + 1 = l.length) = false := by simp [hl1]
        have hlt1 : i + 1 < l.length := by omega
        have hg : l.getD (Int.toNat ((i + 1 : Nat) : Int)) (0, 0, 0) = opAt l (i + 1) := by
          unfold opAt; rw [Int.toNat_natCast]
        have hin1 : (0 : Int) ≤ ((i + 1 : Nat) : Int) ∧ ((i + 1 : Nat) : Int) < len l := by simp only [len]; omega
        rw [hx] at fin ⊢
        simp only [Bool.false_eq_true, if_false, if_pos hin1, hg]
        have hs : ((opAt l (i + 1)).1 ≠ 18 ∧ (opAt l (i + 1)).1 ≠ 28 ∧ (opAt l (i + 1)).1 ≠ 19) → stepOK o (l.drop (i + 1)) = false := by
          intro ⟨a1, a2, a3⟩
          unfold stepOK
          rw [hhead, if_pos hlt1, h19]
          have b1 : (some (opAt l (i + 1)).1 == some 18) = false := by simpa using a1
          have b2 : (some (opAt l (i + 1)).1 == some 28) = false := by simpa using a2
          have b3 : (some (opAt l (i + 1)).1 == some 19) = false := by simpa using a3
          rw [b1, b2, b3]; rfl
        by_cases a1 : (opAt l (i + 1)).1 = 18
        · rw [if_neg (by simpa using a1)]; exact fin (.inr ⟨hlt1, .inl a1⟩)
        rw [if_pos (by simpa using a1)]
        by_cases a2 : (opAt l (i + 1)).1 = 28
        · rw [if_neg (by simpa using a2)]; exact fin (.inr ⟨hlt1, .inr (.inl a2)⟩)
        rw [if_pos (by simpa using a2)]
        by_cases a3 : (opAt l (i + 1)).1 = 19
        · rw [if_neg (by simpa using a3)]; exact fin (.inr ⟨hlt1, .inr (.inr a3)⟩)
        rw [if_pos (by simpa using a3), hs ⟨a1, a2, a3⟩]
        simp
    · rw [if_neg (by simpa using h19)]
      exact fin (.inl h19)
def firstOK (l : OpL) : Bool := headOp l == none || headOp l == some 24
theorem ocode_order_eq {R : Type} (N : Nat) (l : OpL) (hl : l.length < N) (hl2 : l.length ≤ 1099511627776) (hN : 1000 < N) (hM : ∀ o, o ∈ l → o.1 = 29 → 0 ≤ o.2.2 ∧ o.2.2 ≤ 1000) (K : Bool → Option R) :
    ocode_order N l K = K (ordB 0 l && firstOK l) := by
  simp only [ocode_order, ocode_order_b]
  have h := order_loop N l hl2 hN hM (fun y0 => K y0) (fun y1 => if (len y1 == 0) = true then K true else if (0 : Int) ≤ 0 ∧ 0 < len y1 then K ((List.getD y1 0 (0, 0, 0)).1 == 24) else none) N 0 (by omega) (by omega)
  rw [show ((0 : Nat) : Int) = 0 from rfl] at h
  rw [h, List.drop_zero]
  cases ordB 0 l with
  | false => simp
  | true =>
    simp only [if_true, Bool.true_and]
    cases l with
    | nil => simp [len, firstOK, headOp]
    | cons o r =>
      rw [if_neg (by simp only [len, List.length_cons, beq_iff_eq]; omega), if_pos (by simp only [len, List.length_cons]; omega)]
      simp [firstOK, headOp]
theorem wi_id {i : Int} (h1 : -4611686018427387904 < i) (h2 : i < 4611686018427387904) : wi i = i := by
  simp only [wi]; exact w64 (by omega)
/-- procedures so far, the greatest label, the labels' places, the labels' procedures -/
def plF : Nat → OpL → Int → Int → List Int → List Int → Option (Int × Int × List Int × List Int)
  | _, [], p, m, o, a => some (p, m, o, a)
  | i, x :: r, p, m, o, a =>
    if x.1 = 24 then (if x.2.1 = p + 1 then plF (i + 1) r (p + 1) m o a else none)
    else if x.1 = 19 then
      (if a.getD x.2.1.toNat 0 ≠ 0 ∨ p = 0 then none
       else plF (i + 1) r p (if x.2.1 > m then x.2.1 else m) (o.set x.2.1.toNat i) (a.set x.2.1.toNat p))
    else plF (i + 1) r p m o a
theorem places_loop {R : Type} (N : Nat) (nm : List UInt8) (dat : DataL) (l : OpL) (gl : EntL) (procs labels : Int) (hl : l.length ≤ 1099511627776)
    (hL : ∀ o, o ∈ l → o.1 = 19 → 1 ≤ o.2.1 ∧ o.2.1 ≤ labels) (K0 : Bool → List Int → List Int → Option R)
    (K1 : Int → Int → List UInt8 → DataL → OpL → EntL → Int → Int → List Int → List Int → Option R) :
    ∀ (k i : Nat) (p m : Int) (o a : List Int), i ≤ l.length → l.length - i < k → 0 ≤ p → p ≤ i → (o.length : Int) = labels + 1 → (a.length : Int) = labels + 1 →
      ocode_places_9 N k p m l (len l) i nm dat l gl procs labels o a K0 K1 =
        match plF i (l.drop i) p m o a with
        | none => K0 false [] []
        | some (p', m', o', a') => K1 p' m' nm dat l gl procs labels o' a' := by
  intro k
  induction k with
  | zero => intro i _ _ _ _ _ h; omega
  | succ k ih =>
    intro i p m o a hi hk hp hpi ho ha
    simp only [ocode_places_9, ocode_places_9_b]
    by_cases hlt : i < l.length
    case neg =>
      rw [if_neg (by simp [len]; omega), List.drop_eq_nil_of_le (by omega)]
      simp [plF]
    have hin : (0 : Int) ≤ i ∧ (i : Int) < len l := by simp only [len]; omega
    have hd : l.drop i = l[i] :: l.drop (i + 1) := List.drop_eq_getElem_cons hlt
    have hL' := hL l[i] (List.getElem_mem hlt)
    rw [if_pos (by simp [len]; omega), if_pos hin, getD_at _ _ hlt, wi_succ (by omega), hd]
    obtain ⟨x, hx⟩ : ∃ x, l[i] = x := ⟨_, rfl⟩
    simp only [hx] at hL' ⊢
    have hw : wi (p + 1) = p + 1 := wi_id (by omega) (by omega)
    by_cases h24 : x.1 = 24
    · rw [if_pos (by simpa using h24), hw, plF, if_pos h24]
      by_cases he : x.2.1 = p + 1
      · rw [if_neg (by simp [he]), if_pos he]
        exact ih (i + 1) (p + 1) m o a (by omega) (by omega) (by omega) (by omega) ho ha
      · rw [if_pos (by simpa using he), if_neg he]
    rw [if_neg (by simpa using h24), plF, if_neg h24]
    by_cases h19 : x.1 = 19
    · have hv := hL' h19
      have hia : 0 ≤ x.2.1 ∧ x.2.1 < len a := by simp only [len]; omega
      have hio : 0 ≤ x.2.1 ∧ x.2.1 < len o := by simp only [len]; omega
      rw [if_pos (by simpa using h19), if_pos h19, if_pos hia]
      by_cases ha0 : a.getD x.2.1.toNat 0 = 0
      · rw [if_neg (by simpa using ha0)]
        by_cases hp0 : p = 0
        · rw [if_pos (by simpa using hp0), if_pos (.inr hp0)]
        · rw [if_neg (by simpa using hp0), if_pos hio, if_pos hia, if_neg (show ¬(a.getD x.2.1.toNat 0 ≠ 0 ∨ p = 0) by intro h; rcases h with h | h; exact h ha0; exact hp0 h)]
          exact ih (i + 1) p _ _ _ (by omega) (by omega) hp (by omega) (by rw [List.length_set]; exact ho) (by rw [List.length_set]; exact ha)
      · rw [if_pos (by simpa using ha0), if_pos (.inl ha0)]
    · rw [if_neg (by simpa using h19), if_neg h19]
      exact ih (i + 1) p m o a (by omega) (by omega) hp (by omega) ho ha
/-- the places of a Code: none if a fault -/
def placesF (l : OpL) (procs labels : Int) : Option (Bool × List Int × List Int) :=
  match plF 0 l 0 0 (List.replicate (labels + 1).toNat 0) (List.replicate (labels + 1).toNat 0) with
  | none => none
  | some (p, m, o, a) => some (p == procs && m == labels, o, a)
theorem ocode_places_eq {R : Type} (N : Nat) (nm : List UInt8) (dat : DataL) (l : OpL) (gl : EntL) (procs labels : Int) (hl : l.length < N) (hl2 : l.length ≤ 1099511627776)
    (hb : 0 ≤ labels ∧ labels ≤ 1000000) (hL : ∀ o, o ∈ l → o.1 = 19 → 1 ≤ o.2.1 ∧ o.2.1 ≤ labels) (K : Bool → List Int → List Int → Option R) :
    ocode_places N nm dat l gl procs labels K = match placesF l procs labels with
      | none => K false [] []
      | some (b, o, a) => K b o a := by
  have hw : wi (labels + 1) = labels + 1 := wi_id (by omega) (by omega)
  have hg : (0 : Int) ≤ labels + 1 ∧ labels + 1 ≤ labels + 1 ∧ (labels + 1) * 8 ≤ 70368744177664 := by omega
  simp only [ocode_places, ocode_places_b, hw, if_pos hg]
  have h := places_loop N nm dat l gl procs labels hl2 hL (fun y0 y1 y2 => K y0 y1 y2) (fun y3 y4 y5 y6 y7 y8 y9 y10 y11 y12 => if (y3 == y9) = true then K (y4 == y10) y11 y12 else K false y11 y12) N 0 0 0
    (List.replicate (labels + 1).toNat 0) (List.replicate (labels + 1).toNat 0) (by omega) (by omega) (by omega) (by omega) (by simp; omega) (by simp; omega)
  rw [show ((0 : Nat) : Int) = 0 from rfl, List.drop_zero] at h
  rw [h]
  unfold placesF
  cases plF 0 l 0 0 (List.replicate (labels + 1).toNat 0) (List.replicate (labels + 1).toNat 0) with
  | none => rfl
  | some r =>
    obtain ⟨p, m, o, a⟩ := r
    dsimp only
    cases hpp : p == procs <;> simp [hpp]
def numOK (nd procs labels : Int) (x : Int × Int × Int) : Bool := decide (1 ≤ x.1) && decide (x.1 ≤ 30) && numB x.1 x.2.1 x.2.2 nd procs labels
theorem nums_loop {R : Type} (N : Nat) (nm : List UInt8) (data : DataL) (l : OpL) (gl : EntL) (procs labels : Int) (hl : l.length ≤ 1099511627776) (hd : data.length ≤ 1000000)
    (K0 : Bool → Option R) (K1 : List UInt8 → DataL → OpL → EntL → Int → Int → Option R) :
    ∀ (k i : Nat), i ≤ l.length → l.length - i < k →
      ocode_coded_13 N k l (len l) i nm data l gl procs labels kindsT K0 K1 = if (l.drop i).all (numOK data.length procs labels) then K1 nm data l gl procs labels else K0 false := by
  intro k
  induction k with
  | zero => intro i _ h; omega
  | succ k ih =>
    intro i hi hk
    simp only [ocode_coded_13, ocode_coded_13_b]
    by_cases hlt : i < l.length
    case neg =>
      rw [if_neg (by simp [len]; omega), List.drop_eq_nil_of_le (by omega)]
      simp
    have hin : (0 : Int) ≤ i ∧ (i : Int) < len l := by simp only [len]; omega
    have hd' : l.drop i = l[i] :: l.drop (i + 1) := List.drop_eq_getElem_cons hlt
    rw [if_pos (by simp [len]; omega), if_pos hin, getD_at _ _ hlt, wi_succ (by omega), hd', List.all_cons]
    obtain ⟨x, hx⟩ : ∃ x, l[i] = x := ⟨_, rfl⟩
    simp only [hx]
    by_cases h1 : x.1 < 1
    · rw [if_pos (by simpa using h1)]
      have : numOK data.length procs labels x = false := by unfold numOK; simp; omega
      rw [this]; simp
    rw [if_neg (by simpa using h1)]
    by_cases h2 : x.1 ≥ 31
    · rw [if_pos (by simpa using h2)]
      have : numOK data.length procs labels x = false := by unfold numOK; simp; omega
      rw [this]; simp
    rw [if_neg (by simpa using h2), if_pos (by omega), if_pos (show x.1 < len kindsT from by simp only [len, kindsT, List.length_cons, List.length_nil]; omega),
      show List.getD kindsT (Int.toNat x.1) (([] : List UInt8), ((0 : Int), ((0 : Int), (0 : Int)))) = kT x.1 from rfl,
      ocode_numbers_eq N _ _ _ _ _ _ _ _ _ hd (by omega)]
    have : numOK data.length procs labels x = numB x.1 x.2.1 x.2.2 data.length procs labels := by
      unfold numOK
      rw [show decide (1 ≤ x.1) = true by simp; omega, show decide (x.1 ≤ 30) = true by simp; omega]; rfl
    rw [this, ih (i + 1) (by omega) (by omega)]
    cases numB x.1 x.2.1 x.2.2 data.length procs labels <;> rfl
def namedOf (x : Int × Int × Int) : Int := if x.1 = 20 ∨ x.1 = 21 ∨ x.1 = 22 ∨ x.1 = 27 ∨ x.1 = 29 then x.2.1 else if x.1 = 30 then x.2.2 else 0
theorem ocode_Named_eq {R : Type} (N : Nat) (a b c : Int) (K : Int → Option R) : ocode_Named N a b c K = K (namedOf (a, b, c)) := by
  simp only [ocode_Named, ocode_Named_b, ocode_Named_14, namedOf]
  by_cases h1 : a = 20
  · simp [h1]
  by_cases h2 : a = 21
  · simp [h2]
  by_cases h3 : a = 22
  · simp [h3]
  by_cases h4 : a = 27
  · simp [h4]
  by_cases h5 : a = 29
  · simp [h5]
  by_cases h6 : a = 30
  · simp [h6]
  simp [h1, h2, h3, h4, h5, h6]
theorem numOK_named {nd procs labels : Int} {x : Int × Int × Int} (h : numOK nd procs labels x = true) : namedOf x = 0 ∨ (1 ≤ namedOf x ∧ namedOf x ≤ labels) := by
  obtain ⟨op, n, m⟩ := x
  simp only [numOK, Bool.and_eq_true, decide_eq_true_eq] at h
  obtain ⟨⟨h1, h2⟩, h3⟩ := h
  rcases cases30 ⟨h1, h2⟩ with rfl | rfl | rfl | rfl | rfl | rfl | rfl | rfl | rfl | rfl | rfl | rfl | rfl | rfl | rfl | rfl | rfl | rfl | rfl | rfl | rfl | rfl | rfl | rfl | rfl | rfl | rfl | rfl | rfl | rfl <;>
    simp [namedOf] <;> simp [numB, inB] at h3 <;> omega
def usesB : Int → OpL → List Int → List Int → Bool
  | _, [], _, _ => true
  | p, x :: r, o, a =>
    let p' := if x.1 = 24 then x.2.1 else p
    (decide (namedOf x ≤ 0) || (a.getD (namedOf x).toNat 0 == p' && o.getD (namedOf x).toNat 0 != 0)) && usesB p' r o a
theorem uses40 {R : Type} (N : Nat) (p : Int) (l : OpL) (ll i : Int) (o a : List Int) (x : Int × Int × Int) (h : namedOf x = 0 ∨ (1 ≤ namedOf x ∧ namedOf x < a.length)) (hoa : o.length = a.length) (K0 : Bool → Option R) (K1 : Int → OpL → Int → Int → List Int → List Int → Option R) :
    ocode_coded_40 N p l ll i o a x.1 x.2.1 x.2.2 K0 K1 = if (decide (namedOf x ≤ 0) || (a.getD (namedOf x).toNat 0 == p && o.getD (namedOf x).toNat 0 != 0)) = true then K1 p l ll i o a else K0 false := by
  simp only [ocode_coded_40, ocode_coded_40_b, ocode_Named_eq]
  rw [show (x.1, x.2.1, x.2.2) = x from rfl]
  by_cases h0 : namedOf x > 0
  · have ha : 0 ≤ namedOf x ∧ namedOf x < len a := by simp only [len]; omega
    have ho : 0 ≤ namedOf x ∧ namedOf x < len o := by simp only [len]; omega
    rw [if_pos (by simpa using h0), if_pos ha, if_pos ho, show decide (namedOf x ≤ 0) = false by simp; omega, Bool.false_or]
    generalize a.getD (namedOf x).toNat 0 = u
    generalize o.getD (namedOf x).toNat 0 = v
    by_cases h1 : u = p
    · by_cases h2 : v = 0
      · simp [h1, h2]
      · simp [h1, h2]
    · simp [h1]
  · rw [if_neg (by simpa using h0), show decide (namedOf x ≤ 0) = true by simp; omega, Bool.true_or, if_pos rfl]
theorem uses_loop {R : Type} (N : Nat) (l : OpL) (o a : List Int) (hl : l.length ≤ 1099511627776) (hoa : o.length = a.length) (hn : ∀ x, x ∈ l → namedOf x = 0 ∨ (1 ≤ namedOf x ∧ namedOf x < a.length))
    (K0 : Bool → Option R) (K1 : Option R) :
    ∀ (k i : Nat) (p : Int), i ≤ l.length → l.length - i < k →
      ocode_coded_33 N k p l (len l) i o a K0 K1 = if usesB p (l.drop i) o a then K1 else K0 false := by
  intro k
  induction k with
  | zero => intro i _ _ h; omega
  | succ k ih =>
    intro i p hi hk
    simp only [ocode_coded_33, ocode_coded_33_b]
    by_cases hlt : i < l.length
    case neg =>
      rw [if_neg (by simp [len]; omega), List.drop_eq_nil_of_le (by omega)]
      simp [usesB]
    have hin : (0 : Int) ≤ i ∧ (i : Int) < len l := by simp only [len]; omega
    have hd' : l.drop i = l[i] :: l.drop (i + 1) := List.drop_eq_getElem_cons hlt
    have hx' := hn l[i] (List.getElem_mem hlt)
    rw [if_pos (by simp [len]; omega), if_pos hin, getD_at _ _ hlt, hd', usesB]
    obtain ⟨x, hx⟩ : ∃ x, l[i] = x := ⟨_, rfl⟩
    simp only [hx] at hx' ⊢
    by_cases h24 : x.1 = 24
    · rw [if_pos (by simpa using h24), if_pos h24, uses40 N _ l _ _ o a x hx' hoa, wi_succ (by omega), ih (i + 1) _ (by omega) (by omega)]
      cases (decide (namedOf x ≤ 0) || (a.getD (namedOf x).toNat 0 == x.2.1 && o.getD (namedOf x).toNat 0 != 0)) <;> rfl
    · rw [if_neg (by simpa using h24), if_neg h24, uses40 N _ l _ _ o a x hx' hoa, wi_succ (by omega), ih (i + 1) _ (by omega) (by omega)]
      cases (decide (namedOf x ≤ 0) || (a.getD (namedOf x).toNat 0 == p && o.getD (namedOf x).toNat 0 != 0)) <;> rfl
theorem plF_len : ∀ (l : OpL) (i : Nat) (p m : Int) (o a : List Int) (r : Int × Int × List Int × List Int), plF i l p m o a = some r → r.2.2.1.length = o.length ∧ r.2.2.2.length = a.length := by
  intro l
  induction l with
  | nil => intro i p m o a r h; simp only [plF, Option.some.injEq] at h; subst h; exact ⟨rfl, rfl⟩
  | cons x l ih =>
    intro i p m o a r h
    rw [plF] at h
    split at h
    · split at h
      · exact ih _ _ _ _ _ _ h
      · cases h
    · split at h
      · split at h
        · cases h
        · have := ih _ _ _ _ _ _ h
          simpa using this
      · exact ih _ _ _ _ _ _ h
theorem placesF_len {l : OpL} {procs labels : Int} {r : Bool × List Int × List Int} (h : placesF l procs labels = some r) : r.2.1.length = (labels + 1).toNat ∧ r.2.2.length = (labels + 1).toNat := by
  unfold placesF at h
  split at h
  · cases h
  · rename_i p m o a he
    have := plF_len _ _ _ _ _ _ _ he
    simp only [Option.some.injEq] at h
    subst h
    simpa using this
def codedB (nm : List UInt8) (data : DataL) (l : OpL) (gl : EntL) (procs labels : Int) : Bool :=
  qerr nm == 0 && decide (0 ≤ procs) && decide (0 ≤ labels) && l.all (numOK data.length procs labels) &&
  (match placesF l procs labels with
   | none => false
   | some (b, o, a) => b && (ordB 0 l && firstOK l) && areasB data gl procs && usesB 0 l o a)
theorem numOK_29 {nd procs labels : Int} {x : Int × Int × Int} (h : numOK nd procs labels x = true) (h29 : x.1 = 29) : 0 ≤ x.2.2 ∧ x.2.2 ≤ 1000 := by
  obtain ⟨op, n, m⟩ := x
  simp only at h29; subst h29
  simp [numOK, numB, inB] at h
  exact h.2
theorem numOK_19 {nd procs labels : Int} {x : Int × Int × Int} (h : numOK nd procs labels x = true) (h19 : x.1 = 19) : 1 ≤ x.2.1 ∧ x.2.1 ≤ labels := by
  obtain ⟨op, n, m⟩ := x
  simp only at h19; subst h19
  simp [numOK, numB, inB] at h
  exact h.1
structure CodeFit (N : Nat) (nm : List UInt8) (data : DataL) (l : OpL) (gl : EntL) (procs labels : Int) : Prop where
  n1 : nm.length ≤ 1099511627776
  n2 : nm.length < N
  l1 : l.length < N
  l2 : l.length ≤ 1099511627776
  d1 : TextOK data
  d2 : data.length ≤ 2000
  d3 : ∀ d, d ∈ data → d.1.length < N ∧ d.2.2.length < N
  N1 : 2000 < N
  g1 : gl.length < N
  g2 : gl.length ≤ 1099511627776
  lb : labels ≤ 20000
  pb : procs ≤ 200
theorem ocode_coded_eq {R : Type} {N : Nat} {nm : List UInt8} {data : DataL} {l : OpL} {gl : EntL} {procs labels : Int} (F : CodeFit N nm data l gl procs labels) (K : Bool → Option R) :
    ocode_coded N nm data l gl procs labels K = K (codedB nm data l gl procs labels) := by
  simp only [ocode_coded, ocode_coded_b]
  obtain ⟨r, hq⟩ := lex_Quote_eq N nm F.n1 F.n2
  rw [hq]
  unfold codedB
  by_cases h1 : qerr nm = 0
  case neg =>
    rw [if_pos (by simpa using h1), show (qerr nm == 0) = false by simpa using h1]; rfl
  rw [if_neg (by simpa using h1), show (qerr nm == 0) = true by simpa using h1, Bool.true_and]
  by_cases h2 : procs < 0
  · rw [if_pos (by simpa using h2), show decide (0 ≤ procs) = false by simp; omega]; rfl
  rw [if_neg (by simpa using h2), show decide (0 ≤ procs) = true by simp; omega, Bool.true_and]
  by_cases h3 : labels < 0
  · rw [if_pos (by simpa using h3), show decide (0 ≤ labels) = false by simp; omega]; rfl
  rw [if_neg (by simpa using h3), show decide (0 ≤ labels) = true by simp; omega, Bool.true_and]
  simp only [ocode_kinds]
  have hloop := nums_loop (R := R) N nm data l gl procs labels F.l2 (by have := F.d2; omega) (fun y126 => K y126) (fun y127 y128 y129 y130 y131 y132 => ocode_places N y127 y128 y129 y130 y131 y132 (fun y133 y134 y135 => if ((!y133) = true) then (K false) else (ocode_order N y129 (fun y136 => if ((!y136) = true) then (K false) else (ocode_areas N y127 y128 y129 y130 y131 y132 (fun y137 => if ((!y137) = true) then (K false) else (ocode_coded_33 N N 0 y129 ((len y129)) 0 y134 y135 (fun y138 => K y138) (K true)))))))) N 0 (by omega) (by have := F.l1; omega)
  rw [List.drop_zero] at hloop
  refine Eq.trans hloop ?_
  by_cases hn : l.all (numOK data.length procs labels) = true
  case neg =>
    rw [if_neg hn, show l.all (numOK data.length procs labels) = false by simpa using hn]; rfl
  rw [if_pos hn, hn, Bool.true_and]
  have hall : ∀ o, o ∈ l → numOK data.length procs labels o = true := List.all_eq_true.mp hn
  rw [ocode_places_eq N _ _ _ _ _ _ F.l1 F.l2 ⟨by omega, by have := F.lb; omega⟩ (fun o ho h => numOK_19 (hall o ho) h)]
  cases hp : placesF l procs labels with
  | none => rfl
  | some r =>
    obtain ⟨b, o, a⟩ := r
    have hlen := placesF_len hp
    simp only at hlen
    dsimp only
    cases b
    · rfl
    rw [if_neg (by decide), ocode_order_eq N _ F.l1 F.l2 (by have := F.N1; omega) (fun o ho h => numOK_29 (hall o ho) h), Bool.true_and]
    cases ordB 0 l && firstOK l
    · rfl
    rw [if_neg (by decide), ocode_areas_eq N _ _ _ _ _ _ F.d1 F.d2 F.d3 F.N1 F.g1 F.g2, Bool.true_and]
    cases areasB data gl procs
    · rfl
    rw [if_neg (by decide), Bool.true_and]
    have hu := uses_loop (R := R) N l o a F.l2 (by omega) (fun x hx => by
      rcases numOK_named (hall x hx) with h | h
      · exact .inl h
      · exact .inr ⟨h.1, by omega⟩) (fun y138 => K y138) (K true) N 0 0 (by omega) (by have := F.l1; omega)
    rw [List.drop_zero] at hu
    refine Eq.trans hu ?_
    cases usesB 0 l o a <;> rfl
def leadF : OpL → Nat
  | [] => 0
  | x :: r => if x.1 = 19 then leadF r + 1 else 0
def leadIx (l : OpL) (j : Nat) : Nat := j + leadF (l.drop j)
theorem leadF_lt : ∀ l : OpL, l ≠ [] → (∀ o, l.getLast? = some o → o.1 ≠ 19) → leadF l < l.length := by
  intro l
  induction l with
  | nil => intro h; exact absurd rfl h
  | cons x r ih =>
    intro _ h
    rw [leadF]
    by_cases h19 : x.1 = 19
    · rw [if_pos h19]
      cases r with
      | nil => exact absurd h19 (h x rfl)
      | cons y r =>
        have := ih (by simp) (fun o ho => h o (by rw [List.getLast?_cons_cons]; exact ho))
        simp only [List.length_cons] at this ⊢; omega
    · rw [if_neg h19]; simp
theorem ordB_last : ∀ (l : OpL) (c : Nat), ordB c l = true → ∀ o, l.getLast? = some o → o.1 ≠ 19 := by
  intro l
  induction l with
  | nil => intro c _ o h; cases h
  | cons x r ih =>
    intro c h o ho
    cases r with
    | nil =>
      simp only [List.getLast?_singleton, Option.some.injEq] at ho
      subst ho
      cases c with
      | zero =>
        intro h19
        rw [ordB, h19] at h
        simp [stepOK, headOp, h19] at h
      | succ c =>
        simp only [ordB, Bool.and_eq_true, beq_iff_eq] at h
        omega
    | cons y r =>
      rw [List.getLast?_cons_cons] at ho
      cases c with
      | zero =>
        rw [ordB] at h
        simp only [Bool.and_eq_true] at h
        obtain ⟨_, h⟩ := h
        split at h
        · exact ih _ h o ho
        · simp only [Bool.and_eq_true] at h
          exact ih _ h.2 o ho
      | succ c =>
        simp only [ordB, Bool.and_eq_true] at h
        exact ih c (by simpa [ordB] using h.2) o ho
theorem leadIx_lt {l : OpL} (h : ordB 0 l = true) {j : Nat} (hj : j < l.length) : leadIx l j < l.length := by
  have := leadF_lt (l.drop j) (by intro h0; have := congrArg List.length h0; simp at this; omega) (fun o ho => by
    rw [List.getLast?_drop, if_neg (by omega)] at ho
    exact ordB_last l 0 h o ho)
  rw [List.length_drop] at this
  unfold leadIx; omega
theorem leads_loop {R : Type} (N : Nat) (l : OpL) (hl : l.length ≤ 1099511627776) (K : Int → Option R) : ∀ (k j : Nat), leadIx l j < l.length → l.length - j < k →
    ocode_leads_3 N k l j K = K (leadIx l j : Nat) := by
  intro k
  induction k with
  | zero => intro j _ h; omega
  | succ k ih =>
    intro j hj hk
    have hjl : j < l.length := by unfold leadIx at hj; omega
    have hin : (0 : Int) ≤ j ∧ (j : Int) < len l := by simp only [len]; omega
    have hd' : l.drop j = l[j] :: l.drop (j + 1) := List.drop_eq_getElem_cons hjl
    simp only [ocode_leads_3, ocode_leads_3_b]
    rw [if_pos hin, getD_at _ _ hjl, wi_succ (by omega)]
    by_cases h19 : l[j].1 = 19
    · have : leadIx l j = leadIx l (j + 1) := by unfold leadIx; rw [hd', leadF, if_pos h19]; omega
      rw [if_pos (by simpa using h19), ih (j + 1) (by omega) (by omega), this]
    · have : leadIx l j = j := by unfold leadIx; rw [hd', leadF, if_neg h19]; rfl
      rw [if_neg (by simpa using h19), this]
theorem ocode_leads_eq {R : Type} (N : Nat) (l : OpL) (j : Int) (hl : l.length ≤ 1099511627776) (hN : l.length < N) (ho : ordB 0 l = true) (h0 : 0 ≤ j) (hj : j < l.length) (K : Int → Option R) :
    ocode_leads N l j K = K (leadIx l j.toNat : Nat) := by
  obtain ⟨n, rfl⟩ := Int.eq_ofNat_of_zero_le h0
  simp only [ocode_leads, ocode_leads_b]
  exact leads_loop N l hl K N n (leadIx_lt ho (by omega)) (by omega)
def fitB (x : Int × Int × Int) (d : Int) (flag : Bool) : Bool :=
  (if x.1 = 2 ∨ x.1 = 3 then inB x.2.1 2 (d - 1) else if x.1 = 4 then decide (2 ≤ x.2.1) else if x.1 = 23 then inB x.2.1 2 (d - 3)
   else if x.1 = 18 then flag || decide (x.2.1 ≤ d + 2000 + 2) else true) && (x.1 == 24 || decide (2 ≤ d - (kT x.1).2.2.1))
theorem kT_pops (op : Int) : 0 ≤ (kT op).2.2.1 ∧ (kT op).2.2.1 ≤ 3 ∧ 0 ≤ (kT op).2.2.2 ∧ (kT op).2.2.2 ≤ 1 := by
  unfold kT
  generalize op.toNat = n
  by_cases h : n < 31
  · revert n; decide
  · rw [List.getD_eq_getElem?_getD, List.getElem?_eq_none (by simp only [kindsT, List.length_cons, List.length_nil]; omega)]
    decide
theorem ocode_fits_eq {R : Type} (N : Nat) (x : Int × Int × Int) (d : Int) (flag : Bool) (hd : 0 ≤ d ∧ d ≤ 4000) (K : Bool → Option R) :
    ocode_fits N x.1 x.2.1 x.2.2 d (kT x.1).1 (kT x.1).2.1 (kT x.1).2.2.1 (kT x.1).2.2.2 flag K = K (fitB x d flag) := by
  obtain ⟨op, n, m⟩ := x
  have hp := kT_pops op
  unfold fitB
  simp only
  generalize kT op = kk at hp ⊢
  have w1 : wi (d - 1) = d - 1 := wi_id (by omega) (by omega)
  have w3 : wi (d - 3) = d - 3 := wi_id (by omega) (by omega)
  have w2 : wi (wi (d + 2000) + 2) = d + 2000 + 2 := by rw [wi_id (i := d + 2000) (by omega) (by omega), wi_id (by omega) (by omega)]
  have wp : wi (d - kk.2.2.1) = d - kk.2.2.1 := wi_id (by omega) (by omega)
  simp only [ocode_fits, ocode_fits_b, ocode_fits_8, ocode_fits_8_b, ocode_fits_30, ocode_in_eq, w1, w2, w3, wp]
  by_cases h2 : op = 2
  · subst h2; cases inB n 2 (d - 1) <;> simp
  by_cases h3 : op = 3
  · subst h3; cases inB n 2 (d - 1) <;> simp
  by_cases h4 : op = 4
  · subst h4
    by_cases hn : n < 2
    · simp [hn, show ¬ 2 ≤ n by omega]
    · simp [hn, show 2 ≤ n by omega]
  by_cases h23 : op = 23
  · subst h23; cases inB n 2 (d - 3) <;> simp
  by_cases h18 : op = 18
  · subst h18
    cases flag
    · by_cases hn : n ≤ d + 2000 + 2
      · simp [hn, show ¬ (d + 2000 + 2 < n) by omega]
      · simp [hn, show d + 2000 + 2 < n by omega]
    · simp
  by_cases h24 : op = 24
  · subst h24; simp
  have b24 : (op == 24) = false := by simpa using h24
  simp [h2, h3, h4, h23, h18, h24, b24]
def aftB (x : Int × Int × Int) (d : Int) : Int :=
  if x.1 = 18 then x.2.1 else if x.1 = 24 then 2 + x.2.2 else if x.1 = 23 ∨ x.1 = 28 then x.2.1 + 1 else d - (kT x.1).2.2.1 + (kT x.1).2.2.2
theorem ocode_after_eq {R : Type} (N : Nat) (x : Int × Int × Int) (d : Int) (hd : 0 ≤ d ∧ d ≤ 4000) (hx : x.1 = 24 ∨ x.1 = 23 ∨ x.1 = 28 → 0 ≤ x.2.1 ∧ x.2.1 ≤ 4000 ∧ 0 ≤ x.2.2 ∧ x.2.2 ≤ 4000) (K : Int → Option R) :
    ocode_after N x.1 x.2.1 x.2.2 d (kT x.1).1 (kT x.1).2.1 (kT x.1).2.2.1 (kT x.1).2.2.2 K = K (aftB x d) := by
  obtain ⟨op, n, m⟩ := x
  have hp := kT_pops op
  simp only at hx
  unfold aftB
  simp only
  generalize kT op = kk at hp ⊢
  simp only [ocode_after, ocode_after_b, ocode_after_16, ocode_after_18]
  by_cases h18 : op = 18
  · simp [h18]
  by_cases h24 : op = 24
  · rw [show wi (2 + m) = 2 + m from wi_id (by have := hx (.inl h24); omega) (by have := hx (.inl h24); omega)]
    simp [h24]
  by_cases h23 : op = 23
  · rw [show wi (n + 1) = n + 1 from wi_id (by have := hx (.inr (.inl h23)); omega) (by have := hx (.inr (.inl h23)); omega)]
    simp [h23]
  by_cases h28 : op = 28
  · rw [show wi (n + 1) = n + 1 from wi_id (by have := hx (.inr (.inr h28)); omega) (by have := hx (.inr (.inr h28)); omega)]
    simp [h28]
  rw [show wi (wi (d - kk.2.2.1) + kk.2.2.2) = d - kk.2.2.1 + kk.2.2.2 by
    rw [wi_id (i := d - kk.2.2.1) (by omega) (by omega), wi_id (by omega) (by omega)]]
  simp [h18, h24, h23, h28]
/-- what follows `fits` in the program's loop over the depth -/
noncomputable def stTail {R : Type} (N : Nat) (rc : B_ocode_stacked_11 R) (x0 : Int) (x1 : OpL) (x2 x3 : Int) (x4 : List UInt8) (x5 : DataL) (x6 : OpL) (x7 : EntL) (x8 x9 : Int) (x10 : List Int) (x11 : List (List UInt8 × Int × Int × Int)) (K0 : Bool → Option R)
    (v0 v1 v2 : Int) (v3 : List UInt8) (v4 v5 v6 : Int) : Option R :=
  (if (((0 : Int) ≤ v0) ∧ (v0 < (31 : Int))) then (if (v0 < (len x11)) then (ocode_after N v0 v1 v2 x0 v3 v4 v5 v6 (fun y1 => if ((decide ((y1 < (2 : Int)))) = true) then (K0 false) else (if ((decide ((y1 > (4000 : Int)))) = true) then (K0 false) else (ocode_Named N v0 v1 v2 (fun y2 => if ((decide ((y2 > (0 : Int)))) = true) then (if (((0 : Int) ≤ y2) ∧ (y2 < (len x10))) then (ocode_leads N x6 ((List.getD x10 (Int.toNat y2) (0 : Int))) (fun y3 => if (((0 : Int) ≤ y3) ∧ (y3 < (len x6))) then (if ((!(((List.getD x6 (Int.toNat y3) ((0 : Int), ((0 : Int), (0 : Int)))).1 == (28 : Int)) == (v0 == (27 : Int)))) = true) then (K0 false) else (if ((v0 != (19 : Int)) = true) then (ocode_Ends N x6 x3 (fun y4 => if ((!y4) = true) then (let v8 := (wi (x3 + (1 : Int))); if ((decide ((v8 < (len x6)))) = true) then (ocode_leads N x6 v8 (fun y5 => if (((0 : Int) ≤ y5) ∧ (y5 < (len x6))) then (if (((List.getD x6 (Int.toNat y5) ((0 : Int), ((0 : Int), (0 : Int)))).1 == (28 : Int)) = true) then (K0 false) else (rc y1 x1 x2 v8 x4 x5 x6 x7 x8 x9 x10 x11)) else none)) else (rc y1 x1 x2 v8 x4 x5 x6 x7 x8 x9 x10 x11)) else (rc y1 x1 x2 ((wi (x3 + (1 : Int)))) x4 x5 x6 x7 x8 x9 x10 x11))) else (rc y1 x1 x2 ((wi (x3 + (1 : Int)))) x4 x5 x6 x7 x8 x9 x10 x11))) else none)) else none) else (if ((v0 != (19 : Int)) = true) then (ocode_Ends N x6 x3 (fun y6 => if ((!y6) = true) then (let v9 := (wi (x3 + (1 : Int))); if ((decide ((v9 < (len x6)))) = true) then (ocode_leads N x6 v9 (fun y7 => if (((0 : Int) ≤ y7) ∧ (y7 < (len x6))) then (if (((List.getD x6 (Int.toNat y7) ((0 : Int), ((0 : Int), (0 : Int)))).1 == (28 : Int)) = true) then (K0 false) else (rc y1 x1 x2 v9 x4 x5 x6 x7 x8 x9 x10 x11)) else none)) else (rc y1 x1 x2 v9 x4 x5 x6 x7 x8 x9 x10 x11)) else (rc y1 x1 x2 ((wi (x3 + (1 : Int)))) x4 x5 x6 x7 x8 x9 x10 x11))) else (rc y1 x1 x2 ((wi (x3 + (1 : Int)))) x4 x5 x6 x7 x8 x9 x10 x11))))))) else none) else none)
theorem stacked_b_eq {R : Type} (N : Nat) (rc : B_ocode_stacked_11 R) (x0 : Int) (x1 : OpL) (x2 x3 : Int) (x4 : List UInt8) (x5 : DataL) (x6 : OpL) (x7 : EntL) (x8 x9 : Int) (x10 : List Int) (x11 : List (List UInt8 × Int × Int × Int)) (K0 : Bool → Option R) (K1 : Option R) :
    ocode_stacked_11_b @ocode_fits @ocode_after @ocode_Named @ocode_leads @ocode_Ends N rc x0 x1 x2 x3 x4 x5 x6 x7 x8 x9 x10 x11 K0 K1 =
    if ((decide ((x3 < x2))) = true) then (if (((0 : Int) ≤ x3) ∧ (x3 < (len x1))) then (let v0 := (List.getD x1 (Int.toNat x3) ((0 : Int), ((0 : Int), (0 : Int)))).1; let v1 := (List.getD x1 (Int.toNat x3) ((0 : Int), ((0 : Int), (0 : Int)))).2.1; let v2 := (List.getD x1 (Int.toNat x3) ((0 : Int), ((0 : Int), (0 : Int)))).2.2; if (((0 : Int) ≤ v0) ∧ (v0 < (31 : Int))) then (if (v0 < (len x11)) then (let v3 := (List.getD x11 (Int.toNat v0) (([] : List UInt8), ((0 : Int), ((0 : Int), (0 : Int))))).1; let v4 := (List.getD x11 (Int.toNat v0) (([] : List UInt8), ((0 : Int), ((0 : Int), (0 : Int))))).2.1; let v5 := (List.getD x11 (Int.toNat v0) (([] : List UInt8), ((0 : Int), ((0 : Int), (0 : Int))))).2.2.1; let v6 := (List.getD x11 (Int.toNat v0) (([] : List UInt8), ((0 : Int), ((0 : Int), (0 : Int))))).2.2.2; if ((decide ((x3 > (0 : Int)))) = true) then (let v7 := (wi (x3 - (1 : Int))); if (((0 : Int) ≤ v7) ∧ (v7 < (len x6))) then (ocode_fits N v0 v1 v2 x0 v3 v4 v5 v6 (((List.getD x6 (Int.toNat v7) ((0 : Int), ((0 : Int), (0 : Int)))).1 == (19 : Int))) (fun y0 => if ((!y0) = true) then (K0 false) else stTail N rc x0 x1 x2 x3 x4 x5 x6 x7 x8 x9 x10 x11 K0 v0 v1 v2 v3 v4 v5 v6)) else none)
      else (ocode_fits N v0 v1 v2 x0 v3 v4 v5 v6 false (fun y8 => if ((!y8) = true) then (K0 false) else stTail N rc x0 x1 x2 x3 x4 x5 x6 x7 x8 x9 x10 x11 K0 v0 v1 v2 v3 v4 v5 v6))) else none) else none) else none) else K1 := rfl
def tailB (l : OpL) (o : List Int) (i : Nat) (x : Int × Int × Int) (d : Int) : Bool :=
  decide (2 ≤ aftB x d) && decide (aftB x d ≤ 4000) &&
  (decide (namedOf x ≤ 0) || (((opAt l (leadIx l (o.getD (namedOf x).toNat 0).toNat)).1 == 28) == (x.1 == 27))) &&
  (x.1 == 19 || endsB l i || decide (l.length ≤ i + 1) || (opAt l (leadIx l (i + 1))).1 != 28)
theorem stTail_end {R : Type} (N : Nat) (l : OpL) (i : Nat) (op : Int) (hl : l.length ≤ 1099511627776) (hN : l.length < N) (ho : ordB 0 l = true) (hi : i < l.length) (F : Option R) (G : Int → Option R) :
    (if ((op != (19 : Int)) = true) then (ocode_Ends N l (i : Int) (fun y6 => if ((!y6) = true) then (let v9 := (wi ((i : Int) + (1 : Int))); if ((decide ((v9 < (len l)))) = true) then (ocode_leads N l v9 (fun y7 => if (((0 : Int) ≤ y7) ∧ (y7 < (len l))) then (if (((List.getD l (Int.toNat y7) ((0 : Int), ((0 : Int), (0 : Int)))).1 == (28 : Int)) = true) then F else (G v9)) else none)) else (G v9)) else (G (wi ((i : Int) + (1 : Int)))))) else (G (wi ((i : Int) + (1 : Int)))))
     = if (op == 19 || endsB l i || decide (l.length ≤ i + 1) || (opAt l (leadIx l (i + 1))).1 != 28) = true then G ((i + 1 : Nat) : Int) else F := by
  rw [ocode_Ends_eq N l i hl hi, wi_succ (by omega)]
  by_cases h19 : op = 19
  · simp [h19]
  rw [if_pos (by simpa using h19), show (op == 19) = false by simpa using h19, Bool.false_or]
  cases endsB l i
  case true => rfl
  rw [if_pos (by decide), Bool.false_or]
  dsimp only
  by_cases hlt : i + 1 < l.length
  · rw [if_pos (by simp only [len, decide_eq_true_eq]; omega), ocode_leads_eq N l _ hl hN ho (by omega) (by omega), Int.toNat_natCast]
    have h1 := leadIx_lt ho hlt
    rw [if_pos (by simp only [len]; omega), show decide (l.length ≤ i + 1) = false by simp; omega, Bool.false_or]
    show (if ((opAt l (leadIx l (i + 1))).1 == 28) = true then F else _) = _
    unfold bne
    cases (opAt l (leadIx l (i + 1))).1 == 28 <;> rfl
  · rw [if_neg (by simp only [len, decide_eq_true_eq]; omega), show decide (l.length ≤ i + 1) = true by simp; omega]; rfl
theorem stTail_eq {R : Type} (N : Nat) (rc : B_ocode_stacked_11 R) (d : Int) (nm : List UInt8) (data : DataL) (l : OpL) (gl : EntL) (procs labels : Int) (o : List Int) (i : Nat) (K0 : Bool → Option R) (x : Int × Int × Int)
    (hd : 0 ≤ d ∧ d ≤ 4000) (hx : 1 ≤ x.1 ∧ x.1 ≤ 30) (hx2 : x.1 = 24 ∨ x.1 = 23 ∨ x.1 = 28 → 0 ≤ x.2.1 ∧ x.2.1 ≤ 4000 ∧ 0 ≤ x.2.2 ∧ x.2.2 ≤ 4000)
    (hn : namedOf x = 0 ∨ (1 ≤ namedOf x ∧ namedOf x < o.length)) (hl : l.length ≤ 1099511627776) (hN : l.length < N) (ho : ordB 0 l = true) (hi : i < l.length)
    (hov : ∀ n, 0 ≤ o.getD n 0 ∧ o.getD n 0 < l.length) :
    stTail N rc d l (len l) i nm data l gl procs labels o kindsT K0 x.1 x.2.1 x.2.2 (kT x.1).1 (kT x.1).2.1 (kT x.1).2.2.1 (kT x.1).2.2.2 =
      if tailB l o i x d = true then rc (aftB x d) l (len l) ((i + 1 : Nat) : Int) nm data l gl procs labels o kindsT else K0 false := by
  unfold stTail tailB
  rw [if_pos (by omega), if_pos (show x.1 < len kindsT from by simp only [len, kindsT, List.length_cons, List.length_nil]; omega), ocode_after_eq N x d hd hx2]
  by_cases h1 : aftB x d < 2
  · rw [if_pos (by simpa using h1), show decide (2 ≤ aftB x d) = false by simp; omega]; rfl
  rw [if_neg (by simpa using h1), show decide (2 ≤ aftB x d) = true by simp; omega, Bool.true_and]
  by_cases h2 : aftB x d > 4000
  · rw [if_pos (by simpa using h2), show decide (aftB x d ≤ 4000) = false by simp; omega]; rfl
  rw [if_neg (by simpa using h2), show decide (aftB x d ≤ 4000) = true by simp; omega, Bool.true_and, ocode_Named_eq, show (x.1, x.2.1, x.2.2) = x from rfl]
  have he := stTail_end (R := R) N l i x.1 hl hN ho hi (K0 false) (fun v => rc (aftB x d) l (len l) v nm data l gl procs labels o kindsT)
  by_cases h3 : namedOf x > 0
  · have hv := hov (namedOf x).toNat
    have h4 := leadIx_lt ho (j := (o.getD (namedOf x).toNat 0).toNat) (by omega)
    rw [if_pos (by simpa using h3), if_pos (by simp only [len]; omega), ocode_leads_eq N l _ hl hN ho hv.1 hv.2, if_pos (by simp only [len]; omega), show decide (namedOf x ≤ 0) = false by simp; omega, Bool.false_or]
    show (if (!((opAt l (leadIx l (o.getD (namedOf x).toNat 0).toNat)).1 == 28) == (x.1 == 27)) = true then _ else _) = _
    cases (((opAt l (leadIx l (o.getD (namedOf x).toNat 0).toNat)).1 == 28) == (x.1 == 27))
    · rfl
    · rw [if_neg (by decide), Bool.true_and]; exact he
  · rw [if_neg (by simpa using h3), show decide (namedOf x ≤ 0) = true by simp; omega, Bool.true_or, Bool.true_and]; exact he
def prevL (l : OpL) (i : Nat) : Bool := decide (0 < i) && (opAt l (i - 1)).1 == 19
def stkB (l : OpL) (o : List Int) : Nat → Int → OpL → Bool
  | _, _, [] => true
  | i, d, x :: r => fitB x d (prevL l i) && tailB l o i x d && stkB l o (i + 1) (aftB x d) r
theorem numOK_24 {nd procs labels : Int} (hp : procs ≤ 200) {x : Int × Int × Int} (h : numOK nd procs labels x = true) (hc : x.1 = 24 ∨ x.1 = 23 ∨ x.1 = 28) : 0 ≤ x.2.1 ∧ x.2.1 ≤ 4000 ∧ 0 ≤ x.2.2 ∧ x.2.2 ≤ 4000 := by
  obtain ⟨op, n, m⟩ := x
  simp only at hc
  rcases hc with rfl | rfl | rfl <;> simp [numOK, numB, inB] at h <;> simp only <;> omega
theorem numOK_op {nd procs labels : Int} {x : Int × Int × Int} (h : numOK nd procs labels x = true) : 1 ≤ x.1 ∧ x.1 ≤ 30 := by
  simp only [numOK, Bool.and_eq_true, decide_eq_true_eq] at h; exact h.1
theorem stacked_loop {R : Type} (N : Nat) (nm : List UInt8) (data : DataL) (l : OpL) (gl : EntL) (procs labels : Int) (o : List Int) (nd : Int) (hp : procs ≤ 200) (hl : l.length ≤ 1099511627776) (hN : l.length < N) (ho : ordB 0 l = true)
    (hall : ∀ x, x ∈ l → numOK nd procs labels x = true) (hlen : (o.length : Int) = labels + 1) (hov : ∀ n, 0 ≤ o.getD n 0 ∧ (0 < l.length → o.getD n 0 < l.length)) (K0 : Bool → Option R) (K1 : Option R) :
    ∀ (k i : Nat) (d : Int), i ≤ l.length → l.length - i < k → 0 ≤ d ∧ d ≤ 4000 →
      ocode_stacked_11 N k d l (len l) i nm data l gl procs labels o kindsT K0 K1 = if stkB l o i d (l.drop i) then K1 else K0 false := by
  intro k
  induction k with
  | zero => intro i _ _ h; omega
  | succ k ih =>
    intro i d hi hk hd
    simp only [ocode_stacked_11, stacked_b_eq]
    by_cases hlt : i < l.length
    case neg =>
      rw [if_neg (by simp [len]; omega), List.drop_eq_nil_of_le (by omega)]
      simp [stkB]
    have hin : (0 : Int) ≤ i ∧ (i : Int) < len l := by simp only [len]; omega
    have hd' : l.drop i = l[i] :: l.drop (i + 1) := List.drop_eq_getElem_cons hlt
    have hx' := hall l[i] (List.getElem_mem hlt)
    rw [if_pos (by simp [len]; omega), if_pos hin, getD_at _ _ hlt, hd', stkB]
    obtain ⟨x, hx⟩ : ∃ x, l[i] = x := ⟨_, rfl⟩
    simp only [hx] at hx' ⊢
    have hop := numOK_op hx'
    have hnm : namedOf x = 0 ∨ (1 ≤ namedOf x ∧ namedOf x < o.length) := by
      rcases numOK_named hx' with h | h
      · exact .inl h
      · exact .inr ⟨h.1, by omega⟩
    rw [if_pos (by omega), if_pos (show x.1 < len kindsT from by simp only [len, kindsT, List.length_cons, List.length_nil]; omega),
      show List.getD kindsT (Int.toNat x.1) (([] : List UInt8), ((0 : Int), ((0 : Int), (0 : Int)))) = kT x.1 from rfl]
    have tail := stTail_eq N (fun x0 x1 x2 x3 x4 x5 x6 x7 x8 x9 x10 x11 => ocode_stacked_11 N k x0 x1 x2 x3 x4 x5 x6 x7 x8 x9 x10 x11 K0 K1) d nm data l gl procs labels o i K0 x hd hop (numOK_24 hp hx') hnm hl hN ho hlt (fun n => ⟨(hov n).1, (hov n).2 (by omega)⟩)
    have fin : ∀ b, b = prevL l i → (if (!fitB x d b) = true then K0 false else stTail N (fun x0 x1 x2 x3 x4 x5 x6 x7 x8 x9 x10 x11 => ocode_stacked_11 N k x0 x1 x2 x3 x4 x5 x6 x7 x8 x9 x10 x11 K0 K1) d l (len l) i nm data l gl procs labels o kindsT K0 x.1 x.2.1 x.2.2 (kT x.1).1 (kT x.1).2.1 (kT x.1).2.2.1 (kT x.1).2.2.2)
        = if (fitB x d (prevL l i) && tailB l o i x d && stkB l o (i + 1) (aftB x d) (l.drop (i + 1))) = true then K1 else K0 false := by
      intro b hb
      subst hb
      cases fitB x d (prevL l i)
      · rfl
      rw [if_neg (by decide), tail, Bool.true_and]
      cases ht : tailB l o i x d
      · rfl
      have hy : 0 ≤ aftB x d ∧ aftB x d ≤ 4000 := by
        simp only [tailB, Bool.and_eq_true, decide_eq_true_eq] at ht; omega
      rw [if_pos rfl, ih (i + 1) _ (by omega) (by omega) hy, Bool.true_and]
    by_cases h0 : 0 < i
    · have hw : wi ((i : Int) - 1) = ((i - 1 : Nat) : Int) := by rw [wi_id (by omega) (by omega)]; omega
      rw [if_pos (by simp; omega), hw, if_pos (by simp only [len]; omega), ocode_fits_eq N x d _ hd]
      exact fin _ (by unfold prevL opAt; rw [show decide (0 < i) = true by simp; omega, Bool.true_and, Int.toNat_natCast])
    · rw [if_neg (by simp; omega), ocode_fits_eq N x d _ hd]
      exact fin _ (by unfold prevL; rw [show decide (0 < i) = false by simp; omega, Bool.false_and])
theorem plF_val : ∀ (l : OpL) (i : Nat) (p m : Int) (o a : List Int) (r : Int × Int × List Int × List Int), plF i l p m o a = some r → ∀ (L : Nat), i + l.length ≤ L → (∀ n, 0 ≤ o.getD n 0 ∧ (0 < L → o.getD n 0 < L)) → ∀ n, 0 ≤ r.2.2.1.getD n 0 ∧ (0 < L → r.2.2.1.getD n 0 < L) := by
  intro l
  induction l with
  | nil => intro i p m o a r h L _ ho; simp only [plF, Option.some.injEq] at h; subst h; exact ho
  | cons x l ih =>
    intro i p m o a r h L hL ho
    rw [List.length_cons] at hL
    rw [plF] at h
    split at h
    · split at h
      · exact ih _ _ _ _ _ _ h L (by omega) ho
      · cases h
    · split at h
      · split at h
        · cases h
        · refine ih _ _ _ _ _ _ h L (by omega) (fun n => ?_)
          rw [List.getD_eq_getElem?_getD, List.getElem?_set]
          split
          · split
            · simp only [Option.getD_some]; omega
            · simp only [Option.getD_none]; omega
          · rw [← List.getD_eq_getElem?_getD]; exact ho n
      · exact ih _ _ _ _ _ _ h L (by omega) ho
theorem placesF_val {l : OpL} {procs labels : Int} {r : Bool × List Int × List Int} (h : placesF l procs labels = some r) : ∀ n, 0 ≤ r.2.1.getD n 0 ∧ (0 < l.length → r.2.1.getD n 0 < l.length) := by
  unfold placesF at h
  split at h
  · cases h
  · rename_i p m o a he
    have := plF_val _ _ _ _ _ _ _ he l.length (by omega) (fun n => by
      rw [List.getD_eq_getElem?_getD, List.getElem?_replicate]
      split <;> simp <;> omega)
    simp only [Option.some.injEq] at h
    subst h
    exact this
def stackedB (l : OpL) (procs labels : Int) : Bool :=
  match placesF l procs labels with
  | none => false
  | some (_, o, _) => stkB l o 0 0 l
theorem ocode_stacked_eq {R : Type} {N : Nat} {nm : List UInt8} {data : DataL} {l : OpL} {gl : EntL} {procs labels : Int} (F : CodeFit N nm data l gl procs labels) (hc : codedB nm data l gl procs labels = true) (K : Bool → Option R) :
    ocode_stacked N nm data l gl procs labels K = K (stackedB l procs labels) := by
  simp only [codedB, Bool.and_eq_true, decide_eq_true_eq] at hc
  obtain ⟨⟨⟨⟨_, hp0⟩, hl0⟩, hn⟩, hc⟩ := hc
  have hall : ∀ o, o ∈ l → numOK data.length procs labels o = true := List.all_eq_true.mp hn
  simp only [ocode_stacked, ocode_stacked_b, ocode_kinds]
  rw [ocode_places_eq N _ _ _ _ _ _ F.l1 F.l2 ⟨by omega, by have := F.lb; omega⟩ (fun o ho h => numOK_19 (hall o ho) h)]
  unfold stackedB
  cases hp : placesF l procs labels with
  | none => rw [hp] at hc; cases hc
  | some r =>
    obtain ⟨b, o, a⟩ := r
    rw [hp] at hc
    simp only [Bool.and_eq_true] at hc
    have hlen := placesF_len hp
    have hval := placesF_val hp
    simp only at hlen hval
    dsimp only
    have hs := stacked_loop (R := R) N nm data l gl procs labels o data.length F.pb F.l2 F.l1 hc.1.1.2.1 hall (by omega) hval (fun y127 => K y127) (K true) N 0 0 (by omega) (by have := F.l1; omega) (by omega)
    rw [List.drop_zero] at hs
    refine Eq.trans hs ?_
    cases stkB l o 0 0 l <;> rfl
def checkF (nm : List UInt8) (data : DataL) (l : OpL) (gl : EntL) (procs labels : Int) : Int :=
  if largeB data l procs labels then 2 else if codedB nm data l gl procs labels then (if stackedB l procs labels then 0 else 61) else 60
/-- what a Code's parts are, run with N -/
structure CodeIn (N : Nat) (nm : List UInt8) (data : DataL) (gl : EntL) : Prop where
  n1 : nm.length ≤ 1099511627776
  n2 : nm.length < N
  d0 : DataOK data
  d1 : TextOK data
  d3 : ∀ d, d ∈ data → d.1.length < N ∧ d.2.2.length < N
  N1 : 40000 < N
  g1 : gl.length < N
  g2 : gl.length ≤ 1099511627776
theorem ocode_Check_eq {R : Type} {N : Nat} {nm : List UInt8} {data : DataL} {gl : EntL} (F : CodeIn N nm data gl) (l : OpL) (procs labels : Int) (K : Int → Option R) :
    ocode_Check N nm data l gl procs labels K = K (checkF nm data l gl procs labels) := by
  simp only [ocode_Check, ocode_Check_b]
  rw [ocode_large_eq N _ _ _ _ _ _ F.d0 (by have := F.N1; omega)]
  unfold checkF
  cases h : largeB data l procs labels
  case true => rfl
  simp only [largeB, Bool.or_eq_false_iff, decide_eq_false_iff_not] at h
  have G : CodeFit N nm data l gl procs labels := ⟨F.n1, F.n2, by have := F.N1; omega, by omega, F.d1, by omega, F.d3, by have := F.N1; omega, F.g1, F.g2, by omega, by omega⟩
  rw [if_neg (by decide), ocode_coded_eq G]
  cases hc : codedB nm data l gl procs labels
  · rfl
  rw [if_neg (by decide), ocode_stacked_eq G hc]
  cases stackedB l procs labels <;> rfl
def byteOf (x : Int) : Int := IntKind.wrap .u8 x
/-- the k last bytes of a number, the greatest first -/
def beB (x : Int) : Nat → List Int
  | 0 => []
  | j + 1 => byteOf (shrI .i64 x (8 * (j : Int))) :: beB x j
theorem beB_len (x : Int) : ∀ k, (beB x k).length = k
  | 0 => rfl
  | k + 1 => by rw [beB, List.length_cons, beB_len x k]
theorem pbyte_eq {R : Type} (N : Nat) (x : Int) (b : List Int) (hb : b.length + 1 ≤ 70368744177664) (K : List Int → Option R) : pack_buffer_byte N x b K = K (b ++ [byteOf x]) := by
  unfold pack_buffer_byte byteOf
  rw [if_pos (by simp only [List.length_cons, List.length_nil]; omega)]
theorem pnum_loop {R : Type} (N : Nat) (x : Int) (K : List Int → Option R) : ∀ (j k : Nat) (b : List Int), j < k → j ≤ 8 → b.length + j ≤ 70368744177664 → pack_buffer_num_5 N k x ((j : Int) - 1) b K = K (b ++ beB x j) := by
  intro j
  induction j with
  | zero =>
    intro k b hk _ _
    obtain ⟨k, rfl⟩ := exk hk
    simp only [pack_buffer_num_5, pack_buffer_num_5_b]
    rw [if_neg (by simp), beB, List.append_nil]
  | succ j ih =>
    intro k b hk h8 hb
    obtain ⟨k, rfl⟩ := exk hk
    simp only [pack_buffer_num_5, pack_buffer_num_5_b]
    have h1 : ((j + 1 : Nat) : Int) - 1 = (j : Int) := by omega
    have hw : wi (8 * (j : Int)) = 8 * (j : Int) := wi_id (by omega) (by omega)
    rw [h1, if_pos (by simp), hw, if_neg (by omega), pbyte_eq _ _ _ (by omega), wi_id (by omega) (by omega), ih k _ (by omega) (by omega) (by rw [List.length_append]; simp only [List.length_cons, List.length_nil]; omega),
      List.append_assoc]
    rfl
theorem pnum_eq {R : Type} (N : Nat) (x : Int) (j : Nat) (b : List Int) (hN : 8 < N) (h8 : j ≤ 8) (hb : b.length + j ≤ 70368744177664) (K : List Int → Option R) : pack_buffer_num N x (j : Int) b K = K (b ++ beB x j) := by
  simp only [pack_buffer_num, pack_buffer_num_b]
  rw [wi_id (by omega) (by omega)]
  exact pnum_loop N x K j N b (by omega) h8 hb
def bytesOf (s : List UInt8) : List Int := s.map fun b => ((b.toNat : Nat) : Int)
theorem ptext_eq {R : Type} (N : Nat) (s : List UInt8) (b : List Int) (hb : b.length + 1 + s.length ≤ 70368744177664) (K : List Int → Option R) : pack_buffer_text N s b K = K (b ++ (byteOf s.length :: bytesOf s)) := by
  simp only [pack_buffer_text, pack_buffer_text_b]
  rw [pbyte_eq _ _ _ (by omega), if_pos (by simp only [List.length_append, List.length_map, List.length_cons, List.length_nil]; omega), List.append_assoc]
  rfl
def extraOf (op : Int) : Int := if op = 24 then 1 else if op = 29 then 2 else if op = 30 then 4 else 0
def widthOf (c : Int) : Int := List.getD [(0 : Int), 1, 2, 4] c.toNat 0
def classOf (x : Int) : Int := if x = 0 then 0 else if -128 ≤ x ∧ x ≤ 127 then 1 else if -32768 ≤ x ∧ x ≤ 32767 then 2 else 3
theorem pextra_eq {R : Type} (N : Nat) (op : Int) (K : Int → Option R) : pack_extra N op K = K (extraOf op) := by
  unfold pack_extra extraOf
  simp only [beq_iff_eq]
  repeat' split
  all_goals rfl
theorem pbytes_eq {R : Type} (N : Nat) (c : Int) (h : 0 ≤ c ∧ c < 4) (K : Int → Option R) : pack_bytes N c K = K (widthOf c) := by
  unfold pack_bytes widthOf; rw [if_pos h]
theorem pclass_eq {R : Type} (N : Nat) (x : Int) (K : Int → Option R) : pack_class N x K = K (classOf x) := by
  unfold pack_class classOf
  simp only [beq_iff_eq, decide_eq_true_eq, ge_iff_le]
  by_cases h0 : x = 0
  · simp [h0]
  by_cases h1 : -128 ≤ x
  · by_cases h2 : x ≤ 127
    · simp [h0, h1, h2]
    · by_cases h3 : x ≤ 32767
      · simp [h0, h1, h2, h3, show -32768 ≤ x by omega]
      · simp [h0, h1, h2, h3, show -32768 ≤ x by omega]
  · by_cases h3 : -32768 ≤ x
    · simp [h0, h1, h3, show x ≤ 32767 by omega]
    · simp [h0, h1, h3]
theorem classOf_in (x : Int) : 0 ≤ classOf x ∧ classOf x < 4 := by unfold classOf; repeat' split
                                                                   all_goals omega
theorem widthOf_in {c : Int} (h : 0 ≤ c ∧ c < 4) : 0 ≤ widthOf c ∧ widthOf c ≤ 4 := by
  have : c = 0 ∨ c = 1 ∨ c = 2 ∨ c = 3 := by omega
  rcases this with rfl | rfl | rfl | rfl <;> decide
theorem extraOf_in (op : Int) : 0 ≤ extraOf op ∧ extraOf op ≤ 4 := by unfold extraOf; repeat' split
                                                                      all_goals omega
def sumF : Nat → Int → List Int → Int
  | _, s, [] => s
  | i, s, b :: r => sumF (i + 1) (andI .i64 (wi (s + (wi (wi ((i : Int) + 1) * (wi b))))) 4294967295) r
theorem psum_loop {R : Type} (N : Nat) (l : List Int) (hl : l.length ≤ 1099511627776) (K : Int → Option R) : ∀ (k i : Nat) (s : Int), i ≤ l.length → l.length - i < k → pack_Sum_7 N k s l (len l) i K = K (sumF i s (l.drop i)) := by
  intro k
  induction k with
  | zero => intro i _ _ h; omega
  | succ k ih =>
    intro i s hi hk
    simp only [pack_Sum_7, pack_Sum_7_b]
    by_cases hlt : i < l.length
    case neg =>
      rw [if_neg (by simp [len]; omega), List.drop_eq_nil_of_le (by omega)]; rfl
    have hin : (0 : Int) ≤ i ∧ (i : Int) < len l := by simp only [len]; omega
    rw [if_pos (by simp [len]; omega), if_pos hin, getD_at _ _ hlt, List.drop_eq_getElem_cons hlt, sumF, wi_succ (by omega), ih (i + 1) _ (by omega) (by omega)]
theorem pSum_eq {R : Type} (N : Nat) (l : List Int) (hl : l.length ≤ 1099511627776) (hN : l.length < N) (K : Int → Option R) : pack_Sum N l K = K (sumF 0 0 l) := by
  simp only [pack_Sum, pack_Sum_b]
  have := psum_loop N l hl K N 0 0 (by omega) (by omega)
  rw [List.drop_zero] at this
  exact this
/-- each instruction's place, and the end -/
def plcd : OpL → List Int → Int → Int × List Int
  | x :: r, c :: cs, off =>
    let q := plcd r cs (if x.1 = 19 then off else off + (1 + widthOf c + extraOf x.1))
    (q.1, off :: q.2)
  | _, _, off => (off, [])
theorem plcd_len : ∀ (l : OpL) (cs : List Int) (off : Int), cs.length = l.length → (plcd l cs off).2.length = l.length
  | [], [], _, _ => rfl
  | x :: r, c :: cs, off, h => by
    simp only [plcd, List.length_cons]
    rw [plcd_len r cs _ (by simpa using h)]
theorem plcd_loop {R : Type} (N : Nat) (l : OpL) (cs : List Int) (hc : cs.length = l.length) (hl : l.length ≤ 1099511627776) (hcs : ∀ n, 0 ≤ cs.getD n 0 ∧ cs.getD n 0 < 4) (e1 : Int) (e2 e3 e4 : List Int) (K : Int → List Int → Int → List Int → List Int → List Int → Option R) :
    ∀ (k i : Nat) (off : Int) (acc : List Int), i ≤ l.length → l.length - i < k → 0 ≤ off → off ≤ 9 * i → acc.length = i →
      pack_placed_7 N k cs l (len l) i e1 e2 off e3 e4 acc K = K e1 e2 (plcd (l.drop i) (cs.drop i) off).1 e3 e4 (acc ++ (plcd (l.drop i) (cs.drop i) off).2) := by
  intro k
  induction k with
  | zero => intro i _ _ _ h; omega
  | succ k ih =>
    intro i off acc hi hk h0 h9 ha
    simp only [pack_placed_7, pack_placed_7_b]
    by_cases hlt : i < l.length
    case neg =>
      rw [if_neg (by simp [len]; omega), List.drop_eq_nil_of_le (by omega)]
      simp [plcd]
    have hltc : i < cs.length := by omega
    have hin : (0 : Int) ≤ i ∧ (i : Int) < len l := by simp only [len]; omega
    have hinc : (0 : Int) ≤ i ∧ (i : Int) < len cs := by simp only [len]; omega
    have hci := hcs i
    rw [show cs.getD i 0 = cs[i] by simp [List.getD_eq_getElem?_getD, hltc]] at hci
    have hw := widthOf_in hci
    rw [if_pos (by simp [len]; omega), if_pos hin, getD_at _ _ hlt, wi_succ (by omega), List.drop_eq_getElem_cons hlt, List.drop_eq_getElem_cons hltc, plcd,
      if_pos (by simp only [List.length_cons, List.length_nil]; omega)]
    obtain ⟨x, hx⟩ : ∃ x, l[i] = x := ⟨_, rfl⟩
    simp only [hx]
    have he := extraOf_in x.1
    by_cases h19 : x.1 = 19
    · rw [if_neg (by simpa using h19), if_pos h19, ih (i + 1) off _ (by omega) (by omega) h0 (by omega) (by simp [ha]), List.append_assoc]; rfl
    · have hoff : wi (off + wi (wi (1 + widthOf cs[i]) + extraOf x.1)) = off + (1 + widthOf cs[i] + extraOf x.1) := by
        rw [wi_id (i := 1 + widthOf cs[i]) (by omega) (by omega), wi_id (i := 1 + widthOf cs[i] + extraOf x.1) (by omega) (by omega), wi_id (by omega) (by omega)]
      rw [if_pos (by simpa using h19), if_neg h19, if_pos hinc, getD_at _ _ hltc, pbytes_eq _ _ hci, pextra_eq, hoff, ih (i + 1) _ _ (by omega) (by omega) (by omega) (by omega) (by simp [ha]), List.append_assoc]; rfl
theorem pplaced_eq {R : Type} (N : Nat) (l : OpL) (cs : List Int) (hc : cs.length = l.length) (hl : l.length ≤ 1099511627776) (hN : l.length < N) (hcs : ∀ n, 0 ≤ cs.getD n 0 ∧ cs.getD n 0 < 4) (K : List Int → Int → List Int → Option R) :
    pack_placed N l cs K = K cs (plcd l cs 0).1 (plcd l cs 0).2 := by
  simp only [pack_placed, pack_placed_b]
  have := plcd_loop (R := R) N l cs hc hl hcs 0 cs [] [] (fun y0 y1 y2 y3 y4 y5 => K y1 y2 y5) N 0 0 [] (by omega) (by omega) (by omega) (by omega) rfl
  rw [List.drop_zero, List.drop_zero, List.nil_append] at this
  exact this
abbrev MapI := List (Int × Int)
def msetI (k v : Int) (m : MapI) : MapI := mset (kt := (.int .i64)) (et := (.int .i64)) k v m
def mgetI (k : Int) (m : MapI) : Int := Option.getD (mget (kt := (.int .i64)) (et := (.int .i64)) k m) (0 : Int)
theorem msetI_val (P : Int → Prop) (k v : Int) (hv : P v) : ∀ m : MapI, (∀ e, e ∈ m → P e.2) → ∀ e, e ∈ msetI k v m → P e.2 := by
  intro m
  induction m with
  | nil => intro _ e he; simp only [msetI, mset, List.mem_singleton] at he; subst he; exact hv
  | cons a r ih =>
    obtain ⟨k', v'⟩ := a
    intro h e he
    simp only [msetI, mset] at he
    split at he
    · rcases List.mem_cons.mp he with h1 | h1
      · subst h1; exact hv
      · exact h e (List.mem_cons_of_mem _ h1)
    · rcases List.mem_cons.mp he with h1 | h1
      · subst h1; exact h _ (List.mem_cons_self ..)
      · exact ih (fun e he => h e (List.mem_cons_of_mem _ he)) e h1
theorem mgetI_val (P : Int → Prop) (k : Int) (h0 : P 0) : ∀ m : MapI, (∀ e, e ∈ m → P e.2) → P (mgetI k m) := by
  intro m
  induction m with
  | nil => intro _; exact h0
  | cons a r ih =>
    obtain ⟨k', v'⟩ := a
    intro h
    simp only [mgetI, mget]
    split
    · exact h _ (List.mem_cons_self ..)
    · exact ih (fun e he => h e (List.mem_cons_of_mem _ he))
def marksF : Nat → OpL → MapI → MapI
  | _, [], m => m
  | i, x :: r, m => marksF (i + 1) r (if x.1 = 19 then msetI x.2.1 i m else m)
theorem marks_loop {R : Type} (N : Nat) (l : OpL) (hl : l.length ≤ 1099511627776) (K : MapI → Option R) : ∀ (k i : Nat) (m : MapI), i ≤ l.length → l.length - i < k →
    pack_marks_7 N k l (len l) i m K = K (marksF i (l.drop i) m) := by
  intro k
  induction k with
  | zero => intro i _ _ h; omega
  | succ k ih =>
    intro i m hi hk
    simp only [pack_marks_7, pack_marks_7_b]
    by_cases hlt : i < l.length
    case neg =>
      rw [if_neg (by simp [len]; omega), List.drop_eq_nil_of_le (by omega)]; rfl
    have hin : (0 : Int) ≤ i ∧ (i : Int) < len l := by simp only [len]; omega
    rw [if_pos (by simp [len]; omega), if_pos hin, getD_at _ _ hlt, wi_succ (by omega), List.drop_eq_getElem_cons hlt, marksF]
    obtain ⟨x, hx⟩ : ∃ x, l[i] = x := ⟨_, rfl⟩
    simp only [hx]
    by_cases h19 : x.1 = 19
    · rw [if_pos (by simpa using h19), if_pos h19]
      exact ih (i + 1) _ (by omega) (by omega)
    · rw [if_neg (by simpa using h19), if_neg h19]
      exact ih (i + 1) _ (by omega) (by omega)
theorem pmarks_eq {R : Type} (N : Nat) (l : OpL) (hl : l.length ≤ 1099511627776) (hN : l.length < N) (K : MapI → Option R) : pack_marks N l K = K (marksF 0 l []) := by
  simp only [pack_marks, pack_marks_b]
  have := marks_loop N l hl K N 0 [] (by omega) (by omega)
  rw [List.drop_zero] at this
  exact this
theorem marksF_val (L : Nat) : ∀ (l : OpL) (i : Nat) (m : MapI), i + l.length ≤ L → (∀ e, e ∈ m → 0 ≤ e.2 ∧ e.2 < (L : Int)) → ∀ e, e ∈ marksF i l m → 0 ≤ e.2 ∧ e.2 < (L : Int) := by
  intro l
  induction l with
  | nil => intro i m _ h; exact h
  | cons x r ih =>
    intro i m hL h
    rw [List.length_cons] at hL
    rw [marksF]
    refine ih (i + 1) _ (by omega) ?_
    split
    · exact msetI_val (fun v => 0 ≤ v ∧ v < (L : Int)) _ _ (by omega) m h
    · exact h
theorem marks_at (l : OpL) (n : Int) (h : 0 < l.length) : 0 ≤ mgetI n (marksF 0 l []) ∧ mgetI n (marksF 0 l []) < l.length :=
  mgetI_val (fun v => 0 ≤ v ∧ v < (l.length : Int)) n (by omega) _ (marksF_val l.length l 0 [] (by omega) (fun e he => by cases he))
/-- the first sizes -/
def size1 : Nat → OpL → List Int → List Int
  | _, [], s => s
  | i, x :: r, s => size1 (i + 1) r (if namedOf x = 0 ∨ x.1 = 30 then s.set i (classOf x.2.1) else s)
theorem laid7_loop {R : Type} (N : Nat) (l : OpL) (hl : l.length ≤ 1099511627776) (e0 : OpL) (e4 : MapI) (e5 : Int) (e7 e8 : List Int) (K : OpL → MapI → Int → List Int → List Int → List Int → Option R) : ∀ (k i : Nat) (s : List Int), i ≤ l.length → l.length - i < k → s.length = l.length →
    pack_laid_7 N k e0 l (len l) i e4 e5 s e7 e8 K = K e0 e4 e5 (size1 i (l.drop i) s) e7 e8 := by
  intro k
  induction k with
  | zero => intro i _ _ h; omega
  | succ k ih =>
    intro i s hi hk hs
    simp only [pack_laid_7, pack_laid_7_b]
    by_cases hlt : i < l.length
    case neg =>
      rw [if_neg (by simp [len]; omega), List.drop_eq_nil_of_le (by omega)]; rfl
    have hin : (0 : Int) ≤ i ∧ (i : Int) < len l := by simp only [len]; omega
    have hins : (0 : Int) ≤ i ∧ (i : Int) < len s := by simp only [len]; omega
    rw [if_pos (by simp [len]; omega), if_pos hin, getD_at _ _ hlt, wi_succ (by omega), List.drop_eq_getElem_cons hlt, size1]
    obtain ⟨x, hx⟩ : ∃ x, l[i] = x := ⟨_, rfl⟩
    simp only [hx, ocode_Named_eq]
    rw [show (x.1, x.2.1, x.2.2) = x from rfl]
    by_cases h0 : namedOf x = 0
    · rw [if_pos (by simpa using h0), if_pos (.inl h0), pclass_eq, if_pos hins, Int.toNat_natCast]
      exact ih (i + 1) _ (by omega) (by omega) (by rw [List.length_set]; exact hs)
    rw [if_neg (by simpa using h0)]
    by_cases h30 : x.1 = 30
    · rw [if_pos (by simpa using h30), if_pos (.inr h30), pclass_eq, if_pos hins, Int.toNat_natCast]
      exact ih (i + 1) _ (by omega) (by omega) (by rw [List.length_set]; exact hs)
    · rw [if_neg (by simpa using h30), if_neg (show ¬(namedOf x = 0 ∨ x.1 = 30) by intro h; rcases h with h | h; exact h0 h; exact h30 h)]
      exact ih (i + 1) _ (by omega) (by omega) hs
theorem plcd_val : ∀ (l : OpL) (cs : List Int) (off : Int), cs.length = l.length → (∀ n, 0 ≤ cs.getD n 0 ∧ cs.getD n 0 < 4) → 0 ≤ off →
    (off ≤ (plcd l cs off).1 ∧ (plcd l cs off).1 ≤ off + 9 * l.length) ∧ ∀ n, 0 ≤ (plcd l cs off).2.getD n 0 ∧ (plcd l cs off).2.getD n 0 ≤ off + 9 * l.length
  | [], [], off, _, _, h => by simp [plcd]; omega
  | x :: r, c :: cs, off, hl, hc, h => by
    have h0 : 0 ≤ c ∧ c < 4 := hc 0
    have hw := widthOf_in h0
    have he := extraOf_in x.1
    have hs : ∀ n, 0 ≤ cs.getD n 0 ∧ cs.getD n 0 < 4 := fun n => hc (n + 1)
    have h2 := plcd_val r cs (if x.1 = 19 then off else off + (1 + widthOf c + extraOf x.1)) (by simpa using hl) hs (by split <;> omega)
    have h3 : off ≤ (if x.1 = 19 then off else off + (1 + widthOf c + extraOf x.1)) ∧ (if x.1 = 19 then off else off + (1 + widthOf c + extraOf x.1)) ≤ off + 9 := by split <;> omega
    simp only [plcd, List.length_cons]
    refine ⟨by omega, fun n => ?_⟩
    cases n with
    | zero => simp only [List.getD_cons_zero]; omega
    | succ n =>
      simp only [List.getD_cons_succ]
      have := h2.2 n
      omega
/-- the end of an instruction, seen from its places -/
def endAt (at' cs : List Int) (l : OpL) (i : Nat) : Int := at'.getD i 0 + 1 + widthOf (cs.getD i 0) + extraOf (opAt l i).1
theorem pend_eq {R : Type} (N : Nat) (at' cs : List Int) (e : Int) (l : OpL) (i : Nat) (hi : i < l.length) (ha : at'.length = l.length) (hc : cs.length = l.length) (hcs : ∀ n, 0 ≤ cs.getD n 0 ∧ cs.getD n 0 < 4)
    (hv : ∀ n, 0 ≤ at'.getD n 0 ∧ at'.getD n 0 ≤ 1099511627776000) (K : Int → Option R) : pack_layout_end N at' cs e l i K = K (endAt at' cs l i) := by
  simp only [pack_layout_end, pack_layout_end_b]
  have hw := widthOf_in (hcs i)
  have he := extraOf_in (opAt l i).1
  have hvi := hv i
  rw [if_pos (by simp only [len]; omega), if_pos (by simp only [len]; omega), Int.toNat_natCast, pbytes_eq _ _ (hcs i), if_pos (by simp only [len]; omega), pextra_eq]
  unfold endAt
  show K (wi (wi (wi (at'.getD i 0 + 1) + widthOf (cs.getD i 0)) + extraOf (opAt l i).1)) = _
  rw [wi_id (i := at'.getD i 0 + 1) (by omega) (by omega), wi_id (i := at'.getD i 0 + 1 + widthOf (cs.getD i 0)) (by omega) (by omega), wi_id (by omega) (by omega)]
/-- how far a named label lies -/
def farOf (mk : MapI) (at' cs : List Int) (l : OpL) (i : Nat) (n : Int) : Int := at'.getD (mgetI n mk).toNat 0 - endAt at' cs l i
/-- one round: did a size grow, and the new sizes -/
def growF (mk : MapI) (at' cs : List Int) (l : OpL) : Nat → OpL → Bool → List Int → Bool × List Int
  | _, [], b, s => (b, s)
  | i, x :: r, b, s =>
    if 0 < namedOf x ∧ x.1 ≠ 30 ∧ cs.getD i 0 < classOf (farOf mk at' cs l i x.2.1) then growF mk at' cs l (i + 1) r true (s.set i (classOf (farOf mk at' cs l i x.2.1)))
    else growF mk at' cs l (i + 1) r b s
theorem laid25_loop {R : Type} (N : Nat) (l : OpL) (hl : l.length ≤ 1099511627776) (mk : MapI) (at' cs : List Int) (ha : at'.length = l.length) (hc : cs.length = l.length) (hcs : ∀ n, 0 ≤ cs.getD n 0 ∧ cs.getD n 0 < 4)
    (hv : ∀ n, 0 ≤ at'.getD n 0 ∧ at'.getD n 0 ≤ 1099511627776000) (hm : ∀ n, 0 < l.length → 0 ≤ mgetI n mk ∧ mgetI n mk < l.length) (e7 e9 : Int) (e11 e12 : List Int)
    (K : OpL → Bool → MapI → Int → List Int → Int → List Int → List Int → List Int → List Int → Option R) : ∀ (k i : Nat) (b : Bool) (s : List Int), i ≤ l.length → l.length - i < k → s.length = l.length →
    pack_laid_25 N k l cs b l (len l) i mk e7 cs e9 s e11 e12 at' K = K l (growF mk at' cs l i (l.drop i) b s).1 mk e7 cs e9 (growF mk at' cs l i (l.drop i) b s).2 e11 e12 at' := by
  intro k
  induction k with
  | zero => intro i _ _ _ h; omega
  | succ k ih =>
    intro i b s hi hk hs
    simp only [pack_laid_25, pack_laid_25_b]
    by_cases hlt : i < l.length
    case neg =>
      rw [if_neg (by simp [len]; omega), List.drop_eq_nil_of_le (by omega)]; rfl
    have hin : (0 : Int) ≤ i ∧ (i : Int) < len l := by simp only [len]; omega
    have hins : (0 : Int) ≤ i ∧ (i : Int) < len s := by simp only [len]; omega
    have hinc : (0 : Int) ≤ i ∧ (i : Int) < len cs := by simp only [len]; omega
    rw [if_pos (by simp [len]; omega), if_pos hin, getD_at _ _ hlt, wi_succ (by omega), List.drop_eq_getElem_cons hlt, growF]
    obtain ⟨x, hx⟩ : ∃ x, l[i] = x := ⟨_, rfl⟩
    simp only [hx, ocode_Named_eq]
    rw [show (x.1, x.2.1, x.2.2) = x from rfl]
    by_cases h0 : namedOf x > 0
    case neg =>
      rw [if_neg (by simpa using h0), if_neg (fun h => h0 h.1)]
      exact ih (i + 1) _ _ (by omega) (by omega) hs
    rw [if_pos (by simpa using h0)]
    by_cases h30 : x.1 = 30
    · rw [if_neg (by simpa using h30), if_neg (fun h => h.2.1 h30)]
      exact ih (i + 1) _ _ (by omega) (by omega) hs
    have hmk := hm x.2.1 (by omega)
    have hfar : wi (at'.getD (mgetI x.2.1 mk).toNat 0 - endAt at' cs l i) = farOf mk at' cs l i x.2.1 := by
      have h1 := hv (mgetI x.2.1 mk).toNat
      have h2 := hv i
      have h3 := widthOf_in (hcs i)
      have h4 := extraOf_in (opAt l i).1
      unfold farOf
      exact wi_id (by unfold endAt; omega) (by unfold endAt; omega)
    rw [if_pos (by simpa using h30)]
    change (if 0 ≤ mgetI x.2.1 mk ∧ mgetI x.2.1 mk < len at' then pack_layout_end N at' cs e9 l (i : Int) (fun y1 => pack_class N (wi (at'.getD (Int.toNat (mgetI x.2.1 mk)) 0 - y1)) (fun y2 => _)) else none) = _
    rw [if_pos (show 0 ≤ mgetI x.2.1 mk ∧ mgetI x.2.1 mk < len at' by simp only [len]; omega), pend_eq N at' cs e9 l i hlt ha hc hcs hv, pclass_eq, if_pos hinc]
    show (if decide (classOf (wi (at'.getD (mgetI x.2.1 mk).toNat 0 - endAt at' cs l i)) > cs.getD i 0) = true then _ else _) = _
    rw [hfar]
    by_cases hg : cs.getD i 0 < classOf (farOf mk at' cs l i x.2.1)
    · rw [if_pos (by simpa using hg), if_pos hins, if_pos ⟨h0, h30, hg⟩]
      rw [Int.toNat_natCast]
      exact ih (i + 1) _ _ (by omega) (by omega) (by rw [List.length_set]; exact hs)
    · rw [if_neg (by simpa using hg), if_neg (fun h => hg h.2.2)]
      exact ih (i + 1) _ _ (by omega) (by omega) hs
theorem sum_set : ∀ (s : List Int) (i : Nat) (v : Int), i < s.length → (s.set i v).sum = s.sum - s.getD i 0 + v
  | x :: r, 0, v, _ => by simp only [List.set_cons_zero, List.sum_cons, List.getD_cons_zero]; omega
  | x :: r, i + 1, v, h => by
    have := sum_set r i v (by simpa using h)
    simp only [List.set_cons_succ, List.sum_cons, List.getD_cons_succ, this]; omega
def SizeOK (L : Nat) (s : List Int) : Prop := s.length = L ∧ ∀ n, 0 ≤ s.getD n 0 ∧ s.getD n 0 < 4
theorem getD_set (s : List Int) (i n : Nat) (v : Int) : (s.set i v).getD n 0 = if i = n ∧ i < s.length then v else s.getD n 0 := by
  rw [List.getD_eq_getElem?_getD, List.getElem?_set]
  by_cases h : i = n
  · subst h
    by_cases h2 : i < s.length
    · simp [h2]
    · simp [h2]
  · simp [h, List.getD_eq_getElem?_getD]
theorem SizeOK_set {L : Nat} {s : List Int} (h : SizeOK L s) (i : Nat) (v : Int) (hv : 0 ≤ v ∧ v < 4) : SizeOK L (s.set i v) :=
  ⟨by rw [List.length_set]; exact h.1, fun n => by rw [getD_set]; split; exact hv; exact h.2 n⟩
theorem SizeOK_sum : ∀ {s : List Int} {L : Nat}, SizeOK L s → 0 ≤ s.sum ∧ s.sum ≤ 3 * L
  | [], L, h => by simp; omega
  | x :: r, L, h => by
    have h0 : 0 ≤ x ∧ x < 4 := h.2 0
    have hl := h.1
    rw [List.length_cons] at hl
    have := SizeOK_sum (s := r) (L := L - 1) ⟨by omega, fun n => h.2 (n + 1)⟩
    rw [List.sum_cons]; omega
theorem growF_ok (mk : MapI) (at' cs : List Int) (l : OpL) (L : Nat) : ∀ (r : OpL) (i : Nat) (b : Bool) (s : List Int), i + r.length ≤ L → SizeOK L s → (∀ j, i ≤ j → s.getD j 0 = cs.getD j 0) →
    SizeOK L (growF mk at' cs l i r b s).2 ∧ s.sum ≤ (growF mk at' cs l i r b s).2.sum ∧ ((growF mk at' cs l i r b s).1 = true → b = true ∨ s.sum < (growF mk at' cs l i r b s).2.sum) := by
  intro r
  induction r with
  | nil => intro i b s _ hs _; exact ⟨hs, Int.le_refl _, fun h => .inl h⟩
  | cons x r ih =>
    intro i b s hi hs hj
    rw [List.length_cons] at hi
    rw [growF]
    by_cases hc : 0 < namedOf x ∧ x.1 ≠ 30 ∧ cs.getD i 0 < classOf (farOf mk at' cs l i x.2.1)
    · rw [if_pos hc]
      obtain ⟨a1, a2, a3⟩ := ih (i + 1) true (s.set i (classOf (farOf mk at' cs l i x.2.1))) (by omega) (SizeOK_set hs i _ (classOf_in _)) (fun j hij => by
        rw [getD_set, if_neg (by omega)]; exact hj j (by omega))
      have hss := sum_set s i (classOf (farOf mk at' cs l i x.2.1)) (by have := hs.1; omega)
      have := hj i (Nat.le_refl i)
      refine ⟨a1, by omega, fun _ => .inr (by omega)⟩
    · rw [if_neg hc]
      exact ih (i + 1) b s (by omega) hs (fun j hij => hj j (by omega))
def layF (mk : MapI) (l : OpL) : Nat → List Int → List Int × Int × List Int
  | 0, s => (s, 0, [])
  | f + 1, s =>
    let q := plcd l s 0
    let g := growF mk q.2 s l 0 l false s
    if g.1 = true then layF mk l f g.2 else (s, q.1, q.2)
theorem laid17_loop {R : Type} (N : Nat) (l : OpL) (hl : l.length ≤ 1000000) (hN : l.length < N) (mk : MapI) (hm : ∀ n, 0 < l.length → 0 ≤ mgetI n mk ∧ mgetI n mk < l.length) (e : Int) (e4 e5 : List Int)
    (K : MapI → List Int → Int → List Int → Option R) : ∀ (k f : Nat) (s : List Int), SizeOK l.length s → 3 * l.length - s.sum < k → 3 * l.length - s.sum < f →
    pack_laid_17 N k l mk e s e4 e5 K = K mk (layF mk l f s).1 (layF mk l f s).2.1 (layF mk l f s).2.2 := by
  intro k
  induction k with
  | zero => intro f s hs h _; have := SizeOK_sum hs; omega
  | succ k ih =>
    intro f s hs hk hf
    have hsum := SizeOK_sum hs
    obtain ⟨f, rfl⟩ : ∃ g, f = g + 1 := ⟨f - 1, by omega⟩
    simp only [pack_laid_17, pack_laid_17_b, layF]
    have hpv := plcd_val l s 0 hs.1 hs.2 (by omega)
    rw [pplaced_eq N l s hs.1 (by omega) hN hs.2, if_pos (by have := hs.1; omega)]
    have h25 := laid25_loop (R := R) N l (by omega) mk (plcd l s 0).2 s (plcd_len l s 0 hs.1) hs.1 hs.2 (fun n => by have := hpv.2 n; omega) hm e (plcd l s 0).1 e4 e5
      (fun y3 y4 y5 y6 y7 y8 y9 y10 y11 y12 => if ((!y4) = true) then (K y5 y7 y8 y12) else (pack_laid_17 N k y3 y5 y6 y9 y10 y11 K)) N 0 false s (by omega) (by omega) hs.1
    rw [List.drop_zero] at h25
    refine Eq.trans h25 ?_
    have hg := growF_ok mk (plcd l s 0).2 s l l.length l 0 false s (by omega) hs (fun _ _ => rfl)
    cases hb : (growF mk (plcd l s 0).2 s l 0 l false s).1
    · rfl
    · have hlt : s.sum < (growF mk (plcd l s 0).2 s l 0 l false s).2.sum := by
        rcases hg.2.2 hb with h | h
        · cases h
        · exact h
      rw [if_neg (by decide), if_pos rfl]
      exact ih f _ hg.1 (by omega) (by omega)
theorem layF_ok (mk : MapI) (l : OpL) : ∀ (f : Nat) (s : List Int), SizeOK l.length s → 3 * l.length - s.sum < f →
    SizeOK l.length (layF mk l f s).1 ∧ (layF mk l f s).2 = plcd l (layF mk l f s).1 0 := by
  intro f
  induction f with
  | zero => intro s hs h; have := SizeOK_sum hs; omega
  | succ f ih =>
    intro s hs hf
    have hg := growF_ok mk (plcd l s 0).2 s l l.length l 0 false s (by omega) hs (fun _ _ => rfl)
    simp only [layF]
    cases hb : (growF mk (plcd l s 0).2 s l 0 l false s).1
    · rw [if_neg (by decide)]; exact ⟨hs, rfl⟩
    · have hlt : s.sum < (growF mk (plcd l s 0).2 s l 0 l false s).2.sum := by
        rcases hg.2.2 hb with h | h
        · cases h
        · exact h
      rw [if_pos rfl]
      exact ih _ hg.1 (by omega)
theorem size1_ok (L : Nat) : ∀ (r : OpL) (i : Nat) (s : List Int), SizeOK L s → SizeOK L (size1 i r s)
  | [], _, _, h => h
  | x :: r, i, s, h => by
    rw [size1]
    split
    · exact size1_ok L r _ _ (SizeOK_set h i _ (classOf_in _))
    · exact size1_ok L r _ _ h
def sizes0 (l : OpL) : List Int := size1 0 l (List.replicate l.length 0)
theorem sizes0_ok (l : OpL) : SizeOK l.length (sizes0 l) :=
  size1_ok _ _ _ _ ⟨by simp, fun n => by rw [List.getD_eq_getElem?_getD, List.getElem?_replicate]; split <;> simp⟩
def laidF (l : OpL) : List Int × Int × List Int := layF (marksF 0 l []) l (3 * l.length + 1) (sizes0 l)
theorem plaid_eq {R : Type} (N : Nat) (l : OpL) (hl : l.length ≤ 1000000) (hN : 3 * l.length + 1 ≤ N) (hN2 : l.length < N) (K : List Int → Int → MapI → List Int → Option R) :
    pack_laid N l (marksF 0 l []) K = K (laidF l).1 (laidF l).2.1 (marksF 0 l []) (laidF l).2.2 := by
  simp only [pack_laid, pack_laid_b]
  have h0 := SizeOK_sum (sizes0_ok l)
  have h7 := laid7_loop (R := R) N l (by omega) l (marksF 0 l []) 0 [] [] (fun y0 y1 y2 y3 y4 y5 => pack_laid_17 N N y0 y1 y2 y3 y4 y5 (fun y6 y7 y8 y9 => K y7 y8 y6 y9)) N 0 (List.replicate l.length 0) (by omega) (by omega) (by simp)
  rw [List.drop_zero] at h7
  rw [if_pos (by simp only [len]; omega), Int.toNat_natCast]
  refine Eq.trans h7 ?_
  exact laid17_loop N l hl hN2 (marksF 0 l []) (fun n h => marks_at l n h) 0 [] [] (fun y6 y7 y8 y9 => K y7 y8 y6 y9) N (3 * l.length + 1) (sizes0 l) (sizes0_ok l) (by omega) (by omega)
/-- an instruction's bytes -/
def insB (op c n m : Int) : List Int := byteOf (op + 32 * c) :: (beB n (widthOf c).toNat ++ beB m (extraOf op).toNat)
theorem insB_len (op c n m : Int) (hc : 0 ≤ c ∧ c < 4) : (insB op c n m).length ≤ 9 := by
  have := widthOf_in hc
  have := extraOf_in op
  unfold insB
  rw [List.length_cons, List.length_append, beB_len, beB_len]; omega
theorem b26_eq {R : Type} (N : Nat) (x0 : OpL) (i : Nat) (n m : Int) (x4 : OpL) (x5 x6 x7 : Int) (x8 : MapI) (cs : List Int) (x10 op x12 x13 : Int) (x14 x15 x16 b : List Int) (hi : i < cs.length) (hcs : ∀ n, 0 ≤ cs.getD n 0 ∧ cs.getD n 0 < 4)
    (hop : 0 ≤ op ∧ op ≤ 31) (hN : 8 < N) (hb : b.length + 9 ≤ 70368744177664) (K : OpL → OpL → Int → Int → Int → MapI → List Int → Int → List Int → List Int → List Int → List Int → Option R) :
    pack_body_26 N x0 i n m x4 x5 x6 x7 x8 cs x10 op x12 x13 x14 x15 x16 b K = K x0 x4 x5 x6 x7 x8 cs x10 x14 x15 x16 (b ++ insB op (cs.getD i 0) n m) := by
  simp only [pack_body_26, pack_body_26_b]
  have hc := hcs i
  have hw := widthOf_in hc
  have he := extraOf_in op
  have hin : (0 : Int) ≤ i ∧ (i : Int) < len cs := by simp only [len]; omega
  rw [if_pos hin, Int.toNat_natCast, pbyte_eq _ _ _ (by omega), if_pos hin, pbytes_eq _ _ hc]
  have h1 : widthOf (cs.getD i 0) = ((widthOf (cs.getD i 0)).toNat : Int) := by omega
  have h2 : extraOf op = ((extraOf op).toNat : Int) := by omega
  rw [h1, pnum_eq N _ _ _ hN (by omega) (by simp only [List.length_append, List.length_cons, List.length_nil]; omega), pextra_eq, h2,
    pnum_eq N _ _ _ hN (by omega) (by simp only [List.length_append, List.length_cons, List.length_nil, beB_len]; omega)]
  have hop2 : wi (op + wi (32 * cs.getD i 0)) = op + 32 * cs.getD i 0 := by rw [wi_id (i := 32 * cs.getD i 0) (by omega) (by omega), wi_id (by omega) (by omega)]
  rw [hop2, List.append_assoc, List.append_assoc]
  rfl
/-- an instruction of the body -/
def opB (mk : MapI) (at' cs : List Int) (l : OpL) (i : Nat) (x : Int × Int × Int) : List Int :=
  if x.1 = 19 then [] else if x.1 = 30 then insB x.1 (cs.getD i 0) x.2.1 (farOf mk at' cs l i x.2.2)
  else if 0 < namedOf x then insB x.1 (cs.getD i 0) (farOf mk at' cs l i x.2.1) x.2.2 else insB x.1 (cs.getD i 0) x.2.1 x.2.2
def bodF (mk : MapI) (at' cs : List Int) (l : OpL) : Nat → OpL → List Int
  | _, [] => []
  | i, x :: r => opB mk at' cs l i x ++ bodF mk at' cs l (i + 1) r
theorem body_loop {R : Type} (N : Nat) (l : OpL) (hl : l.length ≤ 1000000) (hN : 8 < N) (mk : MapI) (at' cs : List Int) (ha : at'.length = l.length) (hc : cs.length = l.length) (hcs : ∀ n, 0 ≤ cs.getD n 0 ∧ cs.getD n 0 < 4)
    (hv : ∀ n, 0 ≤ at'.getD n 0 ∧ at'.getD n 0 ≤ 1099511627776000) (hm : ∀ n, 0 < l.length → 0 ≤ mgetI n mk ∧ mgetI n mk < l.length) (hop : ∀ x, x ∈ l → 1 ≤ x.1 ∧ x.1 ≤ 30) (e4 e7 : Int) (e8 e9 : List Int)
    (K : Int → List Int → Int → List Int → List Int → List Int → List Int → Option R) : ∀ (k i : Nat) (b : List Int), i ≤ l.length → l.length - i < k → b.length ≤ 9 * i →
    pack_body_11 N k l l (len l) i e4 mk cs e7 e8 e9 at' b K = K e4 cs e7 e8 e9 at' (b ++ bodF mk at' cs l i (l.drop i)) := by
  intro k
  induction k with
  | zero => intro i _ _ h; omega
  | succ k ih =>
    intro i b hi hk hb
    simp only [pack_body_11, pack_body_11_b]
    by_cases hlt : i < l.length
    case neg =>
      rw [if_neg (by simp [len]; omega), List.drop_eq_nil_of_le (by omega), bodF, List.append_nil]
    have hin : (0 : Int) ≤ i ∧ (i : Int) < len l := by simp only [len]; omega
    have hop' := hop l[i] (List.getElem_mem hlt)
    rw [if_pos (by simp [len]; omega), if_pos hin, getD_at _ _ hlt, List.drop_eq_getElem_cons hlt, bodF]
    obtain ⟨x, hx⟩ : ∃ x, l[i] = x := ⟨_, rfl⟩
    simp only [hx, ocode_Named_eq] at hop' ⊢
    rw [show (x.1, x.2.1, x.2.2) = x from rfl]
    have hfar : ∀ n, wi (at'.getD (mgetI n mk).toNat 0 - endAt at' cs l i) = farOf mk at' cs l i n := by
      intro n
      have h1 := hv (mgetI n mk).toNat
      have h2 := hv i
      have h3 := widthOf_in (hcs i)
      have h4 := extraOf_in (opAt l i).1
      unfold farOf
      exact wi_id (by unfold endAt; omega) (by unfold endAt; omega)
    have hil := insB_len x.1 (cs.getD i 0)
    unfold opB
    by_cases h19 : x.1 = 19
    · rw [if_pos (by simpa using h19), if_pos h19, wi_succ (by omega), List.nil_append]
      exact ih (i + 1) b (by omega) (by omega) (by omega)
    rw [if_neg (by simpa using h19), if_neg h19]
    by_cases h30 : x.1 = 30
    · rw [if_pos (by simpa using h30), if_pos h30]
      have hmk := hm x.2.2 (by omega)
      change (if 0 ≤ mgetI x.2.2 mk ∧ mgetI x.2.2 mk < len at' then pack_layout_end N at' cs e7 l (i : Int) (fun y0 => pack_body_26 N l i x.2.1 (wi (at'.getD (Int.toNat (mgetI x.2.2 mk)) 0 - y0)) l (len l) i e4 mk cs e7 x.1 x.2.1 x.2.2 e8 e9 at' b _) else none) = _
      rw [if_pos (by simp only [len]; omega), pend_eq N at' cs e7 l i hlt ha hc hcs hv, b26_eq N _ _ _ _ _ _ _ _ _ _ _ _ _ _ _ _ _ _ (by omega) hcs (by omega) hN (by omega), hfar, wi_succ (by omega), ih (i + 1) _ (by omega) (by omega) (by have := hil x.2.1 (farOf mk at' cs l i x.2.2) (hcs i); rw [List.length_append]; omega), List.append_assoc]
    rw [if_neg (by simpa using h30), if_neg h30]
    by_cases h0 : namedOf x > 0
    · rw [if_pos (by simpa using h0), if_pos h0]
      have hmk := hm x.2.1 (by omega)
      change (if 0 ≤ mgetI x.2.1 mk ∧ mgetI x.2.1 mk < len at' then pack_layout_end N at' cs e7 l (i : Int) (fun y0 => pack_body_26 N l i (wi (at'.getD (Int.toNat (mgetI x.2.1 mk)) 0 - y0)) x.2.2 l (len l) i e4 mk cs e7 x.1 x.2.1 x.2.2 e8 e9 at' b _) else none) = _
      rw [if_pos (by simp only [len]; omega), pend_eq N at' cs e7 l i hlt ha hc hcs hv, b26_eq N _ _ _ _ _ _ _ _ _ _ _ _ _ _ _ _ _ _ (by omega) hcs (by omega) hN (by omega), hfar, wi_succ (by omega), ih (i + 1) _ (by omega) (by omega) (by have := hil (farOf mk at' cs l i x.2.1) x.2.2 (hcs i); rw [List.length_append]; omega), List.append_assoc]
    · rw [if_neg (by simpa using h0), if_neg h0, b26_eq N _ _ _ _ _ _ _ _ _ _ _ _ _ _ _ _ _ _ (by omega) hcs (by omega) hN (by omega), wi_succ (by omega), ih (i + 1) _ (by omega) (by omega) (by have := hil x.2.1 x.2.2 (hcs i); rw [List.length_append]; omega), List.append_assoc]
def bodyF (l : OpL) : List Int := bodF (marksF 0 l []) (laidF l).2.2 (laidF l).1 l 0 l
theorem pbody_eq {R : Type} (N : Nat) (l : OpL) (hl : l.length ≤ 1000000) (hN : 3 * l.length + 9 ≤ N) (hop : ∀ x, x ∈ l → 1 ≤ x.1 ∧ x.1 ≤ 30) (K : List Int → Int → List Int → List Int → Option R) :
    pack_body N l K = K (laidF l).1 (laidF l).2.1 (bodyF l) (laidF l).2.2 := by
  simp only [pack_body, pack_body_b]
  rw [pmarks_eq N l (by omega) (by omega), plaid_eq N l hl (by omega) (by omega)]
  have h0 := SizeOK_sum (sizes0_ok l)
  have hok := layF_ok (marksF 0 l []) l (3 * l.length + 1) (sizes0 l) (sizes0_ok l) (by omega)
  have h2 : (laidF l).2.2 = (plcd l (laidF l).1 0).2 := by rw [show (laidF l).2 = plcd l (laidF l).1 0 from hok.2]
  have hs : SizeOK l.length (laidF l).1 := hok.1
  have hpv := plcd_val l (laidF l).1 0 hs.1 hs.2 (by omega)
  have := body_loop (R := R) N l hl (by omega) (marksF 0 l []) (laidF l).2.2 (laidF l).1 (by rw [h2]; exact plcd_len l _ 0 hs.1) hs.1 hs.2 (fun n => by rw [h2]; have := hpv.2 n; omega) (fun n h => marks_at l n h) hop 0 (laidF l).2.1 [] []
    (fun y5 y6 y7 y8 y9 y10 y11 => K y6 y7 y11 y10) N 0 [] (by omega) (by omega) (by simp)
  rw [List.drop_zero, List.nil_append] at this
  exact this
theorem checkF_zero {nm : List UInt8} {data : DataL} {l : OpL} {gl : EntL} {procs labels : Int} (h : checkF nm data l gl procs labels = 0) :
    largeB data l procs labels = false ∧ codedB nm data l gl procs labels = true ∧ stackedB l procs labels = true := by
  unfold checkF at h
  split at h
  · omega
  · rename_i h1
    split at h
    · rename_i h2
      split at h
      · rename_i h3; exact ⟨by simpa using h1, h2, h3⟩
      · omega
    · omega
theorem coded_ops {nm : List UInt8} {data : DataL} {l : OpL} {gl : EntL} {procs labels : Int} (h : codedB nm data l gl procs labels = true) : ∀ o, o ∈ l → numOK data.length procs labels o = true := by
  simp only [codedB, Bool.and_eq_true, decide_eq_true_eq] at h
  exact List.all_eq_true.mp h.1.2
def smallErr (nm : List UInt8) (data : DataL) (l : OpL) (gl : EntL) (procs labels : Int) : Int :=
  if checkF nm data l gl procs labels ≠ 0 then checkF nm data l gl procs labels
  else if 32767 < (bodyF l).length ∨ 255 < nm.length ∨ 255 < gl.length then 2 else 0
theorem psmall_eq {R : Type} {N : Nat} {nm : List UInt8} {data : DataL} {gl : EntL} (F : CodeIn N nm data gl) (hN : 120009 ≤ N) (l : OpL) (procs labels : Int) (K0 : Int → Int → List Int → List Int → List Int → Option R) (K1 : List Int → Int → Int → List Int → List Int → Option R) :
    pack_small N nm data l gl procs labels K0 K1 = if smallErr nm data l gl procs labels = 0 then K1 (laidF l).1 (laidF l).2.1 0 (bodyF l) (laidF l).2.2 else K0 0 (smallErr nm data l gl procs labels) [] [] [] := by
  simp only [pack_small, pack_small_b]
  rw [ocode_Check_eq F]
  by_cases hc : checkF nm data l gl procs labels = 0
  case neg =>
    have he : smallErr nm data l gl procs labels = checkF nm data l gl procs labels := by unfold smallErr; rw [if_pos hc]
    rw [he, if_pos (by simpa using hc), if_neg hc]
  obtain ⟨h1, h2, h3⟩ := checkF_zero hc
  have hall := coded_ops h2
  simp only [largeB, Bool.or_eq_false_iff, decide_eq_false_iff_not] at h1
  have he : smallErr nm data l gl procs labels = if 32767 < (bodyF l).length ∨ 255 < nm.length ∨ 255 < gl.length then 2 else 0 := by unfold smallErr; rw [if_neg (fun h => h hc)]
  rw [if_neg (by simpa using hc), pbody_eq N l (by omega) (by omega) (fun x hx => numOK_op (hall x hx))]
  simp only [len, decide_eq_true_eq]
  by_cases a : 32767 < (bodyF l).length
  · rw [if_pos (by omega), show smallErr nm data l gl procs labels = 2 by rw [he, if_pos (.inl a)]]; rfl
  rw [if_neg (by omega)]
  by_cases b : 255 < nm.length
  · rw [if_pos (by omega), show smallErr nm data l gl procs labels = 2 by rw [he, if_pos (.inr (.inl b))]]; rfl
  rw [if_neg (by omega)]
  by_cases c : 255 < gl.length
  · rw [if_pos (by omega), show smallErr nm data l gl procs labels = 2 by rw [he, if_pos (.inr (.inr c))]]; rfl
  rw [if_neg (by omega), show smallErr nm data l gl procs labels = 0 by rw [he, if_neg (show ¬(32767 < (bodyF l).length ∨ 255 < nm.length ∨ 255 < gl.length) by omega)]]; rfl
def wordsB (w : List Int) : List Int := w.flatMap fun x => beB x 4
theorem wordsB_cons (x : Int) (r : List Int) : wordsB (x :: r) = beB x 4 ++ wordsB r := by simp [wordsB]
theorem wordsB_len (w : List Int) : (wordsB w).length = 4 * w.length := by
  induction w with
  | nil => rfl
  | cons x r ih => rw [wordsB_cons, List.length_append, beB_len, ih, List.length_cons]; omega
theorem words_loop {R : Type} (N : Nat) (w : List Int) (hw : w.length ≤ 1099511627776) (hN : 8 < N) (e0 : DataL) (e1 e2 : Int) (e6 : List UInt8) (e7 : DataL) (e8 : OpL) (e9 : EntL) (e10 e11 : Int) (e12 : List Int)
    (K : DataL → Int → Int → List UInt8 → DataL → OpL → EntL → Int → Int → List Int → List Int → Option R) : ∀ (k i : Nat) (b : List Int), i ≤ w.length → w.length - i < k → b.length + 4 * (w.length - i) ≤ 70368744177664 →
    pack_Pack_27 N k e0 e1 e2 w (len w) i e6 e7 e8 e9 e10 e11 e12 b K = K e0 e1 e2 e6 e7 e8 e9 e10 e11 e12 (b ++ wordsB (w.drop i)) := by
  intro k
  induction k with
  | zero => intro i _ _ h; omega
  | succ k ih =>
    intro i b hi hk hb
    simp only [pack_Pack_27, pack_Pack_27_b]
    by_cases hlt : i < w.length
    case neg =>
      rw [if_neg (by simp [len]; omega), List.drop_eq_nil_of_le (by omega)]
      simp [wordsB]
    have hin : (0 : Int) ≤ i ∧ (i : Int) < len w := by simp only [len]; omega
    rw [if_pos (by simp [len]; omega), if_pos hin, getD_at _ _ hlt, List.drop_eq_getElem_cons hlt, show (4 : Int) = ((4 : Nat) : Int) from rfl, pnum_eq N _ 4 b hN (by omega) (by omega), wi_succ (by omega),
      ih (i + 1) _ (by omega) (by omega) (by rw [List.length_append, beB_len]; omega), wordsB_cons, List.append_assoc]
def entriesB : EntL → List Int
  | [] => []
  | g :: r => byteOf g.1 :: (beB g.2 2 ++ entriesB r)
theorem entriesB_len : ∀ g : EntL, (entriesB g).length = 3 * g.length
  | [] => rfl
  | x :: r => by rw [entriesB, List.length_cons, List.length_append, beB_len, entriesB_len r, List.length_cons]; omega
theorem entries_loop {R : Type} (N : Nat) (g : EntL) (hg : g.length ≤ 1099511627776) (hN : 8 < N) (e3 : List Int)
    (K : List Int → List Int → Option R) : ∀ (k i : Nat) (b : List Int), i ≤ g.length → g.length - i < k → b.length + 3 * (g.length - i) ≤ 70368744177664 →
    pack_Pack_41 N k g (len g) i e3 b K = K e3 (b ++ entriesB (g.drop i)) := by
  intro k
  induction k with
  | zero => intro i _ _ h; omega
  | succ k ih =>
    intro i b hi hk hb
    simp only [pack_Pack_41, pack_Pack_41_b]
    by_cases hlt : i < g.length
    case neg =>
      rw [if_neg (by simp [len]; omega), List.drop_eq_nil_of_le (by omega)]
      simp [entriesB]
    have hin : (0 : Int) ≤ i ∧ (i : Int) < len g := by simp only [len]; omega
    rw [if_pos (by simp [len]; omega), if_pos hin, getD_at _ _ hlt, List.drop_eq_getElem_cons hlt, pbyte_eq _ _ _ (by omega), show (2 : Int) = ((2 : Nat) : Int) from rfl,
      pnum_eq N _ 2 _ hN (by omega) (by rw [List.length_append]; simp only [List.length_cons, List.length_nil]; omega), wi_succ (by omega),
      ih (i + 1) _ (by omega) (by omega) (by simp only [List.length_append, beB_len, List.length_cons, List.length_nil]; omega), entriesB, List.append_assoc, List.append_assoc]
    rfl
/-- an area's bytes -/
def datB (d : List UInt8 × Bool × List Int) : List Int :=
  if d.2.1 = true then byteOf 0 :: byteOf d.1.length :: bytesOf d.1 else byteOf 1 :: (beB d.2.2.length 2 ++ wordsB d.2.2)
def dataB : DataL → List Int
  | [] => []
  | d :: r => datB d ++ dataB r
theorem datB_len (d : List UInt8 × Bool × List Int) : (datB d).length ≤ 3 + 4 * dWords d := by
  unfold datB dWords
  by_cases h : d.2.1 = true
  · rw [if_pos h, if_pos h]; simp only [List.length_cons, bytesOf, List.length_map]; omega
  · rw [if_neg h, if_neg h]; simp only [List.length_cons, List.length_append, beB_len, wordsB_len]; omega
theorem dWords_nn (d : List UInt8 × Bool × List Int) : 0 ≤ dWords d := by unfold dWords; split <;> omega
theorem dSum_cons (d : List UInt8 × Bool × List Int) (r : DataL) : dSum (d :: r) = dWords d + dSum r := by simp [dSum]
theorem dSum_nn : ∀ l : DataL, 0 ≤ dSum l
  | [] => by simp [dSum]
  | d :: r => by rw [dSum_cons]; have := dWords_nn d; have := dSum_nn r; omega
theorem dataB_len : ∀ l : DataL, (dataB l).length ≤ 3 * l.length + 4 * dSum l
  | [] => by simp [dataB, dSum]
  | d :: r => by
    have h1 := datB_len d
    have h2 := dataB_len r
    rw [dataB, List.length_append, dSum_cons, List.length_cons]; omega
theorem data_loop {R : Type} (N : Nat) (l : DataL) (hl : l.length ≤ 1099511627776) (hN : 8 < N) (hw : ∀ d, d ∈ l → d.2.2.length < N ∧ d.2.2.length ≤ 1099511627776) (e3 : List UInt8) (e4 : DataL) (e5 : OpL) (e6 : EntL) (e7 e8 : Int) (e9 : List Int)
    (K : List UInt8 → DataL → OpL → EntL → Int → Int → List Int → List Int → Option R) : ∀ (k i : Nat) (b : List Int), i ≤ l.length → l.length - i < k → b.length + 3 * (l.length - i) + 4 * dSum (l.drop i) ≤ 70368744177664 →
    pack_Pack_15 N k l (len l) i e3 e4 e5 e6 e7 e8 e9 b K = K e3 e4 e5 e6 e7 e8 e9 (b ++ dataB (l.drop i)) := by
  intro k
  induction k with
  | zero => intro i _ _ h; omega
  | succ k ih =>
    intro i b hi hk hb
    simp only [pack_Pack_15, pack_Pack_15_b]
    by_cases hlt : i < l.length
    case neg =>
      rw [if_neg (by simp [len]; omega), List.drop_eq_nil_of_le (by omega)]
      simp [dataB]
    have hin : (0 : Int) ≤ i ∧ (i : Int) < len l := by simp only [len]; omega
    have hd' : l.drop i = l[i] :: l.drop (i + 1) := List.drop_eq_getElem_cons hlt
    have hw' := hw l[i] (List.getElem_mem hlt)
    rw [hd', dSum_cons] at hb
    rw [if_pos (by simp [len]; omega), if_pos hin, getD_at _ _ hlt, hd', dataB]
    obtain ⟨x, hx⟩ : ∃ x, l[i] = x := ⟨_, rfl⟩
    simp only [hx] at hw' hb ⊢
    have hx1 := datB_len x
    have hx2 := dWords_nn x
    have hx3 := dSum_nn (l.drop (i + 1))
    have hnext : ∀ b' : List Int, b'.length = b.length + (datB x).length → b'.length + 3 * (l.length - (i + 1)) + 4 * dSum (l.drop (i + 1)) ≤ 70368744177664 := by intro b' h; omega
    by_cases ht : x.2.1 = true
    · have hdl : (datB x).length = 2 + x.1.length := by unfold datB; rw [if_pos ht]; simp only [List.length_cons, bytesOf, List.length_map]; omega
      rw [if_pos ht, pbyte_eq _ _ _ (by omega), ptext_eq _ _ _ (by simp only [List.length_append, List.length_cons, List.length_nil]; omega), wi_succ (by omega),
        ih (i + 1) _ (by omega) (by omega) (hnext _ (by simp only [List.length_append, List.length_cons, List.length_nil, bytesOf, List.length_map]; omega))]
      unfold datB
      rw [if_pos ht, List.append_assoc, List.append_assoc]; rfl
    · have hdl : (datB x).length = 3 + 4 * x.2.2.length := by unfold datB; rw [if_neg ht]; simp only [List.length_cons, List.length_append, beB_len, wordsB_len]; omega
      rw [if_neg ht, pbyte_eq _ _ _ (by omega), show (2 : Int) = ((2 : Nat) : Int) from rfl, pnum_eq N _ 2 _ hN (by omega) (by simp only [List.length_append, List.length_cons, List.length_nil]; omega)]
      have h27 := words_loop (R := R) N x.2.2 hw'.2 hN l (len l) i e3 e4 e5 e6 e7 e8 e9 (fun y4 y5 y6 y7 y8 y9 y10 y11 y12 y13 y14 => pack_Pack_15 N k y4 y5 (wi (y6 + 1)) y7 y8 y9 y10 y11 y12 y13 y14 K) N 0
        (b ++ [byteOf 1] ++ beB (len x.2.2) 2) (by omega) (by omega) (by simp only [List.length_append, List.length_cons, List.length_nil, beB_len]; omega)
      refine Eq.trans h27 ?_
      rw [List.drop_zero, wi_succ (by omega),
        ih (i + 1) _ (by omega) (by omega) (hnext _ (by simp only [List.length_append, List.length_cons, List.length_nil, beB_len, wordsB_len]; omega))]
      unfold datB
      rw [if_neg ht, List.append_assoc, List.append_assoc, List.append_assoc]; simp [len]
def preB (nm : List UInt8) (data : DataL) (l : OpL) (gl : EntL) : List Int :=
  ([] ++ [byteOf 98] ++ [byteOf 98] ++ [byteOf 1] ++ (byteOf nm.length :: bytesOf nm) ++ beB (len data) 2 ++ dataB data ++ [byteOf (len gl)] ++ entriesB gl ++ beB (len (bodyF l)) 4) ++ bodyF l
def packF (nm : List UInt8) (data : DataL) (l : OpL) (gl : EntL) : List Int := preB nm data l gl ++ beB (sumF 0 0 (preB nm data l gl)) 4
theorem smallErr_zero {nm : List UInt8} {data : DataL} {l : OpL} {gl : EntL} {procs labels : Int} (h : smallErr nm data l gl procs labels = 0) :
    checkF nm data l gl procs labels = 0 ∧ (bodyF l).length ≤ 32767 ∧ nm.length ≤ 255 ∧ gl.length ≤ 255 := by
  unfold smallErr at h
  split at h
  · rename_i h1; exact absurd h h1
  · rename_i h1
    split at h
    · cases h
    · rename_i h2; exact ⟨by omega, by omega, by omega, by omega⟩
theorem preB_len {nm : List UInt8} {data : DataL} {l : OpL} {gl : EntL} {procs labels : Int} (h : smallErr nm data l gl procs labels = 0) : (preB nm data l gl).length ≤ 100000 := by
  obtain ⟨h1, h2, h3, h4⟩ := smallErr_zero h
  obtain ⟨h5, _, _⟩ := checkF_zero h1
  simp only [largeB, Bool.or_eq_false_iff, decide_eq_false_iff_not] at h5
  have := dataB_len data
  unfold preB
  simp only [List.length_append, List.length_cons, List.length_nil, bytesOf, List.length_map, beB_len, entriesB_len]
  omega
theorem pPack_eq {R : Type} {N : Nat} {nm : List UInt8} {data : DataL} {gl : EntL} (F : CodeIn N nm data gl) (hN : 120009 ≤ N) (l : OpL) (procs labels : Int) (K : Int → List Int → Option R) :
    pack_Pack N nm data l gl procs labels K = if smallErr nm data l gl procs labels = 0 then K 0 (packF nm data l gl) else K (smallErr nm data l gl procs labels) [] := by
  simp only [pack_Pack, pack_Pack_b]
  rw [psmall_eq F hN]
  by_cases he : smallErr nm data l gl procs labels = 0
  case neg => rw [if_neg he, if_neg he, if_pos (by simpa using he)]
  rw [if_pos he, if_pos he, if_neg (by decide)]
  obtain ⟨h1, h2, h3, h4⟩ := smallErr_zero he
  obtain ⟨h5, _, _⟩ := checkF_zero h1
  simp only [largeB, Bool.or_eq_false_iff, decide_eq_false_iff_not] at h5
  have hdl := dataB_len data
  have hpl := preB_len he
  rw [pbyte_eq _ _ _ (by simp), pbyte_eq _ _ _ (by simp), pbyte_eq _ _ _ (by simp), ptext_eq _ _ _ (by simp; omega), show (2 : Int) = ((2 : Nat) : Int) from rfl,
    pnum_eq N _ 2 _ (by omega) (by omega) (by simp only [List.length_append, List.length_cons, List.length_nil, bytesOf, List.length_map]; omega)]
  have hd := data_loop (R := R) N data (by omega) (by omega) (fun d hd => ⟨(F.d3 d hd).2, (F.d1 d hd).2⟩) nm data l gl procs labels (bodyF l)
    (fun y34 y35 y36 y37 y38 y39 y40 y41 => pack_buffer_byte N ((len y37)) y41 (fun y42 => pack_Pack_41 N N y37 ((len y37)) 0 y40 y42 (fun y43 y44 => pack_buffer_num N ((len y43)) 4 y44 (fun y45 => if ((((List.length y45) + (List.length y43)) * (1 : Nat)) ≤ (70368744177664 : Nat)) then (pack_Sum N ((y45 ++ y43)) (fun y46 => pack_buffer_num N y46 4 ((y45 ++ y43)) (fun y47 => K 0 y47))) else none)))) N 0
    ([] ++ [byteOf 98] ++ [byteOf 98] ++ [byteOf 1] ++ (byteOf nm.length :: bytesOf nm) ++ beB (len data) 2) (by omega) (by omega) (by rw [List.drop_zero]; simp only [List.length_append, List.length_cons, List.length_nil, bytesOf, List.length_map, beB_len]; omega)
  refine Eq.trans hd ?_
  rw [List.drop_zero, pbyte_eq _ _ _ (by simp only [List.length_append, List.length_cons, List.length_nil, bytesOf, List.length_map, beB_len]; omega)]
  have hg := entries_loop (R := R) N gl (by omega) (by omega) (bodyF l) (fun y43 y44 => pack_buffer_num N ((len y43)) 4 y44 (fun y45 => if ((((List.length y45) + (List.length y43)) * (1 : Nat)) ≤ (70368744177664 : Nat)) then (pack_Sum N ((y45 ++ y43)) (fun y46 => pack_buffer_num N y46 4 ((y45 ++ y43)) (fun y47 => K 0 y47))) else none)) N 0
    ([] ++ [byteOf 98] ++ [byteOf 98] ++ [byteOf 1] ++ (byteOf nm.length :: bytesOf nm) ++ beB (len data) 2 ++ dataB data ++ [byteOf (len gl)]) (by omega) (by omega) (by simp only [List.length_append, List.length_cons, List.length_nil, bytesOf, List.length_map, beB_len]; omega)
  refine Eq.trans hg ?_
  have hpl2 := hpl
  unfold preB at hpl2
  simp only [List.length_append, List.length_cons, List.length_nil, bytesOf, List.length_map, beB_len] at hpl2
  rw [List.drop_zero, show (4 : Int) = ((4 : Nat) : Int) from rfl, pnum_eq N _ 4 _ (by omega) (by omega) (by simp only [List.length_append, List.length_cons, List.length_nil, bytesOf, List.length_map, beB_len]; omega),
    if_pos (by simp only [List.length_append, List.length_cons, List.length_nil, bytesOf, List.length_map, beB_len]; omega)]
  change pack_Sum N (preB nm data l gl) (fun y46 => pack_buffer_num N y46 ((4 : Nat) : Int) (preB nm data l gl) (fun y47 => K 0 y47)) = _
  rw [pSum_eq N _ (by omega) (by omega), pnum_eq N _ 4 _ (by omega) (by omega) (by omega)]
  rfl
def cls (v : Int) : Int := if v = 0 then 0 else if -128 ≤ v ∧ v ≤ 127 then 1 else if -32768 ≤ v ∧ v ≤ 32767 then 2 else 3
def ext (op : Int) : Int := if op = 24 then 1 else if op = 29 then 2 else if op = 30 then 4 else 0
def wid (k : Int) : Int := if k = 3 then 4 else k
theorem pack_class_eq {R : Type} (N : Nat) (v : Int) (K : Int → Option R) : pack_class N v K = K (cls v) := by
  unfold pack_class cls
  simp only [beq_iff_eq, decide_eq_true_eq]
  repeat' split
  all_goals first | rfl | (exfalso; omega)
theorem pack_extra_eq {R : Type} (N : Nat) (v : Int) (K : Int → Option R) : pack_extra N v K = K (ext v) := by
  unfold pack_extra ext
  simp only [beq_iff_eq]
  repeat' split
  all_goals first | rfl | (exfalso; omega)
theorem pow256 {n : Nat} (h : n ≤ 6) : (256 : Int) ^ n ≤ 281474976710656 := by
  have : n = 0 ∨ n = 1 ∨ n = 2 ∨ n = 3 ∨ n = 4 ∨ n = 5 ∨ n = 6 := by omega
  rcases this with rfl | rfl | rfl | rfl | rfl | rfl | rfl <;> decide
theorem pack_num_loop {R : Type} (N : Nat) (b : List Int) (hb : Bytes b) (n : Int) (K : Int → List Int → Int → Bool → Option R) : ∀ (m k : Nat) (v i : Int) (a : Nat), m < k → i + m = n → 0 ≤ i → n ≤ 7 → 0 ≤ v → v < 256 ^ i.toNat → a + m ≤ b.length → b.length ≤ reachBytes →
    pack_reader_num_13 N k v n i b a false K = K (uns v (seg b a m)) b ((a + m : Nat) : Int) false
  | m, 0, _, _, _, hk, _, _, _, _, _, _, _ => by omega
  | 0, k + 1, v, i, a, _, hi, _, _, _, _, _, _ => by
    simp only [pack_reader_num_13, pack_reader_num_13_b, wi, len]
    rw [if_neg (by simp; omega)]
    simp [seg, uns]
  | m + 1, k + 1, v, i, a, hk, hi, h0, hn, hv, hlt, ha, hl => by
    unfold reachBytes at hl
    simp only [pack_reader_num_13, pack_reader_num_13_b, wi, len]
    have hin : (0 : Int) ≤ a ∧ (a : Int) < (b.length : Nat) := by omega
    rw [if_pos (by simp; omega), if_pos hin]
    have hx := hb.get (i := a) (by omega)
    have hv7 : v < 36028797018963968 := by
      have h7 := pow256 (n := i.toNat) (by omega)
      omega
    have e1 : Int.toNat (a : Int) = a := by simp
    simp only [e1]
    rw [w64 (x := b.getD a 0) (by omega), orShl8 ⟨hv, hv7⟩ hx, w64 (x := i + 1) (by omega), w64 (x := (a : Int) + 1) (by omega)]
    have := pack_num_loop N b hb n K m k (v * 256 + b.getD a 0) (i + 1) (a + 1) (by omega) (by omega) (by omega) hn (by omega) (by
      have : (i + 1).toNat = i.toNat + 1 := by omega
      rw [this, Int.pow_succ]; omega) (by omega) hl
    rw [show ((a : Int) + 1) = ((a + 1 : Nat) : Int) by omega, this, seg_succ (by omega)]
    simp only [uns, List.foldl_cons]
    congr 1
    omega
theorem pack_num_eq {R : Type} (N : Nat) (b : List Int) (hb : Bytes b) (hl : b.length ≤ reachBytes) (n a : Nat) (K : Int → List Int → Int → Bool → Option R) (hN : 8 ≤ N) (hn : n ≤ 7) (ha : a ≤ b.length) :
    pack_reader_num N n b a false K = if a + n ≤ b.length then K (uns 0 (seg b a n)) b ((a + n : Nat) : Int) false else K 0 b a true := by
  have hl' := hl
  unfold reachBytes at hl'
  simp only [pack_reader_num, pack_reader_num_b, wi, len]
  simp only [Bool.false_eq_true, if_false, decide_eq_true_eq]
  rw [w64 (by omega)]
  by_cases h : a + n ≤ b.length
  · rw [if_neg (by omega), if_pos h]
    rw [pack_num_loop N b hb n _ n N 0 0 a (by omega) (by omega) (by omega) (by omega) (by omega) (by simp) h hl]
  · rw [if_pos (by omega), if_neg h]
theorem pack_num_bad {R : Type} (N : Nat) (b : List Int) (n a : Int) (K : Int → List Int → Int → Bool → Option R) :
    pack_reader_num N n b a true K = K 0 b a true := by
  simp only [pack_reader_num, pack_reader_num_b, wi, len]; simp
def sgn (l : List Int) : Int := if 128 ≤ l.getD 0 0 then uns 0 l - 256 ^ l.length else uns 0 l
theorem seg_len {b : List Int} {a n : Nat} (h : a + n ≤ b.length) : (seg b a n).length = n := by simp [seg]; omega
theorem len4 {l : List Int} {n : Nat} (hl : l.length = n) (hn : n = 0 ∨ n = 1 ∨ n = 2 ∨ n = 4) : l = [] ∨ (∃ a, l = [a]) ∨ (∃ a b, l = [a, b]) ∨ ∃ a b c d, l = [a, b, c, d] := by
  match l, hl with
  | [], _ => exact .inl rfl
  | [a], _ => exact .inr (.inl ⟨a, rfl⟩)
  | [a, b], _ => exact .inr (.inr (.inl ⟨a, b, rfl⟩))
  | [a, b, c], h => simp at h; omega
  | [a, b, c, d], _ => exact .inr (.inr (.inr ⟨a, b, c, d, rfl⟩))
  | _ :: _ :: _ :: _ :: _ :: _, h => simp at h; omega
theorem seg_bytes {b : List Int} (hb : Bytes b) (a n : Nat) : Bytes (seg b a n) := (hb.drop a).take n
theorem uns_nonneg {l : List Int} (h : Bytes l) : ∀ {v : Int}, 0 ≤ v → 0 ≤ uns v l := by
  induction l with
  | nil => intro v hv; exact hv
  | cons x l ih =>
    intro v hv
    have := h x (by simp)
    simp only [uns, List.foldl_cons]
    exact ih (fun y hy => h y (by simp [hy])) (by omega)
theorem packF_len (nm : List UInt8) (data : DataL) (l : OpL) (gl : EntL) : (packF nm data l gl).length = (preB nm data l gl).length + 4 := by
  unfold packF; rw [List.length_append, beB_len]
theorem pack_signed_eq {R : Type} (N : Nat) (b : List Int) (hb : Bytes b) (hl : b.length ≤ reachBytes) (n a : Nat) (K : Int → List Int → Int → Bool → Option R) (hN : 8 ≤ N) (hn : n = 0 ∨ n = 1 ∨ n = 2 ∨ n = 4) (ha : a ≤ b.length) :
    pack_reader_signed N n b a false K = if a + n ≤ b.length then K (sgn (seg b a n)) b ((a + n : Nat) : Int) false else K 0 b a true := by
  simp only [pack_reader_signed, pack_reader_signed_b, wi, len]
  rw [pack_num_eq N b hb hl n a _ hN (by omega) ha]
  by_cases h : a + n ≤ b.length
  · rw [if_pos h, if_pos h]
    have hs := seg_bytes hb a n
    rcases hn with rfl | rfl | rfl | rfl
    · simp [seg, sgn, uns]
    · obtain h1 | ⟨x, h1⟩ | ⟨_, _, h1⟩ | ⟨_, _, _, _, h1⟩ := len4 (seg_len h) (by omega) <;> have hlen := seg_len h <;> rw [h1] at hlen hs ⊢ <;> simp at hlen
      have hx := hs x (by simp)
      have e1 : IntKind.i64.wrap (8 * ((1 : Nat) : Int)) = 8 := by decide
      simp only [e1]
      have e2 : IntKind.i64.wrap (8 - 1) = 7 := by decide
      simp only [e2]
      have e3 : shlI .i64 1 7 = 128 := by decide
      have e4 : shlI .i64 1 8 = 256 := by decide
      simp only [e3, e4, uns, sgn, List.foldl_cons, List.foldl_nil, List.getD_cons_zero, List.length_cons, List.length_nil]
      simp
      by_cases h2 : 128 ≤ x
      · rw [if_pos h2, if_pos h2, w64 (by omega)]
      · rw [if_neg h2, if_neg h2]
    · obtain h1 | ⟨x, h1⟩ | ⟨x, y, h1⟩ | ⟨_, _, _, _, h1⟩ := len4 (seg_len h) (by omega) <;> have hlen := seg_len h <;> rw [h1] at hlen hs ⊢ <;> simp at hlen
      have hx := hs x (by simp)
      have hy := hs y (by simp)
      have e1 : IntKind.i64.wrap (8 * ((2 : Nat) : Int)) = 16 := by decide
      simp only [e1]
      have e2 : IntKind.i64.wrap (16 - 1) = 15 := by decide
      simp only [e2]
      have e3 : shlI .i64 1 15 = 32768 := by decide
      have e4 : shlI .i64 1 16 = 65536 := by decide
      simp only [e3, e4, uns, sgn, List.foldl_cons, List.foldl_nil, List.getD_cons_zero, List.length_cons, List.length_nil]
      simp
      by_cases h2 : 128 ≤ x
      · rw [if_pos (by omega), if_pos h2, w64 (by omega)]
      · rw [if_neg (by omega), if_neg h2]
    · obtain h1 | ⟨x, h1⟩ | ⟨x, y, h1⟩ | ⟨x, y, z, t, h1⟩ := len4 (seg_len h) (by omega) <;> have hlen := seg_len h <;> rw [h1] at hlen hs ⊢ <;> simp at hlen
      have hx := hs x (by simp)
      have hy := hs y (by simp)
      have hz := hs z (by simp)
      have ht := hs t (by simp)
      have e1 : IntKind.i64.wrap (8 * ((4 : Nat) : Int)) = 32 := by decide
      simp only [e1]
      have e2 : IntKind.i64.wrap (32 - 1) = 31 := by decide
      simp only [e2]
      have e3 : shlI .i64 1 31 = 2147483648 := by decide
      have e4 : shlI .i64 1 32 = 4294967296 := by decide
      simp only [e3, e4, uns, sgn, List.foldl_cons, List.foldl_nil, List.getD_cons_zero, List.length_cons, List.length_nil]
      simp
      by_cases h2 : 128 ≤ x
      · rw [if_pos (by omega), if_pos h2, w64 (by omega)]
      · rw [if_neg (by omega), if_neg h2]
  · rw [if_neg h, if_neg h]
    rcases hn with rfl | rfl | rfl | rfl
    · omega
    all_goals
      have e1 : IntKind.i64.wrap (8 * ((1 : Nat) : Int)) = 8 := by decide
      have e2 : IntKind.i64.wrap (8 - 1) = 7 := by decide
      have e3 : shlI .i64 1 7 = 128 := by decide
      have f1 : IntKind.i64.wrap (8 * ((2 : Nat) : Int)) = 16 := by decide
      have f2 : IntKind.i64.wrap (16 - 1) = 15 := by decide
      have f3 : shlI .i64 1 15 = 32768 := by decide
      have g1 : IntKind.i64.wrap (8 * ((4 : Nat) : Int)) = 32 := by decide
      have g2 : IntKind.i64.wrap (32 - 1) = 31 := by decide
      have g3 : shlI .i64 1 31 = 2147483648 := by decide
      simp only [e1, e2, e3, f1, f2, f3, g1, g2, g3]
      simp
theorem pack_signed_bad {R : Type} (N : Nat) (b : List Int) (n a : Int) (hn : n = 0 ∨ n = 1 ∨ n = 2 ∨ n = 4) (K : Int → List Int → Int → Bool → Option R) :
    pack_reader_signed N n b a true K = K 0 b a true := by
  simp only [pack_reader_signed, pack_reader_signed_b, wi, len]
  rw [pack_num_bad]
  have e1 : IntKind.i64.wrap (8 * 1) = 8 := by decide
  have e2 : IntKind.i64.wrap (8 - 1) = 7 := by decide
  have e3 : shlI .i64 1 7 = 128 := by decide
  have f1 : IntKind.i64.wrap (8 * 2) = 16 := by decide
  have f2 : IntKind.i64.wrap (16 - 1) = 15 := by decide
  have f3 : shlI .i64 1 15 = 32768 := by decide
  have g1 : IntKind.i64.wrap (8 * 4) = 32 := by decide
  have g2 : IntKind.i64.wrap (32 - 1) = 31 := by decide
  have g3 : shlI .i64 1 31 = 2147483648 := by decide
  rcases hn with rfl | rfl | rfl | rfl <;> (try simp only [e1, e2, e3, f1, f2, f3, g1, g2, g3]) <;> rfl
def atAns (b : List Int) (p : Int) {R : Type} (K : Int → Int → Int → Int → Int → Option R) : Option R :=
  if p < 0 ∨ b.length ≤ p then K 0 0 0 0 1 else
  let x := b.getD p.toNat 0
  if x % 32 < 1 ∨ 30 < x % 32 ∨ x % 32 = 19 ∨ 3 < x / 32 then K 0 0 0 0 3 else
  let w := (wid (x / 32)).toNat
  let m := (ext (x % 32)).toNat
  let a := p.toNat + 1
  if b.length < a + w + m then K 0 0 0 0 7 else
  let n := sgn (seg b a w)
  if cls n ≠ x / 32 then K 0 0 0 0 3 else
  K (x % 32) n (if x % 32 = 30 then sgn (seg b (a + w) m) else uns 0 (seg b (a + w) m)) ((1 + w + m : Nat) : Int) 0
theorem wid4 {k : Int} (h0 : 0 ≤ k) (h : k ≤ 3) : (k = 0 ∧ wid k = 0) ∨ (k = 1 ∧ wid k = 1) ∨ (k = 2 ∧ wid k = 2) ∨ (k = 3 ∧ wid k = 4) := by
  unfold wid; split <;> omega
theorem ext4 (o : Int) : (ext o = 0 ∨ ext o = 1 ∨ ext o = 2 ∨ ext o = 4) ∧ (o = 30 → ext o = 4) := by
  unfold ext; repeat' split
  all_goals omega
theorem pack_At_24_eq {R : Type} (N : Nat) (p k a1 a2 a3 o n m : Int) (b : List Int) (e : Int) (K : Int → Int → Int → Int → Int → Option R) :
    pack_At_24 N p k a1 a2 a3 o n m b e false K = if cls n ≠ k then K 0 3 0 0 0 else K (IntKind.i64.wrap (e - p)) 0 o n m := by
  simp only [pack_At_24, pack_At_24_b, wi, len]
  rw [pack_class_eq]
  simp only [bne_iff_ne, Bool.false_eq_true, if_false]
theorem pack_At_24_bad {R : Type} (N : Nat) (p k a1 a2 a3 o n m : Int) (b : List Int) (e : Int) (K : Int → Int → Int → Int → Int → Option R) :
    pack_At_24 N p k a1 a2 a3 o n m b e true K = K 0 7 0 0 0 := by
  simp only [pack_At_24, pack_At_24_b]; simp
theorem pack_At_eq {R : Type} (N : Nat) (hN : 8 ≤ N) (b : List Int) (hb : Bytes b) (hl : b.length ≤ reachBytes) (p : Int) (K : Int → Int → Int → Int → Int → Option R) :
    pack_At N b p K = atAns b p K := by
  have hl' := hl
  unfold reachBytes at hl'
  simp only [pack_At, pack_At_b, wi, len]; unfold atAns
  simp only [decide_eq_true_eq, beq_iff_eq]
  by_cases h1 : p < 0
  · rw [if_pos h1, if_pos (.inl h1)]
  rw [if_neg h1]
  by_cases h2 : (b.length : Int) ≤ p
  · rw [if_pos h2, if_pos (.inr h2)]
  have hin : 0 ≤ p ∧ p < (b.length : Int) := by omega
  rw [if_neg h2, if_neg (show ¬ (p < 0 ∨ (b.length : Int) ≤ p) by omega), if_pos hin, if_pos hin]
  have hx := hb.get (i := p.toNat) (by omega)
  generalize b.getD p.toNat 0 = x at hx
  rw [andI31 hx, shrI5 hx, w64 (x := x % 32) (by omega), w64 (x := x / 32) (by omega)]
  by_cases h3 : x % 32 < 1
  · rw [if_pos h3, if_pos (.inl h3)]
  rw [if_neg h3]
  by_cases h4 : x % 32 > 30
  · rw [if_pos h4, if_pos (.inr (.inl h4))]
  rw [if_neg h4]
  by_cases h5 : x % 32 = 19
  · rw [if_pos h5, if_pos (.inr (.inr (.inl h5)))]
  rw [if_neg h5]
  by_cases h6 : x / 32 > 3
  · rw [if_pos h6, if_pos (.inr (.inr (.inr h6)))]
  rw [if_neg h6, if_neg (show ¬ (x % 32 < 1 ∨ 30 < x % 32 ∨ x % 32 = 19 ∨ 3 < x / 32) by omega), if_pos (show 0 ≤ x / 32 ∧ x / 32 < 4 by omega), w64 (x := p + 1) (by omega)]
  have hw := wid4 (k := x / 32) (by omega) (by omega)
  have eW : List.getD [(0 : Int), 1, 2, 4] (x / 32).toNat 0 = wid (x / 32) := by
    rcases hw with ⟨h, e⟩ | ⟨h, e⟩ | ⟨h, e⟩ | ⟨h, e⟩ <;> rw [e, h] <;> rfl
  rw [eW]
  have hm := ext4 (x % 32)
  generalize hwd : wid (x / 32) = w at hw
  obtain ⟨w, rfl⟩ := Int.eq_ofNat_of_zero_le (a := w) (by omega)
  obtain ⟨q, rfl⟩ := Int.eq_ofNat_of_zero_le (a := p) (by omega)
  simp only [Int.toNat_natCast]
  rw [show ((q : Int) + 1) = ((q + 1 : Nat) : Int) by omega, pack_signed_eq N b hb hl w (q + 1) _ hN (by omega) (by omega)]
  by_cases h7 : q + 1 + w ≤ b.length
  · rw [if_pos h7]
    by_cases h8 : x % 32 = 30
    · rw [if_pos h8]
      rw [hm.2 h8]
      rw [show (4 : Int) = ((4 : Nat) : Int) from rfl, pack_signed_eq N b hb hl 4 (q + 1 + w) _ hN (by omega) (by omega)]
      simp only [Int.toNat_natCast]
      by_cases h9 : q + 1 + w + 4 ≤ b.length
      · rw [if_pos h9, if_neg (show ¬ b.length < q + 1 + w + 4 by omega), pack_At_24_eq]
        by_cases h10 : cls (sgn (seg b (q + 1) w)) ≠ x / 32
        · rw [if_pos h10, if_pos h10]
        · rw [if_neg h10, if_neg h10, w64 (by omega), if_pos h8]
          congr 1
          omega
      · rw [if_neg h9, if_pos (show b.length < q + 1 + w + 4 by omega), pack_At_24_bad]
    · rw [if_neg h8, pack_extra_eq]
      generalize hme : ext (x % 32) = m at hm
      obtain ⟨m, rfl⟩ := Int.eq_ofNat_of_zero_le (a := m) (by omega)
      rw [pack_num_eq N b hb hl m (q + 1 + w) _ hN (by omega) (by omega)]
      simp only [Int.toNat_natCast]
      by_cases h9 : q + 1 + w + m ≤ b.length
      · rw [if_pos h9, if_neg (show ¬ b.length < q + 1 + w + m by omega), pack_At_24_eq]
        by_cases h10 : cls (sgn (seg b (q + 1) w)) ≠ x / 32
        · rw [if_pos h10, if_pos h10]
        · rw [if_neg h10, if_neg h10, w64 (by omega), if_neg h8]
          congr 1
          omega
      · rw [if_neg h9, if_pos (show b.length < q + 1 + w + m by omega), pack_At_24_bad]
  · rw [if_neg h7, if_pos (show b.length < q + 1 + w + (ext (x % 32)).toNat by omega)]
    by_cases h8 : x % 32 = 30
    · rw [if_pos h8, pack_signed_bad N b 4 _ (.inr (.inr (.inr rfl))), pack_At_24_bad]
    · rw [if_neg h8, pack_extra_eq, pack_num_bad, pack_At_24_bad]
theorem seg_take {b : List Int} {a n : Nat} : seg b a n = (b.take (a + n)).drop a := by
  unfold seg
  rw [List.drop_take]
  congr 1
  omega
/-- what is left to read, and: it was not there -/
abbrev Rd := List Int × Bool
/-- r is an end of b -/
def Sfx (b r : List Int) : Prop := r.length ≤ b.length ∧ b.drop (b.length - r.length) = r
def pos (b r : List Int) : Nat := b.length - r.length
theorem Sfx.refl (b : List Int) : Sfx b b := ⟨Nat.le_refl _, by simp⟩
theorem Sfx.drop {b r : List Int} (h : Sfx b r) (n : Nat) : Sfx b (r.drop n) := by
  obtain ⟨h1, h2⟩ := h
  refine ⟨by rw [List.length_drop]; omega, ?_⟩
  rw [List.length_drop]
  by_cases hn : n ≤ r.length
  · rw [show b.length - (r.length - n) = (b.length - r.length) + n by omega, ← List.drop_drop, h2]
  · rw [List.drop_eq_nil_of_le (by omega), List.drop_eq_nil_of_le (by omega)]
theorem Sfx.bytes {b r : List Int} (h : Sfx b r) (hb : Bytes b) : Bytes r := by rw [← h.2]; exact hb.drop _
theorem Sfx.seg {b r : List Int} (h : Sfx b r) (n : Nat) : seg b (pos b r) n = r.take n := by
  unfold Go.AX.seg pos; rw [h.2]
theorem pos_drop {b r : List Int} (h : Sfx b r) {n : Nat} (hn : n ≤ r.length) : pos b (r.drop n) = pos b r + n := by
  have := h.1
  unfold pos; rw [List.length_drop]; omega
theorem pos_le (b r : List Int) : pos b r ≤ b.length := by unfold pos; omega
def numT (n : Nat) (s : Rd) : Int × Rd := if s.2 = true ∨ s.1.length < n then (0, s.1, true) else (uns 0 (s.1.take n), s.1.drop n, false)
def sigT (n : Nat) (s : Rd) : Int × Rd := if s.2 = true ∨ s.1.length < n then (0, s.1, true) else (sgn (s.1.take n), s.1.drop n, false)
def txt (l : List Int) : List UInt8 := l.map fun n => UInt8.ofNat n.toNat
def textT (s : Rd) : List UInt8 × Rd :=
  if (numT 1 s).2.2 = true then ([], (numT 1 s).2.1, true)
  else if (numT 1 s).2.1.length < (numT 1 s).1.toNat then ([], (numT 1 s).2.1, true)
  else (txt ((numT 1 s).2.1.take (numT 1 s).1.toNat), (numT 1 s).2.1.drop (numT 1 s).1.toNat, false)
def wordsT : Nat → Rd → List Int × Rd
  | 0, s => ([], s)
  | k + 1, s => ((sigT 4 s).1 :: (wordsT k (sigT 4 s).2).1, (wordsT k (sigT 4 s).2).2)
def dataT : Nat → Rd → DataL → Bool × DataL × Rd
  | 0, s, acc => (true, acc, s)
  | k + 1, s, acc =>
    if (numT 1 s).1 = 0 then
      if (textT (numT 1 s).2).2.2 = true then (false, acc, (textT (numT 1 s).2).2)
      else dataT k (textT (numT 1 s).2).2 (acc ++ [((textT (numT 1 s).2).1, true, [])])
    else if (numT 1 s).1 = 1 then
      if (wordsT (numT 2 (numT 1 s).2).1.toNat (numT 2 (numT 1 s).2).2).2.2 = true then (false, acc, (wordsT (numT 2 (numT 1 s).2).1.toNat (numT 2 (numT 1 s).2).2).2)
      else dataT k (wordsT (numT 2 (numT 1 s).2).1.toNat (numT 2 (numT 1 s).2).2).2 (acc ++ [([], false, (wordsT (numT 2 (numT 1 s).2).1.toNat (numT 2 (numT 1 s).2).2).1)])
    else (false, acc, (numT 1 s).2)
def entsT : Nat → Rd → EntL → EntL × Rd
  | 0, s, acc => (acc, s)
  | k + 1, s, acc => entsT k (numT 2 (numT 1 s).2).2 (acc ++ [((numT 1 s).1, (numT 2 (numT 1 s).2).1)])
theorem numT_sfx {b : List Int} {n : Nat} {s : Rd} (h : Sfx b s.1) : Sfx b (numT n s).2.1 := by
  unfold numT; split
  · exact h
  · exact h.drop n
theorem sigT_sfx {b : List Int} {n : Nat} {s : Rd} (h : Sfx b s.1) : Sfx b (sigT n s).2.1 := by
  unfold sigT; split
  · exact h
  · exact h.drop n
theorem textT_sfx {b : List Int} {s : Rd} (h : Sfx b s.1) : Sfx b (textT s).2.1 := by
  unfold textT
  repeat' split
  · exact numT_sfx h
  · exact numT_sfx h
  · exact (numT_sfx h).drop _
theorem wordsT_sfx {b : List Int} : ∀ {k : Nat} {s : Rd}, Sfx b s.1 → Sfx b (wordsT k s).2.1
  | 0, _, h => h
  | k + 1, s, h => wordsT_sfx (k := k) (s := (sigT 4 s).2) (sigT_sfx h)
theorem uns_lt {l : List Int} (h : Bytes l) : ∀ {v : Int}, 0 ≤ v → uns v l < (v + 1) * 256 ^ l.length := by
  induction l with
  | nil => intro v _; simp only [uns, List.foldl_nil, List.length_nil, Int.pow_zero, Int.mul_one]; omega
  | cons x l ih =>
    intro v hv
    have hx := h x (by simp)
    have := ih (fun y hy => h y (by simp [hy])) (v := v * 256 + x) (by omega)
    simp only [uns, List.foldl_cons] at this ⊢
    refine Int.lt_of_lt_of_le this ?_
    rw [List.length_cons, Int.pow_succ, Int.mul_comm (256 ^ l.length) 256, ← Int.mul_assoc]
    refine Int.mul_le_mul_of_nonneg_right (by omega) (Int.pow_nonneg (by decide))
theorem numT_in {b : List Int} (hb : Bytes b) {n : Nat} {s : Rd} (h : Sfx b s.1) : 0 ≤ (numT n s).1 ∧ (numT n s).1 < 256 ^ n := by
  unfold numT; split
  · exact ⟨Int.le_refl _, Int.pow_pos (by decide)⟩
  · rename_i h1
    have hB : Bytes (s.1.take n) := (h.bytes hb).take n
    refine ⟨uns_nonneg hB (by decide), ?_⟩
    have := uns_lt hB (v := 0) (by decide)
    rw [List.length_take, Nat.min_eq_left (by omega)] at this
    simpa using this
theorem num_T {R : Type} {N : Nat} {b : List Int} (hb : Bytes b) (hl : b.length ≤ reachBytes) (hN : 8 ≤ N) {n : Nat} (hn : n ≤ 7) {s : Rd} (h : Sfx b s.1) (K : Int → List Int → Int → Bool → Option R) :
    pack_reader_num N n b (pos b s.1) s.2 K = K (numT n s).1 b (pos b (numT n s).2.1) (numT n s).2.2 := by
  obtain ⟨r, q⟩ := s
  unfold numT
  cases q
  · simp only [Bool.false_eq_true, false_or] at h ⊢
    rw [pack_num_eq N b hb hl n (pos b r) K hN hn (pos_le b r)]
    have := h.1
    by_cases h1 : r.length < n
    · rw [if_pos h1, if_neg (by unfold pos; omega)]
    · rw [if_neg h1, if_pos (by unfold pos; omega)]
      dsimp only
      rw [h.seg, pos_drop h (by omega)]
  · simp only [true_or, if_true] at h ⊢
    rw [pack_num_bad]
theorem sig_T {R : Type} {N : Nat} {b : List Int} (hb : Bytes b) (hl : b.length ≤ reachBytes) (hN : 8 ≤ N) {n : Nat} (hn : n = 0 ∨ n = 1 ∨ n = 2 ∨ n = 4) {s : Rd} (h : Sfx b s.1) (K : Int → List Int → Int → Bool → Option R) :
    pack_reader_signed N n b (pos b s.1) s.2 K = K (sigT n s).1 b (pos b (sigT n s).2.1) (sigT n s).2.2 := by
  obtain ⟨r, q⟩ := s
  unfold sigT
  cases q
  · simp only [Bool.false_eq_true, false_or] at h ⊢
    rw [pack_signed_eq N b hb hl n (pos b r) K hN hn (pos_le b r)]
    have := h.1
    by_cases h1 : r.length < n
    · rw [if_pos h1, if_neg (by unfold pos; omega)]
    · rw [if_neg h1, if_pos (by unfold pos; omega)]
      dsimp only
      rw [h.seg, pos_drop h (by omega)]
  · simp only [true_or, if_true] at h ⊢
    rw [pack_signed_bad N b n _ (by omega)]
theorem num1_T {R : Type} {N : Nat} {b : List Int} (hb : Bytes b) (hl : b.length ≤ 4398046511104) (hN : 8 ≤ N) {s : Rd} (h : Sfx b s.1) (K : Int → List Int → Int → Bool → Option R) :
    pack_reader_num N 1 b (pos b s.1) s.2 K = K (numT 1 s).1 b (pos b (numT 1 s).2.1) (numT 1 s).2.2 := num_T (n := 1) hb (by unfold reachBytes; omega) hN (by decide) h K
theorem num2_T {R : Type} {N : Nat} {b : List Int} (hb : Bytes b) (hl : b.length ≤ 4398046511104) (hN : 8 ≤ N) {s : Rd} (h : Sfx b s.1) (K : Int → List Int → Int → Bool → Option R) :
    pack_reader_num N 2 b (pos b s.1) s.2 K = K (numT 2 s).1 b (pos b (numT 2 s).2.1) (numT 2 s).2.2 := num_T (n := 2) hb (by unfold reachBytes; omega) hN (by decide) h K
theorem num3_T {R : Type} {N : Nat} {b : List Int} (hb : Bytes b) (hl : b.length ≤ 4398046511104) (hN : 8 ≤ N) {s : Rd} (h : Sfx b s.1) (K : Int → List Int → Int → Bool → Option R) :
    pack_reader_num N 3 b (pos b s.1) s.2 K = K (numT 3 s).1 b (pos b (numT 3 s).2.1) (numT 3 s).2.2 := num_T (n := 3) hb (by unfold reachBytes; omega) hN (by decide) h K
theorem num4_T {R : Type} {N : Nat} {b : List Int} (hb : Bytes b) (hl : b.length ≤ 4398046511104) (hN : 8 ≤ N) {s : Rd} (h : Sfx b s.1) (K : Int → List Int → Int → Bool → Option R) :
    pack_reader_num N 4 b (pos b s.1) s.2 K = K (numT 4 s).1 b (pos b (numT 4 s).2.1) (numT 4 s).2.2 := num_T (n := 4) hb (by unfold reachBytes; omega) hN (by decide) h K
theorem sig4_T {R : Type} {N : Nat} {b : List Int} (hb : Bytes b) (hl : b.length ≤ 4398046511104) (hN : 8 ≤ N) {s : Rd} (h : Sfx b s.1) (K : Int → List Int → Int → Bool → Option R) :
    pack_reader_signed N 4 b (pos b s.1) s.2 K = K (sigT 4 s).1 b (pos b (sigT 4 s).2.1) (sigT 4 s).2.2 := sig_T (n := 4) hb (by unfold reachBytes; omega) hN (by decide) h K
theorem text_T {R : Type} {N : Nat} {b : List Int} (hb : Bytes b) (hl : b.length ≤ 4398046511104) (hN : 8 ≤ N) {s : Rd} (h : Sfx b s.1) (K : List UInt8 → List Int → Int → Bool → Option R) :
    pack_reader_text N b (pos b s.1) s.2 K = K (textT s).1 b (pos b (textT s).2.1) (textT s).2.2 := by
  have hs := numT_sfx (n := 1) h
  have hv := numT_in hb (n := 1) h
  simp only [pack_reader_text, pack_reader_text_b, textT]
  rw [show (1 : Int) = ((1 : Nat) : Int) from rfl, num_T hb (by unfold reachBytes; omega) hN (by omega) h]
  generalize numT 1 s = t at hs hv ⊢
  obtain ⟨v, r, q⟩ := t
  simp only at hs hv ⊢
  cases q
  case true => simp
  simp only [Bool.false_eq_true, if_false]
  have h1 := hs.1
  have h2 := pos_le b r
  obtain ⟨n, rfl⟩ := Int.eq_ofNat_of_zero_le hv.1
  have hn : n < 256 := by have := hv.2; omega
  have hw : wi (((pos b r : Nat) : Int) + (n : Int)) = ((pos b r + n : Nat) : Int) := by rw [wi_id (by omega) (by omega)]; omega
  have hw2 : wi (((pos b r + n : Nat) : Int) - (n : Int)) = ((pos b r : Nat) : Int) := by rw [wi_id (by omega) (by omega)]; omega
  simp only [Int.toNat_natCast, hw, hw2]
  by_cases h3 : r.length < n
  · rw [if_pos h3, if_pos (by simp only [len, decide_eq_true_eq]; unfold pos; omega)]
  · have hp : pos b r + n ≤ b.length := by unfold pos; omega
    rw [if_neg h3, if_neg (by simp only [len, decide_eq_true_eq]; omega), if_pos (by simp only [len]; omega), if_pos (by omega)]
    have e : List.drop (pos b r) (List.take (pos b r + n) b) = r.take n := by
      rw [← seg_take, hs.seg]
    rw [e, pos_drop hs (by omega)]
    rfl
theorem dataT_sfx {b : List Int} : ∀ {k : Nat} {s : Rd} {acc : DataL}, Sfx b s.1 → Sfx b (dataT k s acc).2.2.1
  | 0, _, _, h => h
  | k + 1, s, acc, h => by
    unfold dataT
    have h1 := numT_sfx (n := 1) h
    repeat' split
    · exact textT_sfx h1
    · exact dataT_sfx (k := k) (textT_sfx h1)
    · exact wordsT_sfx (numT_sfx h1)
    · exact dataT_sfx (k := k) (wordsT_sfx (numT_sfx h1))
    · exact h1
theorem entsT_sfx {b : List Int} : ∀ {k : Nat} {s : Rd} {acc : EntL}, Sfx b s.1 → Sfx b (entsT k s acc).2.1
  | 0, _, _, h => h
  | k + 1, s, acc, h => entsT_sfx (k := k) (s := (numT 2 (numT 1 s).2).2) (numT_sfx (numT_sfx h))
theorem words_T {R : Type} {N : Nat} {b : List Int} (hb : Bytes b) (hl : b.length ≤ 4398046511104) (hN : 8 ≤ N) (n : Int) (hn : n ≤ 1000000) (x0 x1 : Int) (x4 : List UInt8) (x5 x6 : Int) (x10 : List UInt8) (x11 x12 : Int) (x13 : List UInt8) (x14 : Bool) (x15 : DataL) (x16 : OpL) (x17 : EntL) (x18 : DataL) (x19 : OpL) (x20 : EntL)
    (K : Int → Int → List UInt8 → Int → Int → List Int → Int → Bool → List UInt8 → Int → Int → List UInt8 → Bool → DataL → OpL → EntL → DataL → OpL → EntL → List Int → Option R) : ∀ (m k : Nat) (i : Int) (s : Rd) (acc : List Int), m < k → i + m = n → 0 ≤ i → Sfx b s.1 → acc.length ≤ i →
    pack_unpack_31 N k x0 x1 n i x4 x5 x6 b (pos b s.1) s.2 x10 x11 x12 x13 x14 x15 x16 x17 x18 x19 x20 acc K =
      K x0 x1 x4 x5 x6 b (pos b (wordsT m s).2.1) (wordsT m s).2.2 x10 x11 x12 x13 x14 x15 x16 x17 x18 x19 x20 (acc ++ (wordsT m s).1) := by
  intro m
  induction m with
  | zero =>
    intro k i s acc hk hi h0 h ha
    obtain ⟨k, rfl⟩ := exk hk
    simp only [pack_unpack_31, pack_unpack_31_b, wordsT]
    rw [if_neg (by simp only [decide_eq_true_eq]; omega), List.append_nil]
  | succ m ih =>
    intro k i s acc hk hi h0 h ha
    obtain ⟨k, rfl⟩ := exk hk
    simp only [pack_unpack_31, pack_unpack_31_b, wordsT]
    rw [if_pos (by simp only [decide_eq_true_eq]; omega), sig4_T hb hl (by omega) h, if_pos (by simp only [List.length_cons, List.length_nil]; omega), wi_id (by omega) (by omega),
      ih k (i + 1) (sigT 4 s).2 _ (by omega) (by omega) (by omega) (sigT_sfx h) (by rw [List.length_append]; simp only [List.length_cons, List.length_nil]; omega), List.append_assoc]
    rfl
theorem data_T {R : Type} {N : Nat} {b : List Int} (hb : Bytes b) (hl : b.length ≤ 4398046511104) (hN : 65536 ≤ N) (n : Int) (hn : n ≤ 1000000) (x2 : List UInt8) (x3 x4 : Int) (x8 : List UInt8) (x9 x10 : Int) (x11 : DataL) (x12 : OpL) (x13 : EntL) (x15 : OpL) (x16 : EntL)
    (K0 : Int → Int → Bool → List UInt8 → Int → Int → DataL → OpL → EntL → Option R) (K1 : List UInt8 → Int → Int → List Int → Int → Bool → List UInt8 → Int → Int → DataL → OpL → EntL → DataL → OpL → EntL → Option R) : ∀ (m k : Nat) (i : Int) (s : Rd) (acc : DataL), m < k → i + m = n → 0 ≤ i → Sfx b s.1 → acc.length ≤ i →
    pack_unpack_15 N k n i x2 x3 x4 b (pos b s.1) s.2 x8 x9 x10 x11 x12 x13 acc x15 x16 K0 K1 =
      if (dataT m s acc).1 = true then K1 x2 x3 x4 b (pos b (dataT m s acc).2.2.1) (dataT m s acc).2.2.2 x8 x9 x10 x11 x12 x13 (dataT m s acc).2.1 x15 x16 else K0 0 0 false x8 x9 x10 (dataT m s acc).2.1 x15 x16 := by
  intro m
  induction m with
  | zero =>
    intro k i s acc hk hi h0 h ha
    obtain ⟨k, rfl⟩ := exk hk
    simp only [pack_unpack_15, pack_unpack_15_b, dataT]
    rw [if_neg (by simp only [decide_eq_true_eq]; omega), if_pos trivial]
  | succ m ih =>
    intro k i s acc hk hi h0 h ha
    obtain ⟨k, rfl⟩ := exk hk
    have h1 := numT_sfx (n := 1) h
    have h2 := numT_sfx (n := 2) h1
    have hv := numT_in hb (n := 2) h1
    have hw : wi (i + 1) = i + 1 := wi_id (by omega) (by omega)
    simp only [pack_unpack_15, pack_unpack_15_b]
    rw [if_pos (by simp only [decide_eq_true_eq]; omega), num1_T hb hl (by omega) h]
    by_cases e0 : (numT 1 s).1 = 0
    · rw [if_pos (by simpa using e0), text_T hb hl (by omega) h1]
      simp only [pack_unpack_36]
      cases e1 : (textT (numT 1 s).2).2.2
      · have e : dataT (m + 1) s acc = dataT m (textT (numT 1 s).2).2 (acc ++ [((textT (numT 1 s).2).1, true, [])]) := by
          rw [dataT, if_pos e0, if_neg (by rw [e1]; decide)]
        rw [e, if_neg (by decide), if_pos (by simp only [List.length_cons, List.length_nil]; omega)]
        have := ih k (i + 1) (textT (numT 1 s).2).2 (acc ++ [((textT (numT 1 s).2).1, true, [])]) (by omega) (by omega) (by omega) (textT_sfx h1) (by rw [List.length_append]; simp only [List.length_cons, List.length_nil]; omega)
        rw [e1] at this
        rw [hw]
        exact this
      · have e : dataT (m + 1) s acc = (false, acc, (textT (numT 1 s).2).2) := by
          rw [dataT, if_pos e0, if_pos e1]
        rw [e]; rfl
    · rw [if_neg (by simpa using e0)]
      by_cases e2 : (numT 1 s).1 = 1
      · rw [if_pos (by simpa using e2), num2_T hb hl (by omega) h1,
          words_T hb hl (by omega) _ (by omega) _ _ _ _ _ _ _ _ _ _ _ _ _ _ _ _ _ (numT 2 (numT 1 s).2).1.toNat N 0 (numT 2 (numT 1 s).2).2 [] (by omega) (by omega) (by omega) h2 (by simp)]
        simp only [pack_unpack_36, List.nil_append]
        cases e1 : (wordsT (numT 2 (numT 1 s).2).1.toNat (numT 2 (numT 1 s).2).2).2.2
        · have e : dataT (m + 1) s acc = dataT m (wordsT (numT 2 (numT 1 s).2).1.toNat (numT 2 (numT 1 s).2).2).2 (acc ++ [([], false, (wordsT (numT 2 (numT 1 s).2).1.toNat (numT 2 (numT 1 s).2).2).1)]) := by
            rw [dataT, if_neg e0, if_pos e2, if_neg (by rw [e1]; decide)]
          rw [e, if_neg (by decide), if_pos (by simp only [List.length_cons, List.length_nil]; omega)]
          have := ih k (i + 1) (wordsT (numT 2 (numT 1 s).2).1.toNat (numT 2 (numT 1 s).2).2).2 (acc ++ [([], false, (wordsT (numT 2 (numT 1 s).2).1.toNat (numT 2 (numT 1 s).2).2).1)]) (by omega) (by omega) (by omega) (wordsT_sfx h2) (by rw [List.length_append]; simp only [List.length_cons, List.length_nil]; omega)
          rw [e1] at this
          rw [hw]
          exact this
        · have e : dataT (m + 1) s acc = (false, acc, (wordsT (numT 2 (numT 1 s).2).1.toNat (numT 2 (numT 1 s).2).2).2) := by
            rw [dataT, if_neg e0, if_pos e2, if_pos e1]
          rw [e]; rfl
      · have e : dataT (m + 1) s acc = (false, acc, (numT 1 s).2) := by rw [dataT, if_neg e0, if_neg e2]
        rw [if_neg (by simpa using e2), e]; rfl
theorem ents_T {R : Type} {N : Nat} {b : List Int} (hb : Bytes b) (hl : b.length ≤ 4398046511104) (hN : 8 ≤ N) (n : Int) (hn : n ≤ 1000000) (x2 : List UInt8) (x3 x4 : Int) (x8 : List UInt8) (x9 x10 : Int) (x11 : DataL) (x12 : OpL) (x13 : EntL) (x14 : DataL) (x15 : OpL)
    (K : List UInt8 → Int → Int → List Int → Int → Bool → List UInt8 → Int → Int → DataL → OpL → EntL → DataL → OpL → EntL → Option R) : ∀ (m k : Nat) (i : Int) (s : Rd) (acc : EntL), m < k → i + m = n → 0 ≤ i → Sfx b s.1 → acc.length ≤ i →
    pack_unpack_47 N k n i x2 x3 x4 b (pos b s.1) s.2 x8 x9 x10 x11 x12 x13 x14 x15 acc K =
      K x2 x3 x4 b (pos b (entsT m s acc).2.1) (entsT m s acc).2.2 x8 x9 x10 x11 x12 x13 x14 x15 (entsT m s acc).1 := by
  intro m
  induction m with
  | zero =>
    intro k i s acc hk hi h0 h ha
    obtain ⟨k, rfl⟩ := exk hk
    simp only [pack_unpack_47, pack_unpack_47_b, entsT]
    rw [if_neg (by simp only [decide_eq_true_eq]; omega)]
  | succ m ih =>
    intro k i s acc hk hi h0 h ha
    obtain ⟨k, rfl⟩ := exk hk
    have h1 := numT_sfx (n := 1) h
    simp only [pack_unpack_47, pack_unpack_47_b, entsT]
    rw [if_pos (by simp only [decide_eq_true_eq]; omega), wi_id (by omega) (by omega), num1_T hb hl (by omega) h,
      num2_T hb hl (by omega) h1, if_pos (by simp only [List.length_cons, List.length_nil]; omega),
      ih k (i + 1) (numT 2 (numT 1 s).2).2 _ (by omega) (by omega) (by omega) (numT_sfx h1) (by rw [List.length_append]; simp only [List.length_cons, List.length_nil]; omega)]
/-- the instruction at the beginning -/
def insF (r : List Int) : Option ((Int × Int × Int) × Nat) :=
  match r with
  | [] => none
  | x :: t =>
    if x % 32 < 1 ∨ 30 < x % 32 ∨ x % 32 = 19 ∨ 3 < x / 32 then none
    else if t.length < (wid (x / 32)).toNat + (ext (x % 32)).toNat then none
    else if cls (sgn (t.take (wid (x / 32)).toNat)) ≠ x / 32 then none
    else some ((x % 32, sgn (t.take (wid (x / 32)).toNat), if x % 32 = 30 then sgn ((t.drop (wid (x / 32)).toNat).take (ext (x % 32)).toNat) else uns 0 ((t.drop (wid (x / 32)).toNat).take (ext (x % 32)).toNat)), 1 + (wid (x / 32)).toNat + (ext (x % 32)).toNat)
theorem at_ins {b r : List Int} (h : Sfx b r) (hr : r ≠ []) :
    match insF r with
    | some (o, n) => ∀ {R : Type} (K : Int → Int → Int → Int → Int → Option R), atAns b (pos b r) K = K o.1 o.2.1 o.2.2 n 0
    | none => ∃ e, e ≠ 0 ∧ ∀ {R : Type} (K : Int → Int → Int → Int → Int → Option R), atAns b (pos b r) K = K 0 0 0 0 e := by
  match r, hr with
  | x :: t, _ =>
    have hl := h.1
    rw [List.length_cons] at hl
    have hp : pos b (x :: t) < b.length := by unfold pos; rw [List.length_cons]; omega
    have hd : b.drop (pos b (x :: t)) = x :: t := h.2
    have hx : b.getD (pos b (x :: t)) 0 = x := by
      rw [List.drop_eq_getElem_cons hp] at hd
      rw [List.getD_eq_getElem?_getD, List.getElem?_eq_getElem hp]; exact (List.cons.inj hd).1
    have hd1 : b.drop (pos b (x :: t) + 1) = t := by
      rw [List.drop_eq_getElem_cons hp] at hd
      exact (List.cons.inj hd).2
    have hs : ∀ n, Go.AX.seg b (pos b (x :: t) + 1) n = t.take n := fun n => by unfold Go.AX.seg; rw [hd1]
    have hs2 : ∀ w n, Go.AX.seg b (pos b (x :: t) + 1 + w) n = (t.drop w).take n := fun w n => by unfold Go.AX.seg; rw [← List.drop_drop, hd1]
    have hlen : b.length = pos b (x :: t) + 1 + t.length := by unfold pos; rw [List.length_cons]; omega
    have A : ∀ {R : Type} (K : Int → Int → Int → Int → Int → Option R), atAns b (pos b (x :: t)) K =
        if x % 32 < 1 ∨ 30 < x % 32 ∨ x % 32 = 19 ∨ 3 < x / 32 then K 0 0 0 0 3
        else if t.length < (wid (x / 32)).toNat + (ext (x % 32)).toNat then K 0 0 0 0 7
        else if cls (sgn (t.take (wid (x / 32)).toNat)) ≠ x / 32 then K 0 0 0 0 3
        else K (x % 32) (sgn (t.take (wid (x / 32)).toNat)) (if x % 32 = 30 then sgn ((t.drop (wid (x / 32)).toNat).take (ext (x % 32)).toNat) else uns 0 ((t.drop (wid (x / 32)).toNat).take (ext (x % 32)).toNat)) ((1 + (wid (x / 32)).toNat + (ext (x % 32)).toNat : Nat) : Int) 0 := by
      intro R K
      unfold atAns
      rw [if_neg (by omega)]
      simp only [Int.toNat_natCast, hx, hs, hs2]
      by_cases h1 : x % 32 < 1 ∨ 30 < x % 32 ∨ x % 32 = 19 ∨ 3 < x / 32
      · rw [if_pos h1, if_pos h1]
      rw [if_neg h1, if_neg h1]
      by_cases h2 : t.length < (wid (x / 32)).toNat + (ext (x % 32)).toNat
      · rw [if_pos h2, if_pos (by omega)]
      · rw [if_neg h2, if_neg (by omega)]
    unfold insF
    simp only [A]
    by_cases h1 : x % 32 < 1 ∨ 30 < x % 32 ∨ x % 32 = 19 ∨ 3 < x / 32
    · simp only [if_pos h1]; exact ⟨3, by decide, fun _ => rfl⟩
    simp only [if_neg h1]
    by_cases h2 : t.length < (wid (x / 32)).toNat + (ext (x % 32)).toNat
    · simp only [if_pos h2]; exact ⟨7, by decide, fun _ => rfl⟩
    simp only [if_neg h2]
    by_cases h3 : cls (sgn (t.take (wid (x / 32)).toNat)) ≠ x / 32
    · simp only [if_pos h3]; exact ⟨3, by decide, fun _ => rfl⟩
    simp only [if_neg h3]
    intros; trivial
theorem pow256_4 {n : Nat} (h : n ≤ 4) : (256 : Int) ^ n ≤ 4294967296 := by
  have : n = 0 ∨ n = 1 ∨ n = 2 ∨ n = 3 ∨ n = 4 := by omega
  rcases this with rfl | rfl | rfl | rfl | rfl <;> decide
theorem uns_lt4 {l : List Int} (h : Bytes l) (hl : l.length ≤ 4) : 0 ≤ uns 0 l ∧ uns 0 l < 4294967296 := by
  have h1 := uns_lt h (v := 0) (by decide)
  have h2 := pow256_4 hl
  exact ⟨uns_nonneg h (by decide), by omega⟩
theorem sgn_lt4 {l : List Int} (h : Bytes l) (hl : l.length ≤ 4) : -4294967296 ≤ sgn l ∧ sgn l < 4294967296 := by
  have h1 := uns_lt4 h hl
  have h2 := pow256_4 hl
  have h3 : 0 < (256 : Int) ^ l.length := Int.pow_pos (by decide)
  unfold sgn; split <;> omega
theorem insF_in {r : List Int} (hb : Bytes r) {o : Int × Int × Int} {n : Nat} (h : insF r = some (o, n)) :
    (1 ≤ o.1 ∧ o.1 ≤ 30 ∧ o.1 ≠ 19) ∧ (-4294967296 ≤ o.2.1 ∧ o.2.1 < 4294967296) ∧ (-4294967296 ≤ o.2.2 ∧ o.2.2 < 4294967296) ∧ 1 ≤ n ∧ n ≤ 9 ∧ n ≤ r.length := by
  unfold insF at h
  split at h
  · cases h
  rename_i x t
  split at h
  · cases h
  rename_i h1
  split at h
  · cases h
  rename_i h2
  split at h
  · cases h
  rename_i h3
  have ht : Bytes t := fun y hy => hb y (by simp [hy])
  have hx := hb x (by simp)
  have hw := wid4 (k := x / 32) (by omega) (by omega)
  have hm := ext4 (x % 32)
  simp only [Option.some.injEq, Prod.mk.injEq] at h
  obtain ⟨rfl, rfl⟩ := h
  have ha : Bytes (t.take (wid (x / 32)).toNat) := ht.take _
  have hb' : Bytes ((t.drop (wid (x / 32)).toNat).take (ext (x % 32)).toNat) := (ht.drop _).take _
  refine ⟨by simp only; omega, sgn_lt4 ha (by rw [List.length_take]; omega), ?_, by omega, by omega, by rw [List.length_cons]; omega⟩
  simp only
  split
  · exact sgn_lt4 hb' (by rw [List.length_take]; omega)
  · have := uns_lt4 hb' (by rw [List.length_take]; omega)
    omega
abbrev Pc := (Int × Int × Int) × Int × Int × Int
/-- where an instruction leads, that ends at e; -1: nowhere -/
def toOf (o : Int × Int × Int) (e : Int) : Int := if o.1 = 20 ∨ o.1 = 21 ∨ o.1 = 22 ∨ o.1 = 27 ∨ o.1 = 29 then e + o.2.1 else if o.1 = 30 then e + o.2.2 else -1
def piecesF : Nat → List Int → Nat → Option (List Pc)
  | 0, r, _ => if r = [] then some [] else none
  | k + 1, r, a =>
    if r = [] then some [] else
    match insF r with
    | none => none
    | some (o, n) => match piecesF k (r.drop n) (a + n) with
      | none => none
      | some l => some ((o, (a : Int), ((a + n : Nat) : Int), toOf o ((a + n : Nat) : Int)) :: l)
theorem pieces_loop {R : Type} {N : Nat} {b : List Int} (hb : Bytes b) (hl : b.length ≤ 1000000) (hN : 8 ≤ N) (K0 : Bool → List Pc → Option R) (K1 : List Pc → Option R) : ∀ (m k : Nat) (r : List Int) (acc : List Pc), r.length ≤ m → m < k → Sfx b r → acc.length ≤ pos b r →
    pack_pieces_7 N k b (pos b r) acc K0 K1 = match piecesF m r (pos b r) with | none => K0 false [] | some l => K1 (acc ++ l) := by
  intro m
  induction m with
  | zero =>
    intro k r acc h0 hk h ha
    obtain ⟨k, rfl⟩ := exk hk
    obtain rfl : r = [] := List.eq_nil_of_length_eq_zero (by omega)
    simp only [pack_pieces_7, pack_pieces_7_b, piecesF]
    rw [if_neg (by unfold pos; simp [len]), if_pos trivial]
    simp
  | succ m ih =>
    intro k r acc h0 hk h ha
    obtain ⟨k, rfl⟩ := exk hk
    simp only [pack_pieces_7, pack_pieces_7_b, piecesF]
    by_cases hr : r = []
    · subst hr
      rw [if_neg (by unfold pos; simp [len]), if_pos rfl]
      simp
    have hr0 : 0 < r.length := List.length_pos_iff.mpr hr
    have hrl := h.1
    rw [if_pos (by unfold pos; simp [len]; omega), if_neg hr, pack_At_eq N hN b hb (by unfold reachBytes; omega)]
    have hat := at_ins h hr
    cases hi : insF r with
    | none =>
      rw [hi] at hat
      obtain ⟨e, he, hat⟩ := hat
      rw [hat, if_pos (by simpa using he)]
    | some on =>
      obtain ⟨o, n⟩ := on
      rw [hi] at hat
      simp only at hat
      have hin := insF_in (h.bytes hb) hi
      have hpl := pos_le b r
      rw [hat, if_neg (by decide)]
      have hpd := pos_drop h (n := n) hin.2.2.2.2.2
      have he : wi (((pos b r : Nat) : Int) + (n : Int)) = ((pos b r + n : Nat) : Int) := by rw [wi_id (by omega) (by omega)]; omega
      have := ih k (r.drop n) (acc ++ [(o, ((pos b r : Nat) : Int), ((pos b r + n : Nat) : Int), toOf o ((pos b r + n : Nat) : Int))]) (by rw [List.length_drop]; omega) (by omega) (h.drop n) (by rw [hpd, List.length_append]; simp only [List.length_cons, List.length_nil]; omega)
      rw [hpd] at this
      have hw1 : wi (((pos b r + n : Nat) : Int) + o.2.1) = ((pos b r + n : Nat) : Int) + o.2.1 := wi_id (by omega) (by omega)
      have hw2 : wi (((pos b r + n : Nat) : Int) + o.2.2) = ((pos b r + n : Nat) : Int) + o.2.2 := wi_id (by omega) (by omega)
      have hsz : (acc.length + List.length [((o.1, o.2.1, o.2.2), ((pos b r : Nat) : Int), ((pos b r + n : Nat) : Int), toOf o ((pos b r + n : Nat) : Int))]) * 48 ≤ 70368744177664 := by simp only [List.length_cons, List.length_nil]; omega
      have goal : ∀ t, t = toOf o ((pos b r + n : Nat) : Int) → pack_pieces_34 N b acc o.1 o.2.1 o.2.2 (pos b r : Nat) ((pos b r + n : Nat) : Int) t (fun y5 y6 y7 => pack_pieces_7 N k y5 y6 y7 K0 K1) =
          match (match piecesF m (r.drop n) (pos b r + n) with
            | none => none
            | some l => some ((o, ((pos b r : Nat) : Int), ((pos b r + n : Nat) : Int), toOf o ((pos b r + n : Nat) : Int)) :: l)) with
          | none => K0 false []
          | some l => K1 (acc ++ l) := by
        intro t ht
        subst ht
        simp only [pack_pieces_34]
        rw [if_pos hsz]
        refine Eq.trans this ?_
        cases piecesF m (r.drop n) (pos b r + n) with
        | none => rfl
        | some l => simp only [List.append_assoc]; rfl
      simp only [he, pack_pieces_28]
      by_cases h20 : o.1 = 20
      · rw [if_pos (by simpa using h20), if_pos (by simpa using h20), hw1]
        exact goal _ (by unfold toOf; rw [if_pos (.inl h20)])
      rw [if_neg (by simpa using h20)]
      by_cases h21 : o.1 = 21
      · rw [if_pos (by simpa using h21), if_pos (by simpa using h21), hw1]
        exact goal _ (by unfold toOf; rw [if_pos (.inr (.inl h21))])
      rw [if_neg (by simpa using h21)]
      by_cases h22 : o.1 = 22
      · rw [if_pos (by simpa using h22), if_pos (by simpa using h22), hw1]
        exact goal _ (by unfold toOf; rw [if_pos (.inr (.inr (.inl h22)))])
      rw [if_neg (by simpa using h22)]
      by_cases h27 : o.1 = 27
      · rw [if_pos (by simpa using h27), if_pos (by simpa using h27), hw1]
        exact goal _ (by unfold toOf; rw [if_pos (.inr (.inr (.inr (.inl h27))))])
      rw [if_neg (by simpa using h27)]
      by_cases h29 : o.1 = 29
      · rw [if_pos (by simpa using h29), hw1]
        exact goal _ (by unfold toOf; rw [if_pos (.inr (.inr (.inr (.inr h29))))])
      rw [if_neg (by simpa using h29)]
      by_cases h30 : o.1 = 30
      · rw [if_pos (by simpa using h30), hw2]
        exact goal _ (by unfold toOf; rw [if_neg (by omega), if_pos h30])
      · rw [if_neg (by simpa using h30)]
        exact goal _ (by unfold toOf; rw [if_neg (by omega), if_neg h30])
theorem pieces_eq {R : Type} {N : Nat} {b : List Int} (hb : Bytes b) (hl : b.length ≤ 1000000) (hN : 8 ≤ N) (hN2 : b.length < N) (K : Bool → List Pc → Option R) :
    pack_pieces N b K = match piecesF b.length b 0 with | none => K false [] | some l => K true l := by
  simp only [pack_pieces, pack_pieces_b]
  have := pieces_loop (R := R) hb hl hN (fun y0 y1 => K y0 y1) (fun y2 => K true y2) b.length N b [] (Nat.le_refl _) hN2 (Sfx.refl b) (by simp)
  rw [show pos b b = 0 by unfold pos; omega] at this
  refine Eq.trans this ?_
  cases piecesF b.length b 0 with
  | none => rfl
  | some l => rfl
abbrev MapB := List (Int × Bool)
def msetB (k : Int) (v : Bool) (m : MapB) : MapB := mset (kt := (.int .i64)) (et := .bool) k v m
def mgetB (k : Int) (m : MapB) : Bool := Option.getD (mget (kt := (.int .i64)) (et := .bool) k m) false
/-- where pieces begin; where they lead -/
def lab1 : List Pc → MapB → MapI → MapB × MapI
  | [], bg, lb => (bg, lb)
  | p :: r, bg, lb => lab1 r (msetB p.2.1 true bg) (if 0 ≤ p.2.2.2 then msetI p.2.2.2 (-1) lb else lb)
/-- labels' numbers, in the order of places -/
def lab2 : List Pc → Int → MapI → Int × MapI
  | [], n, lb => (n, lb)
  | p :: r, n, lb => if mgetI p.2.1 lb = -1 then lab2 r (n + 1) (msetI p.2.1 (n + 1) lb) else lab2 r n lb
def labOp (lb : MapI) (p : Pc) : Int × Int × Int :=
  if p.1.1 = 30 then (p.1.1, p.1.2.1, mgetI p.2.2.2 lb) else if 0 ≤ p.2.2.2 then (p.1.1, mgetI p.2.2.2 lb, p.1.2.2) else p.1
def labAt (lb : MapI) (p : Pc) : OpL := if 0 < mgetI p.2.1 lb then [(19, mgetI p.2.1 lb, 0)] else []
def opsO : List Pc → MapB → MapI → Option OpL
  | [], _, _ => some []
  | p :: r, bg, lb => if 0 ≤ p.2.2.2 ∧ mgetB p.2.2.2 bg = false then none else match opsO r bg lb with
    | none => none
    | some l => some (labAt lb p ++ labOp lb p :: l)
def opsF (l : List Pc) : Option (Int × OpL) :=
  match opsO l (lab1 l [] []).1 (lab2 l 0 (lab1 l [] []).2).2 with
  | none => none
  | some o => some ((lab2 l 0 (lab1 l [] []).2).1, o)
theorem lab2_le : ∀ (l : List Pc) (n : Int) (lb : MapI), n ≤ (lab2 l n lb).1 ∧ (lab2 l n lb).1 ≤ n + l.length
  | [], n, lb => by simp [lab2]
  | p :: r, n, lb => by
    rw [lab2, List.length_cons]; split
    · have := lab2_le r (n + 1) (msetI p.2.1 (n + 1) lb); omega
    · have := lab2_le r n lb; omega
theorem ops9_loop {R : Type} (N : Nat) (ps l : List Pc) (hl : l.length ≤ 1000000) (K : List Pc → MapB → MapI → Option R) : ∀ (k i : Nat) (bg : MapB) (lb : MapI), i ≤ l.length → l.length - i < k →
    pack_ops_9 N k ps l (len l) i bg lb K = K ps (lab1 (l.drop i) bg lb).1 (lab1 (l.drop i) bg lb).2 := by
  intro k
  induction k with
  | zero => intro i _ _ _ h; omega
  | succ k ih =>
    intro i bg lb hi hk
    simp only [pack_ops_9, pack_ops_9_b]
    by_cases hlt : i < l.length
    case neg =>
      rw [if_neg (by simp [len]; omega), List.drop_eq_nil_of_le (by omega)]; rfl
    have hin : (0 : Int) ≤ i ∧ (i : Int) < len l := by simp only [len]; omega
    rw [if_pos (by simp [len]; omega), if_pos hin, getD_at _ _ hlt, List.drop_eq_getElem_cons hlt, wi_succ (by omega), lab1]
    obtain ⟨x, hx⟩ : ∃ x, l[i] = x := ⟨_, rfl⟩
    simp only [hx]
    by_cases h0 : 0 ≤ x.2.2.2
    · rw [if_pos (by simpa using h0), if_pos h0]
      exact ih (i + 1) _ _ (by omega) (by omega)
    · rw [if_neg (by simpa using h0), if_neg h0]
      exact ih (i + 1) _ _ (by omega) (by omega)
theorem ops25_loop {R : Type} (N : Nat) (ps l : List Pc) (hl : l.length ≤ 1000000) (bg : MapB) (K : List Pc → Int → MapB → MapI → Option R) : ∀ (k i : Nat) (n : Int) (lb : MapI), i ≤ l.length → l.length - i < k → 0 ≤ n → n ≤ i →
    pack_ops_25 N k ps n l (len l) i bg lb K = K ps (lab2 (l.drop i) n lb).1 bg (lab2 (l.drop i) n lb).2 := by
  intro k
  induction k with
  | zero => intro i _ _ _ h; omega
  | succ k ih =>
    intro i n lb hi hk h0 hn
    simp only [pack_ops_25, pack_ops_25_b]
    by_cases hlt : i < l.length
    case neg =>
      rw [if_neg (by simp [len]; omega), List.drop_eq_nil_of_le (by omega)]; rfl
    have hin : (0 : Int) ≤ i ∧ (i : Int) < len l := by simp only [len]; omega
    rw [if_pos (by simp [len]; omega), if_pos hin, getD_at _ _ hlt, List.drop_eq_getElem_cons hlt, wi_succ (by omega), lab2]
    obtain ⟨x, hx⟩ : ∃ x, l[i] = x := ⟨_, rfl⟩
    simp only [hx]
    have hg : Option.getD (mget (kt := (.int .i64)) (et := (.int .i64)) x.2.1 lb) (0 : Int) = mgetI x.2.1 lb := rfl
    by_cases h1 : mgetI x.2.1 lb = -1
    · rw [if_pos (by rw [hg]; simpa using h1), if_pos h1, wi_id (by omega) (by omega)]
      exact ih (i + 1) (n + 1) _ (by omega) (by omega) (by omega) (by omega)
    · rw [if_neg (by rw [hg]; simpa using h1), if_neg h1]
      exact ih (i + 1) n _ (by omega) (by omega) (by omega) (by omega)
theorem ops41_loop {R : Type} (N : Nat) (l : List Pc) (hl : l.length ≤ 1000000) (n : Int) (bg : MapB) (lb : MapI) (K0 : Int → Bool → OpL → Option R) (K1 : Int → OpL → Option R) : ∀ (k i : Nat) (acc : OpL), i ≤ l.length → l.length - i < k → acc.length ≤ 2 * i →
    pack_ops_41 N k n l (len l) i bg lb acc K0 K1 = match opsO (l.drop i) bg lb with | none => K0 0 false [] | some o => K1 n (acc ++ o) := by
  intro k
  induction k with
  | zero => intro i _ _ h; omega
  | succ k ih =>
    intro i acc hi hk ha
    simp only [pack_ops_41, pack_ops_41_b]
    by_cases hlt : i < l.length
    case neg =>
      rw [if_neg (by simp [len]; omega), List.drop_eq_nil_of_le (by omega)]; simp [opsO]
    have hin : (0 : Int) ≤ i ∧ (i : Int) < len l := by simp only [len]; omega
    rw [if_pos (by simp [len]; omega), if_pos hin, getD_at _ _ hlt, List.drop_eq_getElem_cons hlt, opsO]
    obtain ⟨x, hx⟩ : ∃ x, l[i] = x := ⟨_, rfl⟩
    simp only [hx]
    have hg : ∀ k, Option.getD (mget (kt := (.int .i64)) (et := (.int .i64)) k lb) (0 : Int) = mgetI k lb := fun _ => rfl
    have hgb : Option.getD (mget (kt := (.int .i64)) (et := .bool) x.2.2.2 bg) false = mgetB x.2.2.2 bg := rfl
    simp only [hg]
    have step : ∀ acc2 : OpL, acc2.length ≤ 2 * i + 1 →
        pack_ops_48 N n l (len l) i bg lb acc2 x.1.1 x.1.2.1 x.1.2.2 x.2.1 x.2.2.1 x.2.2.2 (fun y0 y1 y2 => K0 y0 y1 y2) (fun y3 y4 y5 y6 y7 y8 y9 => pack_ops_41 N k y3 y4 y5 (wi (y6 + 1)) y7 y8 y9 K0 K1) =
        if 0 ≤ x.2.2.2 ∧ mgetB x.2.2.2 bg = false then K0 0 false [] else match opsO (l.drop (i + 1)) bg lb with | none => K0 0 false [] | some o => K1 n (acc2 ++ labOp lb x :: o) := by
      intro acc2 h2
      have fin : ∀ y, pack_ops_60 N n l (len l) i bg lb acc2 y.1 y.2.1 y.2.2 x.2.1 x.2.2.1 x.2.2.2 (fun y3 y4 y5 y6 y7 y8 y9 => pack_ops_41 N k y3 y4 y5 (wi (y6 + 1)) y7 y8 y9 K0 K1) =
          match opsO (l.drop (i + 1)) bg lb with | none => K0 0 false [] | some o => K1 n (acc2 ++ y :: o) := by
        intro y
        simp only [pack_ops_60]
        rw [if_pos (by simp only [List.length_cons, List.length_nil]; omega), wi_succ (by omega), ih (i + 1) _ (by omega) (by omega) (by rw [List.length_append]; simp only [List.length_cons, List.length_nil]; omega)]
        cases opsO (l.drop (i + 1)) bg lb with
        | none => rfl
        | some o => simp only [List.append_assoc]; rfl
      simp only [pack_ops_48, pack_ops_48_b, hg]
      unfold labOp
      by_cases h0 : 0 ≤ x.2.2.2
      · rw [if_pos (by simpa using h0)]
        by_cases hb : mgetB x.2.2.2 bg = false
        · rw [if_pos (by rw [hgb, hb]; rfl), if_pos (show 0 ≤ x.2.2.2 ∧ mgetB x.2.2.2 bg = false from ⟨h0, hb⟩)]
        · rw [if_neg (by rw [hgb]; simpa using hb), if_neg (show ¬(0 ≤ x.2.2.2 ∧ mgetB x.2.2.2 bg = false) from fun h => hb h.2)]
          by_cases h30 : x.1.1 = 30
          · rw [if_pos (by simpa using h30)]
            simp only [if_pos h30]
            exact fin (x.1.1, x.1.2.1, mgetI x.2.2.2 lb)
          · rw [if_neg (by simpa using h30), if_pos (by simpa using h0)]
            simp only [if_neg h30, if_pos h0]
            exact fin (x.1.1, mgetI x.2.2.2 lb, x.1.2.2)
      · rw [if_neg (by simpa using h0), if_neg (show ¬(0 ≤ x.2.2.2 ∧ mgetB x.2.2.2 bg = false) from fun h => h0 h.1)]
        by_cases h30 : x.1.1 = 30
        · rw [if_pos (by simpa using h30)]
          simp only [if_pos h30]
          exact fin (x.1.1, x.1.2.1, mgetI x.2.2.2 lb)
        · rw [if_neg (by simpa using h30), if_neg (by simpa using h0)]
          simp only [if_neg h30, if_neg h0]
          exact fin x.1
    unfold labAt
    by_cases hp : 0 < mgetI x.2.1 lb
    · rw [if_pos (by simpa using hp), if_pos (by simp only [List.length_cons, List.length_nil]; omega), step _ (by rw [List.length_append]; simp only [List.length_cons, List.length_nil]; omega)]
      simp only [if_pos hp]
      split
      · rfl
      · cases opsO (l.drop (i + 1)) bg lb with
        | none => rfl
        | some o => simp only [List.append_assoc]
    · rw [if_neg (by simpa using hp), step _ (by omega)]
      simp only [if_neg hp]
      split
      · rfl
      · cases opsO (l.drop (i + 1)) bg lb with
        | none => rfl
        | some o => rfl
theorem ops_eq {R : Type} (N : Nat) (l : List Pc) (hl : l.length ≤ 1000000) (hN : l.length < N) (K : Int → Bool → OpL → Option R) :
    pack_ops N l K = match opsF l with | none => K 0 false [] | some (n, o) => K n true o := by
  simp only [pack_ops, pack_ops_b]
  have h1 := ops9_loop (R := R) N l l hl (fun y0 y1 y2 => pack_ops_25 N N y0 0 y0 (len y0) 0 y1 y2 (fun y3 y4 y5 y6 => pack_ops_41 N N y4 y3 (len y3) 0 y5 y6 [] (fun y7 y8 y9 => K y7 y8 y9) (fun y10 y11 => K y10 true y11))) N 0 [] [] (by omega) (by omega)
  rw [List.drop_zero] at h1
  refine Eq.trans h1 ?_
  have h2 := ops25_loop (R := R) N l l hl (lab1 l [] []).1 (fun y3 y4 y5 y6 => pack_ops_41 N N y4 y3 (len y3) 0 y5 y6 [] (fun y7 y8 y9 => K y7 y8 y9) (fun y10 y11 => K y10 true y11)) N 0 0 (lab1 l [] []).2 (by omega) (by omega) (by omega) (by omega)
  rw [List.drop_zero] at h2
  refine Eq.trans h2 ?_
  have h3 := ops41_loop (R := R) N l hl (lab2 l 0 (lab1 l [] []).2).1 (lab1 l [] []).1 (lab2 l 0 (lab1 l [] []).2).2 (fun y7 y8 y9 => K y7 y8 y9) (fun y10 y11 => K y10 true y11) N 0 [] (by omega) (by omega) (by simp)
  rw [List.drop_zero] at h3
  refine Eq.trans h3 ?_
  unfold opsF
  cases opsO l (lab1 l [] []).1 (lab2 l 0 (lab1 l [] []).2).2 with
  | none => rfl
  | some o => rfl
def bodyOf (b : List Int) : List Int := b.take (b.length - 4)
def hdT (b : List Int) : Int × Rd := numT 3 (bodyOf b, false)
def nmT (b : List Int) : List UInt8 × Rd := textT (hdT b).2
def dcT (b : List Int) : Int × Rd := numT 2 (nmT b).2
def daT (b : List Int) : Bool × DataL × Rd := dataT (dcT b).1.toNat (dcT b).2 []
def gcT (b : List Int) : Int × Rd := numT 1 (daT b).2.2
def enT (b : List Int) : EntL × Rd := entsT (gcT b).1.toNat (gcT b).2 []
def szT (b : List Int) : Int × Rd := numT 4 (enT b).2
def procsF : OpL → Int → Int
  | [], n => n
  | x :: r, n => procsF r (if x.1 = 24 then n + 1 else n)
/-- a file read: the name, areas, instructions, entries, procedures, labels, where its instructions begin, and how many bytes they have -/
def unpackF (b : List Int) : Option (List UInt8 × DataL × OpL × EntL × Int × Int × Int × Int) :=
  if (hdT b).1 ≠ 6447617 then none
  else if (daT b).1 = false then none
  else if (szT b).2.2 = true then none
  else if (szT b).1 ≠ (szT b).2.1.length then none
  else match piecesF (szT b).2.1.length (szT b).2.1 0 with
    | none => none
    | some ps => match opsF ps with
      | none => none
      | some (n, o) => some ((nmT b).1, (daT b).2.1, o, (enT b).1, procsF o 0, n, pos (bodyOf b) (szT b).2.1, (szT b).1)
theorem procs_loop {R : Type} (N : Nat) (x0 x1 : Int) (l : OpL) (hl : l.length ≤ 10000000) (x4 : List UInt8) (x5 x6 : Int) (x7 : List Int) (x8 : Int) (x9 : Bool) (x10 : List UInt8) (x12 : Int) (x14 : DataL) (x15 : OpL) (x16 : EntL) (x17 : DataL) (x18 : EntL) (size : Int) (ok : Bool)
    (K : Int → Bool → List UInt8 → Int → Int → List Int → Int → Bool → List UInt8 → Int → Int → DataL → OpL → EntL → DataL → OpL → EntL → Option R) : ∀ (k i : Nat) (p : Int), i ≤ l.length → l.length - i < k → 0 ≤ p → p ≤ i →
    pack_unpack_71 N k size ok (len l) i x4 x5 x6 x7 x8 x9 x10 p x12 l x14 x15 x16 x17 x18 K = K size ok x4 x5 x6 x7 x8 x9 x10 (procsF (l.drop i) p) x12 x14 x15 x16 x17 l x18 := by
  intro k
  induction k with
  | zero => intro i _ _ h; omega
  | succ k ih =>
    intro i p hi hk h0 hp
    simp only [pack_unpack_71, pack_unpack_71_b]
    by_cases hlt : i < l.length
    case neg =>
      rw [if_neg (by simp [len]; omega), List.drop_eq_nil_of_le (by omega)]; rfl
    have hin : (0 : Int) ≤ i ∧ (i : Int) < len l := by simp only [len]; omega
    rw [if_pos (by simp [len]; omega), if_pos hin, getD_at _ _ hlt, List.drop_eq_getElem_cons hlt, wi_succ (by omega), procsF]
    by_cases h24 : l[i].1 = 24
    · rw [if_pos (by simpa using h24), if_pos h24, wi_id (by omega) (by omega)]
      exact ih (i + 1) (p + 1) (by omega) (by omega) (by omega) (by omega)
    · rw [if_neg (by simpa using h24), if_neg h24]
      exact ih (i + 1) p (by omega) (by omega) (by omega) (by omega)
theorem opsO_len : ∀ (l : List Pc) (bg : MapB) (lb : MapI) (o : OpL), opsO l bg lb = some o → o.length ≤ 2 * l.length
  | [], _, _, o, h => by simp only [opsO, Option.some.injEq] at h; subst h; simp
  | p :: r, bg, lb, o, h => by
    rw [opsO] at h
    split at h
    · cases h
    · split at h
      · cases h
      · rename_i l hl
        have := opsO_len r bg lb l hl
        simp only [Option.some.injEq] at h
        subst h
        have h2 : (labAt lb p).length ≤ 1 := by unfold labAt; split <;> simp
        simp only [List.length_append, List.length_cons]; omega
theorem opsF_len {l : List Pc} {n : Int} {o : OpL} (h : opsF l = some (n, o)) : o.length ≤ 2 * l.length ∧ 0 ≤ n ∧ n ≤ l.length := by
  unfold opsF at h
  split at h
  · cases h
  · rename_i o' ho
    have := opsO_len _ _ _ _ ho
    have := lab2_le l 0 (lab1 l [] []).2
    simp only [Option.some.injEq, Prod.mk.injEq] at h
    obtain ⟨rfl, rfl⟩ := h
    omega
theorem piecesF_len : ∀ (k : Nat) (r : List Int) (a : Nat) (l : List Pc), piecesF k r a = some l → l.length ≤ k
  | 0, r, a, l, h => by
    rw [piecesF] at h; split at h
    · cases h; simp
    · cases h
  | k + 1, r, a, l, h => by
    rw [piecesF] at h
    split at h
    · cases h; simp
    · split at h
      · cases h
      · split at h
        · cases h
        · rename_i l' hl
          have := piecesF_len k _ _ _ hl
          cases h
          simp only [List.length_cons]; omega
theorem unpack_T {R : Type} {N : Nat} {b : List Int} (hb : Bytes b) (h4 : 4 ≤ b.length) (hl : b.length ≤ 200000) (hN : 500000 ≤ N) :
    match unpackF b with
    | some (nm, data, o, gl, p, n, fr, sz) => ∀ K : List UInt8 → Int → Int → Int → Int → Bool → DataL → OpL → EntL → Option R, pack_unpack N b K = K nm p n fr sz true data o gl
    | none => ∃ nm p n fr sz data o gl, ∀ K : List UInt8 → Int → Int → Int → Int → Bool → DataL → OpL → EntL → Option R, pack_unpack N b K = K nm p n fr sz false data o gl := by
  have hw : wi (len b - 4) = ((b.length - 4 : Nat) : Int) := by rw [wi_id (by simp only [len]; omega) (by simp only [len]; omega)]; simp only [len]; omega
  have hB : Bytes (bodyOf b) := hb.take _
  have hL : (bodyOf b).length ≤ 200000 := by unfold bodyOf; rw [List.length_take]; omega
  have hL2 : (bodyOf b).length ≤ 4398046511104 := by omega
  have s0 : Sfx (bodyOf b) (bodyOf b) := Sfx.refl _
  have s1 : Sfx (bodyOf b) (hdT b).2.1 := numT_sfx (s := (bodyOf b, false)) s0
  have s2 : Sfx (bodyOf b) (nmT b).2.1 := textT_sfx s1
  have s3 : Sfx (bodyOf b) (dcT b).2.1 := numT_sfx s2
  have s4 : Sfx (bodyOf b) (daT b).2.2.1 := dataT_sfx s3
  have s5 : Sfx (bodyOf b) (gcT b).2.1 := numT_sfx s4
  have s6 : Sfx (bodyOf b) (enT b).2.1 := entsT_sfx s5
  have s7 : Sfx (bodyOf b) (szT b).2.1 := numT_sfx s6
  have v3 : 0 ≤ (dcT b).1 ∧ (dcT b).1 < 256 ^ 2 := numT_in hB (n := 2) s2
  have v5 : 0 ≤ (gcT b).1 ∧ (gcT b).1 < 256 ^ 1 := numT_in hB (n := 1) s4
  have v7 : 0 ≤ (szT b).1 ∧ (szT b).1 < 256 ^ 4 := numT_in hB (n := 4) s6
  have e1 : ∀ K : Int → List Int → Int → Bool → Option R, pack_reader_num N 3 (bodyOf b) 0 false K = K (hdT b).1 (bodyOf b) (pos (bodyOf b) (hdT b).2.1) (hdT b).2.2 := by
    intro K
    have := num3_T hB hL2 (N := N) (by omega) (s := (bodyOf b, false)) s0 K
    rw [show ((pos (bodyOf b) (bodyOf b, false).1 : Nat) : Int) = 0 by unfold pos; simp] at this
    exact this
  have main : ∀ K : List UInt8 → Int → Int → Int → Int → Bool → DataL → OpL → EntL → Option R, pack_unpack N b K =
      if ((hdT b).1 != 6447617) = true then K [] 0 0 0 0 false [] [] [] else
      if (daT b).1 = true then
        (if (szT b).2.2 = true then K (nmT b).1 0 0 0 0 false (daT b).2.1 [] (enT b).1
         else if (wi (((pos (bodyOf b) (szT b).2.1 : Nat) : Int) + (szT b).1) != len (bodyOf b)) = true then K (nmT b).1 0 0 0 0 false (daT b).2.1 [] (enT b).1
         else match piecesF (szT b).2.1.length (szT b).2.1 0 with
          | none => K (nmT b).1 0 0 0 0 false (daT b).2.1 [] (enT b).1
          | some ps => match opsF ps with
            | none => K (nmT b).1 0 0 (pos (bodyOf b) (szT b).2.1 : Nat) (szT b).1 false (daT b).2.1 [] (enT b).1
            | some (n, o) => K (nmT b).1 (procsF o 0) n (pos (bodyOf b) (szT b).2.1 : Nat) (szT b).1 true (daT b).2.1 o (enT b).1)
      else K (nmT b).1 0 0 0 0 false (daT b).2.1 [] [] := by
    intro K
    simp only [pack_unpack, pack_unpack_b]
    rw [hw, if_pos (by simp only [len]; omega), if_pos (by omega), Int.toNat_natCast, List.drop_zero]
    change pack_reader_num N 3 (bodyOf b) 0 false _ = _
    rw [e1]
    split
    · rfl
    have t2 : ∀ K, pack_reader_text N (bodyOf b) (pos (bodyOf b) (hdT b).2.1) (hdT b).2.2 K = K (nmT b).1 (bodyOf b) (pos (bodyOf b) (nmT b).2.1) (nmT b).2.2 := fun K => text_T (R := R) hB hL2 (by omega) s1 K
    have t3 : ∀ K, pack_reader_num N 2 (bodyOf b) (pos (bodyOf b) (nmT b).2.1) (nmT b).2.2 K = K (dcT b).1 (bodyOf b) (pos (bodyOf b) (dcT b).2.1) (dcT b).2.2 := fun K => num2_T (R := R) hB hL2 (by omega) s2 K
    rw [t2, t3, data_T hB hL2 (by omega) _ (by omega) _ _ _ _ _ _ _ _ _ _ _ _ _ (dcT b).1.toNat N 0 (dcT b).2 [] (by omega) (by omega) (by omega) s3 (by simp)]
    change (if (daT b).1 = true then _ else _) = _
    cases hda : (daT b).1
    · simp only [Bool.false_eq_true, if_false]; rfl
    simp only [if_true]
    have t5 : ∀ K, pack_reader_num N 1 (bodyOf b) (pos (bodyOf b) (daT b).2.2.1) (daT b).2.2.2 K = K (gcT b).1 (bodyOf b) (pos (bodyOf b) (gcT b).2.1) (gcT b).2.2 := fun K => num1_T (R := R) hB hL2 (by omega) s4 K
    have t7 : ∀ K, pack_reader_num N 4 (bodyOf b) (pos (bodyOf b) (enT b).2.1) (enT b).2.2 K = K (szT b).1 (bodyOf b) (pos (bodyOf b) (szT b).2.1) (szT b).2.2 := fun K => num4_T (R := R) hB hL2 (by omega) s6 K
    refine Eq.trans (t5 _) ?_
    rw [ents_T hB hL2 (N := N) (by omega) _ (by omega) _ _ _ _ _ _ _ _ _ _ _ _ (gcT b).1.toNat N 0 (gcT b).2 [] (by omega) (by omega) (by omega) s5 (by simp)]
    refine Eq.trans (t7 _) ?_
    split
    · rfl
    have hpl := pos_le (bodyOf b) (szT b).2.1
    have hd : List.drop (pos (bodyOf b) (szT b).2.1) (List.take (bodyOf b).length (bodyOf b)) = (szT b).2.1 := by
      rw [List.take_length]; exact s7.2
    split
    · rfl
    rw [if_pos (by simp only [len]; omega), if_pos (by simp only [len]; omega)]
    simp only [len, Int.toNat_natCast]
    rw [hd, pieces_eq (s7.bytes hB) (by have := s7.1; omega) (by omega) (by have := s7.1; omega)]
    cases hp : piecesF (szT b).2.1.length (szT b).2.1 0 with
    | none => rfl
    | some ps =>
      have hpsl := piecesF_len _ _ _ _ hp
      have := s7.1
      simp only [Bool.not_true, Bool.false_eq_true, if_false]
      rw [ops_eq N ps (by omega) (by omega)]
      have h0 : ((0 : Nat) : Int) = 0 := rfl
      cases ho : opsF ps with
      | none =>
        simp only
        have := procs_loop (R := R) N 0 0 [] (by simp) [] 0 0 (bodyOf b) (pos (bodyOf b) (szT b).2.1 : Nat) (szT b).2.2 (nmT b).1 0 [] [] [] (daT b).2.1 (enT b).1 (szT b).1 false
          (fun y64 y65 y66 y67 y68 y69 y70 y71 y72 y73 y74 y75 y76 y77 y78 y79 y80 => K y72 y73 y74 y70 y64 y65 y78 y79 y80) N 0 0 (by simp) (by simp; omega) (by omega) (by omega)
        rw [h0] at this
        exact this
      | some no =>
        obtain ⟨n, o⟩ := no
        have hol := opsF_len ho
        simp only
        have := procs_loop (R := R) N 0 0 o (by omega) [] 0 0 (bodyOf b) (pos (bodyOf b) (szT b).2.1 : Nat) (szT b).2.2 (nmT b).1 n [] [] [] (daT b).2.1 (enT b).1 (szT b).1 true
          (fun y64 y65 y66 y67 y68 y69 y70 y71 y72 y73 y74 y75 y76 y77 y78 y79 y80 => K y72 y73 y74 y70 y64 y65 y78 y79 y80) N 0 0 (by omega) (by omega) (by omega) (by omega)
        rw [h0, List.drop_zero] at this
        exact this
  have hsz : ((wi (((pos (bodyOf b) (szT b).2.1 : Nat) : Int) + (szT b).1) != len (bodyOf b)) = true) = ((szT b).1 ≠ (szT b).2.1.length) := by
    have := s7.1
    have := pos_le (bodyOf b) (szT b).2.1
    rw [wi_id (by omega) (by omega)]
    simp only [len, bne_iff_ne, ne_eq, eq_iff_iff]
    unfold pos; omega
  unfold unpackF
  by_cases c1 : (hdT b).1 ≠ 6447617
  · rw [if_pos c1]
    exact ⟨_, _, _, _, _, _, _, _, fun K => by rw [main, if_pos (by simpa using c1)]⟩
  rw [if_neg c1]
  by_cases c2 : (daT b).1 = false
  · rw [if_pos c2]
    exact ⟨_, _, _, _, _, _, _, _, fun K => by rw [main, if_neg (by simpa using c1), if_neg (by rw [c2]; decide)]⟩
  rw [if_neg c2]
  have c2' : (daT b).1 = true := by simpa using c2
  by_cases c3 : (szT b).2.2 = true
  · rw [if_pos c3]
    exact ⟨_, _, _, _, _, _, _, _, fun K => by rw [main, if_neg (by simpa using c1), if_pos c2', if_pos c3]⟩
  rw [if_neg c3]
  by_cases c4 : (szT b).1 ≠ (szT b).2.1.length
  · rw [if_pos c4]
    exact ⟨_, _, _, _, _, _, _, _, fun K => by rw [main, if_neg (by simpa using c1), if_pos c2', if_neg c3, if_pos (by rw [hsz]; exact c4)]⟩
  rw [if_neg c4]
  have main2 : ∀ K : List UInt8 → Int → Int → Int → Int → Bool → DataL → OpL → EntL → Option R, _ := fun K => (main K).trans (by rw [if_neg (by simpa using c1), if_pos c2', if_neg c3, if_neg (by rw [hsz]; exact c4)])
  cases hp : piecesF (szT b).2.1.length (szT b).2.1 0 with
  | none =>
    simp only [hp] at main2
    exact ⟨_, _, _, _, _, _, _, _, main2⟩
  | some ps =>
    simp only [hp] at main2
    cases ho : opsF ps with
    | none =>
      simp only [ho] at main2 ⊢
      exact ⟨_, _, _, _, _, _, _, _, main2⟩
    | some no =>
      obtain ⟨n, o⟩ := no
      simp only [ho] at main2 ⊢
      exact main2
theorem eqs_step {α : Type} [DecidableEq α] {a b : List α} (h : a.length = b.length) {i : Nat} (hi : i < a.length) : (a.drop i = b.drop i) ↔ (a[i] = b[i]'(by omega) ∧ a.drop (i + 1) = b.drop (i + 1)) := by
  rw [List.drop_eq_getElem_cons hi, List.drop_eq_getElem_cons (show i < b.length by omega), List.cons.injEq]
theorem sEq_loop {R : Type} (N : Nat) (a b : List Int) (h : a.length = b.length) (hl : a.length ≤ 1000000) (K0 : Bool → Option R) (K1 : Option R) : ∀ (k i : Nat), i ≤ a.length → a.length - i < k →
    slices_Equal_byte_byte_9 N k a b (len a) i K0 K1 = if a.drop i = b.drop i then K1 else K0 false := by
  intro k
  induction k with
  | zero => intro i _ h; omega
  | succ k ih =>
    intro i hi hk
    simp only [slices_Equal_byte_byte_9, slices_Equal_byte_byte_9_b]
    by_cases hlt : i < a.length
    case neg =>
      rw [if_neg (by simp [len]; omega), List.drop_eq_nil_of_le (by omega), List.drop_eq_nil_of_le (by omega), if_pos rfl]
    rw [if_pos (by simp [len]; omega), if_pos (by simp only [len]; omega), if_pos (by simp only [len]; omega), getD_at _ _ hlt, getD_at _ _ (show i < b.length by omega), wi_succ (by omega)]
    have hs := eqs_step h hlt
    by_cases he : a[i] = b[i]'(by omega)
    · rw [if_neg (by simpa using he), ih (i + 1) (by omega) (by omega)]
      by_cases h2 : a.drop (i + 1) = b.drop (i + 1)
      · rw [if_pos h2, if_pos (hs.2 ⟨he, h2⟩)]
      · rw [if_neg h2, if_neg (fun h => h2 (hs.1 h).2)]
    · rw [if_pos (by simpa using he), if_neg (fun h => he (hs.1 h).1)]
theorem sEq_eq {R : Type} (N : Nat) (a b : List Int) (hl : a.length ≤ 1000000) (hN : a.length < N) (K : Bool → Option R) : slices_Equal_byte_byte N a b K = K (decide (a = b)) := by
  simp only [slices_Equal_byte_byte, slices_Equal_byte_byte_b]
  by_cases h : a.length = b.length
  · rw [if_neg (by simp [len, h])]
    have := sEq_loop (R := R) N a b h hl (fun y0 => K y0) (K true) N 0 (by omega) (by omega)
    rw [show ((0 : Nat) : Int) = 0 from rfl, List.drop_zero, List.drop_zero] at this
    rw [this]
    split <;> simp [*]
  · rw [if_pos (by simp [len]; omega), show decide (a = b) = false by simp; intro e; exact h (by rw [e])]
theorem rEq_loop {R : Type} (N : Nat) (a b : List Int) (h : a.length = b.length) (hl : a.length ≤ 1000000) (K0 : Bool → Option R) (K1 : Option R) : ∀ (k i : Nat), i ≤ a.length → a.length - i < k →
    ref00_EqBytes_9 N k a b i K0 K1 = if a.drop i = b.drop i then K1 else K0 false := by
  intro k
  induction k with
  | zero => intro i _ h; omega
  | succ k ih =>
    intro i hi hk
    simp only [ref00_EqBytes_9, ref00_EqBytes_9_b]
    by_cases hlt : i < a.length
    case neg =>
      rw [if_neg (by simp [len]; omega), List.drop_eq_nil_of_le (by omega), List.drop_eq_nil_of_le (by omega), if_pos rfl]
    rw [if_pos (by simp [len]; omega), if_pos (by simp only [len]; omega), if_pos (by simp only [len]; omega), getD_at _ _ hlt, getD_at _ _ (show i < b.length by omega), wi_succ (by omega)]
    have hs := eqs_step h hlt
    by_cases he : a[i] = b[i]'(by omega)
    · rw [if_neg (by simpa using he), ih (i + 1) (by omega) (by omega)]
      by_cases h2 : a.drop (i + 1) = b.drop (i + 1)
      · rw [if_pos h2, if_pos (hs.2 ⟨he, h2⟩)]
      · rw [if_neg h2, if_neg (fun h => h2 (hs.1 h).2)]
    · rw [if_pos (by simpa using he), if_neg (fun h => he (hs.1 h).1)]
theorem eqBytes_eq {R : Type} (N : Nat) (a b : List Int) (hl : a.length ≤ 1000000) (hN : a.length < N) (K : Bool → Option R) : ref00_EqBytes N a b K = K (decide (a = b)) := by
  simp only [ref00_EqBytes, ref00_EqBytes_b]
  by_cases h : a.length = b.length
  · rw [if_neg (by simp [len, h])]
    have := rEq_loop (R := R) N a b h hl (fun y0 => K y0) (K true) N 0 (by omega) (by omega)
    rw [show ((0 : Nat) : Int) = 0 from rfl, List.drop_zero, List.drop_zero] at this
    rw [this]
    split <;> simp [*]
  · rw [if_pos (by simp [len]; omega), show decide (a = b) = false by simp; intro e; exact h (by rw [e])]
theorem textT_len {b : List Int} (hb : Bytes b) {s : Rd} (h : Sfx b s.1) : (textT s).1.length ≤ 255 := by
  have hv := numT_in hb (n := 1) h
  unfold textT
  repeat' split
  · simp
  · simp
  · simp only [txt, List.length_map, List.length_take]
    omega
theorem wordsT_len : ∀ (k : Nat) (s : Rd), (wordsT k s).1.length = k
  | 0, _ => rfl
  | k + 1, s => by simp only [wordsT, List.length_cons]; rw [wordsT_len k]
theorem dataT_len {b : List Int} (hb : Bytes b) : ∀ (k : Nat) (s : Rd) (acc : DataL), Sfx b s.1 → (∀ d, d ∈ acc → d.1.length ≤ 255 ∧ d.2.2.length ≤ 65535) → ∀ d, d ∈ (dataT k s acc).2.1 → d.1.length ≤ 255 ∧ d.2.2.length ≤ 65535
  | 0, _, _, _, h => h
  | k + 1, s, acc, hs, h => by
    have h1 := numT_sfx (n := 1) hs
    have hv := numT_in hb (n := 2) h1
    unfold dataT
    split
    · split
      · exact h
      · refine dataT_len hb k _ _ (textT_sfx h1) ?_
        intro d hd
        rcases List.mem_append.mp hd with hd | hd
        · exact h d hd
        · rw [List.mem_singleton] at hd; subst hd
          exact ⟨textT_len hb h1, by simp⟩
    · split
      · split
        · exact h
        · refine dataT_len hb k _ _ (wordsT_sfx (numT_sfx h1)) ?_
          intro d hd
          rcases List.mem_append.mp hd with hd | hd
          · exact h d hd
          · rw [List.mem_singleton] at hd; subst hd
            exact ⟨by simp, by simp only; rw [wordsT_len]; omega⟩
      · exact h
theorem entsT_len : ∀ (k : Nat) (s : Rd) (acc : EntL), (entsT k s acc).1.length = acc.length + k
  | 0, _, _ => rfl
  | k + 1, s, acc => by simp only [entsT]; rw [entsT_len k, List.length_append]; simp; omega
theorem unpackF_in {b : List Int} (hb : Bytes b) {nm : List UInt8} {data : DataL} {o : OpL} {gl : EntL} {p n fr sz : Int} (h : unpackF b = some (nm, data, o, gl, p, n, fr, sz)) : CodeIn 500000 nm data gl := by
  have hB : Bytes (bodyOf b) := hb.take _
  have s1 : Sfx (bodyOf b) (hdT b).2.1 := numT_sfx (s := (bodyOf b, false)) (Sfx.refl _)
  have s2 : Sfx (bodyOf b) (nmT b).2.1 := textT_sfx s1
  have s3 : Sfx (bodyOf b) (dcT b).2.1 := numT_sfx s2
  have s4 : Sfx (bodyOf b) (daT b).2.2.1 := dataT_sfx s3
  have v5 : 0 ≤ (gcT b).1 ∧ (gcT b).1 < 256 ^ 1 := numT_in hB (n := 1) s4
  have hn : (nmT b).1.length ≤ 255 := textT_len hB s1
  have hd : ∀ d, d ∈ (daT b).2.1 → d.1.length ≤ 255 ∧ d.2.2.length ≤ 65535 := dataT_len hB _ _ _ s3 (fun d hd => by cases hd)
  have hg : (enT b).1.length = (gcT b).1.toNat := by unfold enT; rw [entsT_len]; simp
  unfold unpackF at h
  repeat' split at h
  all_goals first | (cases h; done) | skip
  simp only [Option.some.injEq, Prod.mk.injEq] at h
  obtain ⟨rfl, rfl, rfl, rfl, _⟩ := h
  exact ⟨by omega, by omega, fun d h => by have := hd d h; omega, fun d h => by have := hd d h; omega, fun d h => by have := hd d h; omega, by omega, by omega, by omega⟩
/-- what opened answers -/
def openedF (b : List Int) : List UInt8 × Int × Int × Int × Int × Int × DataL × OpL × EntL :=
  if b.length < 15 then ([], 0, 0, 0, 0, 7, [], [], [])
  else if uns 0 (seg b (b.length - 4) 4) ≠ sumF 0 0 (b.take (b.length - 4)) then ([], 0, 0, 0, 0, 8, [], [], [])
  else match unpackF b with
    | none => ([], 0, 0, 0, 0, 3, [], [], [])
    | some (nm, data, o, gl, p, n, fr, sz) => if smallErr nm data o gl p n = 0 ∧ packF nm data o gl = b then (nm, p, n, fr, sz, 0, data, o, gl) else ([], 0, 0, 0, 0, 3, [], [], [])
theorem opened_eq {R : Type} {b : List Int} (hb : Bytes b) (hl : b.length ≤ 200000) (K : List UInt8 → Int → Int → Int → Int → Int → DataL → OpL → EntL → Option R) :
    pack_opened 500000 b K = K (openedF b).1 (openedF b).2.1 (openedF b).2.2.1 (openedF b).2.2.2.1 (openedF b).2.2.2.2.1 (openedF b).2.2.2.2.2.1 (openedF b).2.2.2.2.2.2.1 (openedF b).2.2.2.2.2.2.2.1 (openedF b).2.2.2.2.2.2.2.2 := by
  simp only [pack_opened, pack_opened_b]
  unfold openedF
  by_cases h15 : b.length < 15
  · rw [if_pos (by simp only [len, decide_eq_true_eq]; omega), if_pos h15]
  rw [if_neg (by simp only [len, decide_eq_true_eq]; omega), if_neg h15]
  have hw : wi (len b - 4) = ((b.length - 4 : Nat) : Int) := by rw [wi_id (by simp only [len]; omega) (by simp only [len]; omega)]; simp only [len]; omega
  rw [hw, show (4 : Int) = ((4 : Nat) : Int) from rfl,
    pack_num_eq 500000 b hb (by unfold reachBytes; omega) 4 (b.length - 4) _ (by omega) (by omega) (by omega), if_pos (by omega), if_pos (by simp only [len]; omega), if_pos (by omega), Int.toNat_natCast, List.drop_zero,
    pSum_eq 500000 _ (by rw [List.length_take]; omega) (by rw [List.length_take]; omega)]
  by_cases hs : uns 0 (seg b (b.length - 4) 4) ≠ sumF 0 0 (b.take (b.length - 4))
  · rw [if_pos (by simpa using hs), if_pos hs]
  rw [if_neg (by simpa using hs), if_neg hs]
  have hu := unpack_T (R := R) hb (by omega) hl (N := 500000) (by omega)
  cases hx : unpackF b with
  | none =>
    rw [hx] at hu
    obtain ⟨nm, p, n, fr, sz, data, o, gl, hu⟩ := hu
    rw [hu]
    simp [pack_opened_18, pack_opened_18_b]
  | some c =>
    obtain ⟨nm, data, o, gl, p, n, fr, sz⟩ := c
    rw [hx] at hu
    simp only at hu ⊢
    rw [hu, if_pos rfl]
    have F := unpackF_in hb hx
    rw [pPack_eq F (by omega)]
    by_cases he : smallErr nm data o gl p n = 0
    · rw [if_pos he, if_pos (by decide), sEq_eq 500000 _ _ (by rw [packF_len]; have := preB_len he; omega) (by rw [packF_len]; have := preB_len he; omega)]
      simp only [pack_opened_18, pack_opened_18_b]
      by_cases hp : packF nm data o gl = b
      · rw [show decide (packF nm data o gl = b) = true by simpa using hp, if_neg (by decide), ocode_Check_eq F, (smallErr_zero he).1, if_neg (by decide), if_pos ⟨he, hp⟩]
      · rw [show decide (packF nm data o gl = b) = false by simpa using hp, if_pos (by decide), if_neg (fun h => hp h.2)]
    · rw [if_neg he, if_neg (by simpa using he), if_neg (fun h => he h.1)]
      simp only [pack_opened_18, pack_opened_18_b]
      rw [if_pos (by decide)]
theorem awake5 {R : Type} (K : Bool → Option R) : law10_awake 500000 K = K true := by kernel_rfl
theorem law10_PackForth_eq {R : Type} {b : List Int} (hb : Bytes b) (K : Bool → Option R) : law10_PackForth 500000 b K = K true := by
  simp only [law10_PackForth, law10_PackForth_b]
  by_cases hl : b.length > 200000
  · rw [if_pos (by simp only [len, decide_eq_true_eq]; omega), awake5]
  rw [if_neg (by simp only [len, decide_eq_true_eq]; omega)]
  simp only [pack_Unpack, pack_Unpack_b]
  rw [opened_eq hb (by omega)]
  unfold openedF
  by_cases h15 : b.length < 15
  · simp only [if_pos h15]; simp [awake5]
  simp only [if_neg h15]
  by_cases hs : uns 0 (seg b (b.length - 4) 4) ≠ sumF 0 0 (b.take (b.length - 4))
  · simp only [if_pos hs]; simp [awake5]
  simp only [if_neg hs]
  cases hx : unpackF b with
  | none => simp [awake5]
  | some c =>
    obtain ⟨nm, data, o, gl, p, n, fr, sz⟩ := c
    simp only
    by_cases hc : smallErr nm data o gl p n = 0 ∧ packF nm data o gl = b
    · simp only [if_pos hc]
      rw [if_neg (by decide), pPack_eq (unpackF_in hb hx) (by omega), if_pos hc.1, if_pos (by decide), eqBytes_eq 500000 _ _ (by rw [hc.2]; omega) (by rw [hc.2]; omega), hc.2]
      simp [awake5]
    · simp only [if_neg hc]; simp [awake5]
theorem packForth_pure (x0 : Ty.den (.list (.int .u8))) (y0 : Wf _ x0) :
    ∃ N, (s_law10_PackForth N).run AV [argAV false (.list (.int .u8)) x0] [] (fun v _ _ => some v) = some (vb true) :=
  ⟨500000, law10_PackForth_eq (wf_bytes y0) (fun b => some (vb b))⟩
end Q

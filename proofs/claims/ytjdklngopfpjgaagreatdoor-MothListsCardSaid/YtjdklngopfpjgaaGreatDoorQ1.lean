/- Part Q1 of the proof. -/
import Derived.Test.YtjdklngopfpjgaaGreatDoorO
import Derived.Test.YtjdklngopfpjgaaGreatDoorX7
open Go Go.AX Go.Proofs
namespace Q
def Boe (c : UInt8) : Bool := c == 10 || c == 9 || c == 42 || c == 34
def As8 (c : UInt8) : Bool := !Boe c && (decide (c.toNat < 32) || decide (126 < c.toNat))
def Bei (c : UInt8) : List Int := if c = 10 then [42, 110] else if c = 9 then [42, 116] else if c = 42 then [42, 42] else if c = 34 then [42, 34] else [(c.toNat : Int)]
def Bdq (s : List UInt8) : List Int := s.flatMap Bei
def Aq3 (s : List UInt8) : Int := if s.any As8 then 3 else if 100 < s.length then 2 else 0
theorem Cuj (c : UInt8) : Bll [10, 9, 42, 34] ((c.toNat : Nat) : Int) = if c = 10 then 0 else if c = 9 then 1 else if c = 42 then 2 else if c = 34 then 3 else -1 := by
 have e : (((c.toNat : Nat) : Int)).toNat.toUInt8 = c := by simp
 unfold Bll
 rw [e]
 simp only [Lib.indexByte, beq_iff_eq]
 by_cases h1 : c = 10
 ·subst h1; rfl
 by_cases h2 : c = 9
 ·subst h2; rfl
 by_cases h3 : c = 42
 ·subst h3; rfl
 by_cases h4 : c = 34
 ·subst h4; rfl
 simp [h1, h2, h3, h4, Ne.symm h1, Ne.symm h2, Ne.symm h3, Ne.symm h4]
theorem Clr (c : UInt8) : (Bei c).length ≤ 2 ∧ Amp (Bei c) = true := by
 unfold Bei
 have : c.toNat < 256 := c.toNat_lt
 repeat' split
 all_goals (constructor <;> simp [Amp] <;> omega)
theorem A74 (a b : List Int) : Amp (a ++ b) = (Amp a && Amp b) := by simp [Amp]
theorem A96 {R : Type} (N : Nat) (v : Int) (b : List Int) (K : List Int → Option R) (h : b.length + 1 ≤ 70368744177664) : Aad N v b K = K (b ++ [v]) := by
 unfold Aad
 rw [if_pos (by simp; omega)]
theorem Csv {R : Type} (N : Nat) (v : Int) (b : List Int) (K : List Int → Option R) (h : b.length + 1 ≤ 70368744177664) : Abl N v b K = K (b ++ [v]) := by
 unfold Abl
 rw [if_pos (by simp; omega)]
theorem B3d {R : Type} (N : Nat) (s : List UInt8) (hs : s.length ≤ 1099511627776) (a : List UInt8 → Int → Option R) (d : List UInt8 → List Int → Option R) : ∀ (m k i : Nat) (b : List Int), m < k → i + m = s.length → b.length ≤ 1 + 2 * i →
  Af6 N k s s.length i b a d = if (s.drop i).any As8 then a [] 3 else d s (b ++ Bdq (s.drop i))
 | m, 0, _, _, hk, _, _ => by omega
 | 0, k + 1, i, b, _, hi, _ => by
  simp only [Af6, A2n]
  rw [if_neg (by simp; omega), List.drop_eq_nil_of_le (by omega)]
  simp [Bdq]
 | m + 1, k + 1, i, b, hk, hi, hb => by
  simp only [Af6, A2n]
  have hin : (0 : Int) ≤ i ∧ (i : Int) < len s := by simp only [len]; omega
  rw [if_pos (by simp; omega), if_pos hin]
  have hlt : i < s.length := by omega
  have hd : s.drop i = s[i] :: s.drop (i + 1) := List.drop_eq_getElem_cons hlt
  have hg : s.getD (Int.toNat (i : Int)) 0 = s[i] := by
   rw [List.getD_eq_getElem?_getD]; simp [hlt]
  rw [hg, hd]
  generalize s[i] = c
  have hc := c.toNat_lt
  have hw : wi ((i : Int) + 1) = ((i + 1 : Nat) : Int) := by
   simp only [wi]; rw [w64 (by omega)]; rfl
  have ih := fun b' (hb' : b'.length ≤ 1 + 2 * (i + 1)) => B3d N s hs a d m k (i + 1) b' (by omega) (by omega) hb'
  rw [Cuj]
  by_cases h1 : c = 10
  ·subst h1
   rw [if_pos rfl, if_pos (by decide), A96 _ _ _ _ (by omega), if_pos (by decide), A96 _ _ _ _ (by simp; omega), hw, ih _ (by simp; omega)]
   simp [As8, Boe, Bdq, Bei]
  rw [if_neg h1]
  by_cases h2 : c = 9
  ·subst h2
   rw [if_pos rfl, if_pos (by decide), A96 _ _ _ _ (by omega), if_pos (by decide), A96 _ _ _ _ (by simp; omega), hw, ih _ (by simp; omega)]
   simp [As8, Boe, Bdq, Bei]
  rw [if_neg h2]
  by_cases h3 : c = 42
  ·subst h3
   rw [if_pos rfl, if_pos (by decide), A96 _ _ _ _ (by omega), if_pos (by decide), A96 _ _ _ _ (by simp; omega), hw, ih _ (by simp; omega)]
   simp [As8, Boe, Bdq, Bei]
  rw [if_neg h3]
  by_cases h4 : c = 34
  ·subst h4
   rw [if_pos rfl, if_pos (by decide), A96 _ _ _ _ (by omega), if_pos (by decide), A96 _ _ _ _ (by simp; omega), hw, ih _ (by simp; omega)]
   simp [As8, Boe, Bdq, Bei]
  rw [if_neg h4, if_neg (by decide)]
  have hq : Boe c = false := by simp [Boe, h1, h2, h3, h4]
  by_cases h5 : c.toNat < 32
  ·rw [if_pos (by simp; omega)]
   simp [As8, hq, h5]
  rw [if_neg (by simp; omega)]
  by_cases h6 : 126 < c.toNat
  ·rw [if_pos (by simp; omega)]
   simp [As8, hq, h6]
  rw [if_neg (by simp; omega), A96 _ _ _ _ (by omega), hw, ih _ (by simp; omega)]
  simp [As8, hq, h5, h6, Bdq, Bei, h1, h2, h3, h4]
theorem Cj9 (s : List UInt8) : Amp (Bdq s) = true ∧ (Bdq s).length ≤ 2 * s.length := by
 induction s with
 | nil => simp [Bdq, Amp]
 | cons c s ih =>
  have := Clr c
  simp only [Bdq, List.flatMap_cons, A74, List.length_append, List.length_cons] at ih ⊢
  rw [this.2, ih.1]
  exact ⟨rfl, by omega⟩
theorem Bs0 (N : Nat) (s : List UInt8) (hs : s.length ≤ 1099511627776) (hN : s.length < N) : ∃ r, ∀ {R : Type} (K : List UInt8 → Int → Option R), Ada N s K = K r (Aq3 s) := by
 have key : ∀ {R : Type} (K : List UInt8 → Int → Option R), Ada N s K = K (if s.any As8 then [] else if 100 < s.length then [] else Axi (34 :: Bdq s ++ [34])) (Aq3 s) := by
  intro R K
  simp only [Ada, Bkq]
  rw [Csv _ _ _ _ (by simp)]
  simp only [len]
  have := B3d N s hs (fun b c => K b c) (fun d e => if (decide ((d.length : Int) > 100)) = true then K [] 2 else Aad N 34 e fun a => if 0 < a.length ∧ a.length ≤ 70368744177664 ∧ Amp a = true then K (Axi a) 0 else none) s.length N 0 ([] ++ [34]) hN (by omega) (by simp)
  rw [show ((0 : Nat) : Int) = 0 from rfl] at this
  rw [this]
  simp only [List.drop_zero, Aq3]
  by_cases h1 : s.any As8 = true
  ·simp only [if_pos h1]
  simp only [if_neg h1]
  by_cases h2 : 100 < s.length
  ·rw [if_pos (by simp; omega), if_pos h2, if_pos h2]
  rw [if_neg (by simp; omega), if_neg h2, if_neg h2]
  have hq := Cj9 s
  rw [A96 _ _ _ _ (by simp; omega), if_pos]
  ·rfl
  ·refine ⟨by simp, by simp; omega, ?_⟩
   rw [A74, A74, hq.1]; rfl
 exact ⟨_, fun K => key K⟩
def Aja (n : Int) : Bool := decide (-2147483648 ≤ n) && decide (n ≤ 2147483647)
def inB (v a b : Int) : Bool := decide (a ≤ v) && decide (v ≤ b)
def Alr : List (List UInt8 × Int × Int × Int) := [([], 0, 0, 0), ([110, 117, 109], 1, 0, 1), ([108, 111, 99, 97, 108], 2, 0, 1), ([112, 117, 116, 108], 2, 1, 0), ([97, 100, 100, 114, 108], 2, 0, 1),
 ([103, 108, 111, 98, 97, 108], 3, 0, 1), ([112, 117, 116, 103], 3, 1, 0), ([97, 100, 100, 114, 103], 3, 0, 1), ([115, 116, 97, 116, 105, 99], 4, 0, 1), ([112, 117, 116, 115], 4, 1, 0), ([97, 100, 100, 114, 115], 4, 0, 1),
 ([112, 114, 111, 99], 5, 0, 1), ([108, 111, 97, 100], 0, 1, 1), ([115, 116, 111, 114, 101], 0, 2, 0), ([103, 101, 116, 98], 0, 2, 1), ([112, 117, 116, 98], 0, 3, 0), ([98, 105, 110], 7, 2, 1), ([117, 110], 8, 1, 1),
 ([115, 116, 97, 99, 107], 2, 0, 0), ([108, 97, 98, 101, 108], 6, 0, 0), ([106, 117, 109, 112], 6, 0, 0), ([116, 114, 117, 101], 6, 1, 0), ([102, 97, 108, 115, 101], 6, 1, 0), ([99, 97, 108, 108], 2, 0, 0),
 ([101, 110, 116, 101, 114], 5, 0, 0), ([114, 101, 116, 117, 114, 110], 0, 1, 0), ([98, 97, 99, 107], 0, 0, 0), ([114, 101, 115, 117, 108, 116], 6, 1, 0), ([116, 97, 107, 101], 2, 0, 0), ([115, 119, 105, 116, 99, 104], 6, 1, 0), ([99, 97, 115, 101], 1, 0, 0)]
def kT (op : Int) : List UInt8 × Int × Int × Int := Alr.getD op.toNat ([], 0, 0, 0)
def Aup (op n m nd procs labels : Int) : Bool :=
 if op = 1 then Aja n && m == 0
 else if op = 2 ∨ op = 3 ∨ op = 4 ∨ op = 18 ∨ op = 23 ∨ op = 28 then inB n 0 4000 && m == 0
 else if op = 5 ∨ op = 6 ∨ op = 7 then inB n 0 199 && m == 0
 else if op = 8 ∨ op = 9 ∨ op = 10 then inB n 0 (nd - 1) && m == 0
 else if op = 11 then inB n 1 procs && m == 0
 else if op = 16 then inB n 1 17 && m == 0
 else if op = 17 then (n == 18 || n == 19) && m == 0
 else if op = 19 ∨ op = 20 ∨ op = 21 ∨ op = 22 ∨ op = 27 then inB n 1 labels && m == 0
 else if op = 24 then inB n 1 procs && inB m 0 8
 else if op = 29 then inB n 1 labels && inB m 0 1000
 else if op = 30 then Aja n && inB m 1 labels
 else n == 0 && m == 0
theorem Aw9 {R : Type} (N : Nat) (v a b : Int) (K : Bool → Option R) : Aa5 N v a b K = K (inB v a b) := by
 unfold Aa5 inB
 by_cases h : a ≤ v
 ·rw [if_pos (by simpa using h)]; simp [h]
 ·rw [if_neg (by simpa using h)]; simp [h]
theorem Aoe {R : Type} (N : Nat) (v a b : Int) (K : Bool → Option R) : Aap N v a b K = K (inB v a b) := by
 unfold Aap inB
 by_cases h : a ≤ v
 ·rw [if_pos (by simpa using h)]; simp [h]
 ·rw [if_neg (by simpa using h)]; simp [h]
theorem Bp2 {R : Type} (N : Nat) (v : Int) (K : Bool → Option R) : Ae4 N v K = K (Aja v) := by
 simp only [Ae4, Bfn, Aw9]; rfl
theorem ifT {R : Type} (a b : Bool) (K : Bool → Option R) : (if a = true then K b else K false) = K (a && b) := by cases a <;> rfl
theorem Ctv {R : Type} (N : Nat) (ok : Bool) (op n m : Int) (nm : List UInt8) (data : List (List UInt8 × Bool × List Int)) (ops : List (Int × Int × Int)) (gl : List (Int × Int)) (procs labels : Int) (K : Bool → Option R) :
  Abr N ok op n m nm data ops gl procs labels K = K (ok && (if op = 24 then inB m 0 8 else if op = 29 then inB m 0 1000 else if op = 30 then inB m 1 labels else m == 0)) := by
 simp only [Abr, Ay7, Aw9, ifT, beq_iff_eq]
 repeat' split
 all_goals rfl
theorem Bm3 {op : Int} (h : 1 ≤ op ∧ op ≤ 30) : op = 1 ∨ op = 2 ∨ op = 3 ∨ op = 4 ∨ op = 5 ∨ op = 6 ∨ op = 7 ∨ op = 8 ∨ op = 9 ∨ op = 10 ∨ op = 11 ∨ op = 12 ∨ op = 13 ∨ op = 14 ∨ op = 15 ∨ op = 16 ∨ op = 17 ∨ op = 18 ∨ op = 19 ∨ op = 20 ∨ op = 21 ∨ op = 22 ∨ op = 23 ∨ op = 24 ∨ op = 25 ∨ op = 26 ∨ op = 27 ∨ op = 28 ∨ op = 29 ∨ op = 30 := by omega
theorem Bzq {R : Type} (N : Nat) (op n m : Int) (nm : List UInt8) (data : List (List UInt8 × Bool × List Int)) (ops : List (Int × Int × Int)) (gl : List (Int × Int)) (procs labels : Int) (hd : data.length ≤ 1000000) (h : 1 ≤ op ∧ op ≤ 30) (K : Bool → Option R) :
  Ads N op n m nm data ops gl procs labels (kT op).1 (kT op).2.1 (kT op).2.2.1 (kT op).2.2.2 K = K (Aup op n m data.length procs labels) := by
 have hw : wi (len data - 1) = (data.length : Int) - 1 := by simp only [wi, len]; rw [w64 (by omega)]
 rcases Bm3 h with rfl | rfl | rfl | rfl | rfl | rfl | rfl | rfl | rfl | rfl | rfl | rfl | rfl | rfl | rfl | rfl | rfl | rfl | rfl | rfl | rfl | rfl | rfl | rfl | rfl | rfl | rfl | rfl | rfl | rfl <;>
  simp only [Ads, A6b, Ctv, Aw9, Bp2, hw] <;> simp [kT, Alr, Aup]
 by_cases hn : n = 18
 ·simp [hn]
 ·have : (n == 18) = false := by simpa using hn
  simp [hn, this]
theorem Cls {op n m nd procs labels : Int} (hd : nd ≤ 2000) (hp : procs ≤ 200) (hl : labels ≤ 20000) (h : Aup op n m nd procs labels = true) : Aja n = true ∧ Aja m = true := by
 unfold Aup at h
 repeat' split at h
 all_goals
  simp only [inB, Aja, Bool.and_eq_true, Bool.or_eq_true, decide_eq_true_eq, beq_iff_eq] at h ⊢
  omega
theorem Cka {R : Type} (N : Nat) (op n m : Int) (nm : List UInt8) (data : List (List UInt8 × Bool × List Int)) (ops : List (Int × Int × Int)) (gl : List (Int × Int)) (procs labels : Int) (hd : data.length ≤ 1000000) (h : 1 ≤ op ∧ op ≤ 30) (hn : Aja n = true) (hm : Aja m = true) (K : Bool → Option R) :
  Aer N nm data ops gl procs labels op n m K = K (Aup op n m data.length procs labels) := by
 have hw : wi (len data - 1) = (data.length : Int) - 1 := by simp only [wi, len]; rw [w64 (by omega)]
 have h1 : inB n (-2147483648) 2147483647 = true := hn
 have h2 : inB m (-2147483648) 2147483647 = true := hm
 have h0 : inB op 1 30 = true := by simp [inB, h]
 simp only [Aer, Asm, Aoe, h0, h1, h2, Bool.not_true, Bool.false_eq_true, if_false]
 clear h0 h1 h2
 rcases Bm3 h with rfl | rfl | rfl | rfl | rfl | rfl | rfl | rfl | rfl | rfl | rfl | rfl | rfl | rfl | rfl | rfl | rfl | rfl | rfl | rfl | rfl | rfl | rfl | rfl | rfl | rfl | rfl | rfl | rfl | rfl <;>
  simp [Aat, Azv, Abb, Azu, Aba, Azt, Aa6, Azs, Aaq, Aoe, hw, Aup, hn, ifT]
 all_goals
  by_cases hz : m = 0
  ·(try simp [hz])
   try
    by_cases hy : n = 18
    ·simp [hy]
    ·have hy' : (n == 18) = false := by simpa using hy
     simp [hy, hy']
  ·have hz' : (m == 0) = false := by simpa using hz
   (try simp [hz, hz'])
theorem Bzr {R : Type} (N : Nat) (op n m : Int) (nm : List UInt8) (data : List (List UInt8 × Bool × List Int)) (ops : List (Int × Int × Int)) (gl : List (Int × Int)) (procs labels : Int) (hd : data.length ≤ 2000) (hp : procs ≤ 200) (hl : labels ≤ 20000) (K : Bool → Option R) :
  Aer N nm data ops gl procs labels op n m K = K (inB op 1 30 && Aup op n m data.length procs labels) := by
 by_cases h : 1 ≤ op ∧ op ≤ 30
 ·by_cases hw : Aja n = true ∧ Aja m = true
  ·rw [Cka N op n m nm data ops gl procs labels (by omega) h hw.1 hw.2]
   simp [inB, h]
  ·have hf : Aup op n m data.length procs labels = false := by
    cases e : Aup op n m data.length procs labels with
    | false => rfl
    | true => exact absurd (Cls (by omega) hp hl e) hw
   have h0 : inB op 1 30 = true := by simp [inB, h]
   have h1 : inB n (-2147483648) 2147483647 = Aja n := rfl
   have h2 : inB m (-2147483648) 2147483647 = Aja m := rfl
   rw [hf]
   simp only [Aer, Asm, Aoe, h0, h1, h2]
   by_cases h3 : Aja n = true
   ·have h4 : Aja m = false := by
     cases e : Aja m with
     | false => rfl
     | true => exact absurd ⟨h3, e⟩ hw
    simp [h3, h4]
   ·have h3 : Aja n = false := by simpa using h3
    simp [h3]
 ·have h0 : inB op 1 30 = false := by
   simp only [inB, Bool.and_eq_false_iff, decide_eq_false_iff_not]; omega
  simp only [Aer, Asm, Aoe, h0]
  simp
abbrev Aaz := List (List UInt8 × Bool × List Int)
abbrev OpL := List (Int × Int × Int)
abbrev Abq := List (Int × Int)
def Bs1 (d : List UInt8 × Bool × List Int) : Int := d.2.2.length + (if d.2.1 = true then (d.1.length + 2) / 2 else 0)
def Bof (l : Aaz) : Int := (l.map Bs1).sum
def A75 (data : Aaz) (ops : OpL) (procs labels : Int) : Bool :=
 decide (40000 < ops.length) || decide (2000 < data.length) || decide (200 < procs) || decide (20000 < labels) || decide (7800 < Bof data)
def A76 (l : Aaz) : Prop := ∀ d, d ∈ l → d.1.length ≤ 140737488351232 ∧ d.2.2.length ≤ 140737488351232
theorem Ckb {R : Type} (N : Nat) (data : Aaz) (hd : A76 data) (hl : data.length ≤ 2000) (K : Int → Option R) : ∀ (m k i : Nat) (acc : Int), m < k → i + m = data.length → 0 ≤ acc → acc ≤ i * 281474976710656 →
  Aeg N k acc data data.length i K = K (acc + Bof (data.drop i)) := by
 intro m
 induction m with
 | zero =>
  intro k i acc hk hi _ _
  obtain ⟨k, rfl⟩ : ∃ j, k = j + 1 := ⟨k - 1, by omega⟩
  simp only [Aeg, Au3]
  rw [if_neg (by simp; omega), List.drop_eq_nil_of_le (by omega)]
  simp [Bof]
 | succ m ih0 =>
  intro k i acc hk hi h0 ha
  obtain ⟨k, rfl⟩ : ∃ j, k = j + 1 := ⟨k - 1, by omega⟩
  simp only [Aeg, Au3]
  have hin : (0 : Int) ≤ i ∧ (i : Int) < len data := by simp only [len]; omega
  rw [if_pos (by simp; omega), if_pos hin]
  have hlt : i < data.length := by omega
  have hdr : data.drop i = data[i] :: data.drop (i + 1) := List.drop_eq_getElem_cons hlt
  have hg : data.getD (Int.toNat (i : Int)) (([] : List UInt8), (false, ([] : List Int))) = data[i] := by
   rw [List.getD_eq_getElem?_getD]; simp [hlt]
  have hb := hd data[i] (List.getElem_mem hlt)
  rw [hg, hdr]
  generalize data[i] = d at hb
  have hw : wi ((i : Int) + 1) = ((i + 1 : Nat) : Int) := by simp only [wi]; rw [w64 (by omega)]; rfl
  have h1 : wi (acc + ((d.2.2.length : Nat) : Int)) = acc + d.2.2.length := by simp only [wi]; rw [w64 (by omega)]
  have h2 : wi (((d.1.length : Nat) : Int) + 2) = d.1.length + 2 := by simp only [wi]; rw [w64 (by omega)]
  have h3 : wi (Int.tdiv (((d.1.length : Nat) : Int) + 2) 2) = (d.1.length + 2) / 2 := by
   rw [Int.tdiv_eq_ediv_of_nonneg (by omega)]; simp only [wi]; rw [w64 (by omega)]
  have h4 : wi (acc + ((d.2.2.length : Nat) : Int) + ((d.1.length : Int) + 2) / 2) = acc + d.2.2.length + (d.1.length + 2) / 2 := by simp only [wi]; rw [w64 (by omega)]
  rw [hw, h1, h2, h3, h4]
  have ih := fun acc' h h' => ih0 k (i + 1) acc' (by omega) (by omega) h h'
  by_cases ht : d.2.1 = true
  ·rw [if_pos ht, ih _ (by omega) (by omega)]
   simp only [Bof, List.map_cons, List.sum_cons, Bs1, if_pos ht]
   congr 1; omega
  ·rw [if_neg ht, ih _ (by omega) (by omega)]
   simp only [Bof, List.map_cons, List.sum_cons, Bs1, if_neg ht]
   congr 1; omega
theorem B6s {R : Type} (N : Nat) (nm : List UInt8) (data : Aaz) (ops : OpL) (gl : Abq) (procs labels : Int) (hd : A76 data) (hN : 2000 < N) (K : Bool → Option R) :
  Ajn N nm data ops gl procs labels K = K (A75 data ops procs labels) := by
 simp only [Ajn, Bbt, A75, len]
 by_cases h1 : (ops.length : Int) > 40000
 ·rw [if_pos (by simpa using h1)]; simp [show 40000 < ops.length by omega]
 rw [if_neg (by simpa using h1)]
 by_cases h2 : (data.length : Int) > 2000
 ·rw [if_pos (by simpa using h2)]; simp [show 2000 < data.length by omega]
 rw [if_neg (by simpa using h2)]
 by_cases h3 : procs > 200
 ·rw [if_pos (by simpa using h3)]; simp [show 200 < procs by omega]
 rw [if_neg (by simpa using h3)]
 by_cases h4 : labels > 20000
 ·rw [if_pos (by simpa using h4)]; simp [show 20000 < labels by omega]
 rw [if_neg (by simpa using h4)]
 have := Ckb N data hd (by omega) (fun a => K (decide (a > 7800))) data.length N 0 0 (by omega) (by omega) (by omega) (by omega)
 rw [show ((0 : Nat) : Int) = 0 from rfl] at this
 rw [this]
 simp [show ¬ 40000 < ops.length by omega, show ¬ 2000 < data.length by omega, show ¬ 200 < procs by omega, show ¬ 20000 < labels by omega]
theorem Cev {R : Type} (N : Nat) (nm : List UInt8) (data : Aaz) (ops : OpL) (gl : Abq) (procs labels : Int) (hd : A76 data) (hl : data.length ≤ 2000) (K : Int → Option R) : ∀ (m k i : Nat) (acc : Int), m < k → i + m = data.length → 0 ≤ acc → acc ≤ i * 281474976710656 →
  Adp N k acc i nm data ops gl procs labels K = K (acc + Bof (data.drop i)) := by
 intro m
 induction m with
 | zero =>
  intro k i acc hk hi _ _
  obtain ⟨k, rfl⟩ : ∃ j, k = j + 1 := ⟨k - 1, by omega⟩
  simp only [Adp, Asf]
  rw [if_neg (by simp [len]; omega), List.drop_eq_nil_of_le (by omega)]
  simp [Bof]
 | succ m ih0 =>
  intro k i acc hk hi h0 ha
  obtain ⟨k, rfl⟩ : ∃ j, k = j + 1 := ⟨k - 1, by omega⟩
  simp only [Adp, Asf]
  have hin : (0 : Int) ≤ i ∧ (i : Int) < len data := by simp only [len]; omega
  rw [if_pos (by simp [len]; omega), if_pos hin, if_pos hin, if_pos hin]
  have hlt : i < data.length := by omega
  have hdr : data.drop i = data[i] :: data.drop (i + 1) := List.drop_eq_getElem_cons hlt
  have hg : data.getD (Int.toNat (i : Int)) (([] : List UInt8), (false, ([] : List Int))) = data[i] := by
   rw [List.getD_eq_getElem?_getD]; simp [hlt]
  have hb := hd data[i] (List.getElem_mem hlt)
  rw [hg, hdr]
  generalize data[i] = d at hb
  have hw : wi ((i : Int) + 1) = ((i + 1 : Nat) : Int) := by simp only [wi]; rw [w64 (by omega)]; rfl
  have h1 : wi (acc + ((d.2.2.length : Nat) : Int)) = acc + d.2.2.length := by simp only [wi]; rw [w64 (by omega)]
  have h2 : wi (((d.1.length : Nat) : Int) + 2) = d.1.length + 2 := by simp only [wi]; rw [w64 (by omega)]
  have h3 : wi (Int.tdiv (((d.1.length : Nat) : Int) + 2) 2) = (d.1.length + 2) / 2 := by
   rw [Int.tdiv_eq_ediv_of_nonneg (by omega)]; simp only [wi]; rw [w64 (by omega)]
  have h4 : wi (acc + ((d.2.2.length : Nat) : Int) + ((d.1.length : Int) + 2) / 2) = acc + d.2.2.length + (d.1.length + 2) / 2 := by simp only [wi]; rw [w64 (by omega)]
  rw [hw, h1, h2, h3, h4]
  have ih := fun acc' h h' => ih0 k (i + 1) acc' (by omega) (by omega) h h'
  by_cases ht : d.2.1 = true
  ·rw [if_pos ht, ih _ (by omega) (by omega)]
   simp only [Bof, List.map_cons, List.sum_cons, Bs1, if_pos ht]
   congr 1; omega
  ·rw [if_neg ht, ih _ (by omega) (by omega)]
   simp only [Bof, List.map_cons, List.sum_cons, Bs1, if_neg ht]
   congr 1; omega
theorem Bzs {R : Type} (N : Nat) (nm : List UInt8) (data : Aaz) (ops : OpL) (gl : Abq) (procs labels : Int) (hd : A76 data) (hN : 2000 < N) (K : Bool → Option R) :
  Afp N nm data ops gl procs labels K = K (A75 data ops procs labels) := by
 simp only [Afp, A65, A75, len]
 by_cases h1 : (ops.length : Int) > 40000
 ·rw [if_pos (by simpa using h1)]; simp [show 40000 < ops.length by omega]
 rw [if_neg (by simpa using h1)]
 by_cases h2 : (data.length : Int) > 2000
 ·rw [if_pos (by simpa using h2)]; simp [show 2000 < data.length by omega]
 rw [if_neg (by simpa using h2)]
 by_cases h3 : procs > 200
 ·rw [if_pos (by simpa using h3)]; simp [show 200 < procs by omega]
 rw [if_neg (by simpa using h3)]
 by_cases h4 : labels > 20000
 ·rw [if_pos (by simpa using h4)]; simp [show 20000 < labels by omega]
 rw [if_neg (by simpa using h4)]
 have := Cev N nm data ops gl procs labels hd (by omega) (fun a => K (decide (a > 7800))) data.length N 0 0 (by omega) (by omega) (by omega) (by omega)
 rw [show ((0 : Nat) : Int) = 0 from rfl] at this
 rw [this]
 simp [show ¬ 40000 < ops.length by omega, show ¬ 2000 < data.length by omega, show ¬ 200 < procs by omega, show ¬ 20000 < labels by omega]
theorem Ahb {α : Type} (l : List α) (d : α) {i : Nat} (h : i < l.length) : l.getD (Int.toNat (i : Int)) d = l[i] := by
 rw [List.getD_eq_getElem?_getD]; simp [h]
theorem Acm {i : Nat} (h : i < 4611686018427387904) : wi ((i : Int) + 1) = ((i + 1 : Nat) : Int) := by
 simp only [wi]; rw [w64 (by omega)]; rfl
theorem exk {k m : Nat} (h : m < k) : ∃ j, k = j + 1 := ⟨k - 1, by omega⟩
theorem Cgf {R : Type} (N : Nat) (s : List UInt8) (hs : s.length ≤ 1099511627776) (a : List UInt8 → Int → Option R) (d : List UInt8 → List UInt8 → Option R) : ∀ (m k i : Nat) (b : List UInt8), m < k → i + m = s.length → b.length ≤ 1 + 2 * i →
  ∃ b', b'.length ≤ 1 + 2 * s.length ∧ Aeq N k s b i a d = if (s.drop i).any As8 then a [] 3 else d s b' := by
 intro m
 induction m with
 | zero =>
  intro k i b hk hi hb
  obtain ⟨k, rfl⟩ := exk hk
  refine ⟨b, by omega, ?_⟩
  simp only [Aeq, Ayd]
  rw [if_neg (by simp [len]; omega), List.drop_eq_nil_of_le (by omega)]
  simp
 | succ m ih =>
  intro k i b hk hi hb
  obtain ⟨k, rfl⟩ := exk hk
  have hlt : i < s.length := by omega
  have hin : (0 : Int) ≤ i ∧ (i : Int) < len s := by simp only [len]; omega
  have hd : s.drop i = s[i] :: s.drop (i + 1) := List.drop_eq_getElem_cons hlt
  have hany : (s.drop i).any As8 = (As8 s[i] || (s.drop (i + 1)).any As8) := by rw [hd, List.any_cons]
  have hsub : List.drop (Int.toNat (i : Int)) (List.take (Int.toNat ((i + 1 : Nat) : Int)) s) = [s[i]] := by
   simp only [Int.toNat_natCast]
   rw [List.drop_take, show i + 1 - i = 1 by omega, hd]; rfl
  have hcut : ∀ {S : Type} (x y : S), (if (0 : Int) ≤ ((i + 1 : Nat) : Int) ∧ ((i + 1 : Nat) : Int) ≤ len s then x else y) = x := fun x y => if_pos (by simp only [len]; omega)
  have hcut2 : ∀ {S : Type} (x y : S), (if (0 : Int) ≤ (i : Int) ∧ (i : Int) ≤ ((i + 1 : Nat) : Int) then x else y) = x := fun x y => if_pos (by omega)
  have go : ∀ b2 : List UInt8, b2.length ≤ 1 + 2 * (i + 1) → As8 s[i] = false → (∃ b', b'.length ≤ 1 + 2 * s.length ∧ Aeq N k s b2 ((i + 1 : Nat) : Int) a d = if (s.drop i).any As8 then a [] 3 else d s b') := by
   intro b2 h2 hq
   obtain ⟨b', h3, h4⟩ := ih k (i + 1) b2 (by omega) (by omega) h2
   exact ⟨b', h3, by rw [h4, hany, hq, Bool.false_or]⟩
  simp only [Aeq, Ayd]
  rw [if_pos (by simp [len]; omega), if_pos hin, Ahb _ _ hlt, Acm (by omega), hsub]
  simp only [hcut, hcut2]
  generalize hc : s[i] = c at *
  have hcl := c.toNat_lt
  have toc : ∀ n : Nat, n < 256 → (((c.toNat : Int) == (n : Int)) = true ↔ c = UInt8.ofNat n) := by
   intro n hn
   rw [beq_iff_eq]
   constructor
   ·intro h
    have : c.toNat = n := by omega
    rw [← this]; simp
   ·intro h; subst h; simp [UInt8.toNat_ofNat']; omega
  have t10 : (((c.toNat : Nat) : Int) == 10) = true ↔ c = 10 := toc 10 (by decide)
  have t9 : (((c.toNat : Nat) : Int) == 9) = true ↔ c = 9 := toc 9 (by decide)
  have t42 : (((c.toNat : Nat) : Int) == 42) = true ↔ c = 42 := toc 42 (by decide)
  have t34 : (((c.toNat : Nat) : Int) == 34) = true ↔ c = 34 := toc 34 (by decide)
  by_cases h1 : c = 10
  ·rw [if_pos (t10.2 h1), if_pos (by omega)]
   exact go _ (by simp; omega) (by subst h1; rfl)
  rw [if_neg (fun h => h1 (t10.1 h))]
  by_cases h2 : c = 9
  ·rw [if_pos (t9.2 h2), if_pos (by omega)]
   exact go _ (by simp; omega) (by subst h2; rfl)
  rw [if_neg (fun h => h2 (t9.1 h))]
  by_cases h3 : c = 42
  ·rw [if_pos (t42.2 h3), if_pos (by simp), if_pos (by simp; omega)]
   exact go _ (by simp; omega) (by subst h3; rfl)
  rw [if_neg (fun h => h3 (t42.1 h))]
  by_cases h4 : c = 34
  ·rw [if_pos (t34.2 h4), if_pos (by simp), if_pos (by simp; omega)]
   exact go _ (by simp; omega) (by subst h4; rfl)
  rw [if_neg (fun h => h4 (t34.1 h))]
  have hq : Boe c = false := by simp [Boe, h1, h2, h3, h4]
  by_cases h5 : c.toNat < 32
  ·rw [if_pos (by simp; omega)]
   exact ⟨b, by omega, by rw [hany]; simp [As8, hq, h5]⟩
  rw [if_neg (by simp; omega)]
  by_cases h6 : 126 < c.toNat
  ·rw [if_pos (by simp; omega)]
   exact ⟨b, by omega, by rw [hany]; simp [As8, hq, h6]⟩
  rw [if_neg (by simp; omega), if_pos (by simp; omega)]
  exact go _ (by simp; omega) (by simp [As8, hq, h5, h6])
theorem Bm4 (N : Nat) (s : List UInt8) (hs : s.length ≤ 1099511627776) (hN : s.length < N) {R : Type} (K : List UInt8 → Int → Option R) : ∃ r, Acr N s K = K r (Aq3 s) := by
 simp only [Acr, Bcp]
 obtain ⟨b', h1, h2⟩ := Cgf N s hs (fun c d => K c d) (fun e a => if (decide (len e > 100)) = true then K [] 2 else if a.length + 1 ≤ 70368744177664 then K (a ++ [34]) 0 else none) s.length N 0 [34] hN (by omega) (by simp)
 rw [show ((0 : Nat) : Int) = 0 from rfl] at h2
 rw [h2]
 simp only [List.drop_zero, Aq3]
 by_cases h3 : s.any As8 = true
 ·exact ⟨[], by simp only [if_pos h3]⟩
 simp only [if_neg h3]
 by_cases h4 : 100 < s.length
 ·exact ⟨[], by rw [if_pos (by simp [len]; omega), if_pos h4]⟩
 ·exact ⟨b' ++ [34], by rw [if_neg (by simp [len]; omega), if_neg h4, if_pos (by omega)]⟩
def Bej (d : List UInt8 × Bool × List Int) : Bool :=
 if d.2.1 = true then Aq3 d.1 == 0 && d.2.2.length == 0 else d.1 == ([] : List UInt8) && d.2.2.length != 0 && d.2.2.all Aja
def Bm5 (l : Aaz) : Prop := ∀ d, d ∈ l → d.1.length ≤ 1099511627776 ∧ d.2.2.length ≤ 1099511627776
theorem Clt {R : Type} (N : Nat) (v : Int) (K : Bool → Option R) : Afo N v K = K (!Aja v) := by
 simp only [Afo, A6h, Bp2]
theorem Clu {R : Type} (N : Nat) (l : List Int) (hl : l.length ≤ 1099511627776) (a : Int → Option R) (b : Option R) : ∀ (m k i : Nat), m < k → i + m = l.length →
  ∃ j : Nat, Aa7 N k l l.length i a b = if (l.drop i).all Aja then b else a j := by
 intro m
 induction m with
 | zero =>
  intro k i hk hi
  obtain ⟨k, rfl⟩ := exk hk
  refine ⟨0, ?_⟩
  simp only [Aa7, Ak0]
  rw [if_neg (by simp; omega), List.drop_eq_nil_of_le (by omega)]
  simp
 | succ m ih =>
  intro k i hk hi
  obtain ⟨k, rfl⟩ := exk hk
  have hlt : i < l.length := by omega
  have hin : (0 : Int) ≤ i ∧ (i : Int) < len l := by simp only [len]; omega
  have hd : l.drop i = l[i] :: l.drop (i + 1) := List.drop_eq_getElem_cons hlt
  simp only [Aa7, Ak0]
  rw [if_pos (by simp; omega), if_pos hin, Ahb _ _ hlt, Clt, Acm (by omega)]
  obtain ⟨j, hj⟩ := ih k (i + 1) (by omega) (by omega)
  rw [hj, hd, List.all_cons]
  by_cases h : Aja l[i] = true
  ·exact ⟨j, by simp [h]⟩
  ·exact ⟨i, by simp [h]⟩
theorem Cgg {R : Type} (N : Nat) (l : List Int) (hl : l.length ≤ 1099511627776) (hN : l.length < N) (K : Bool → Option R) : Aa0 N l K = K (!l.all Aja) := by
 simp only [Aa0, Anc, Adl, Ao7, len]
 obtain ⟨j, hj⟩ := Clu N l hl (fun a => K (decide (a ≥ 0))) (K (decide ((-1 : Int) ≥ 0))) l.length N 0 hN (by omega)
 rw [show ((0 : Nat) : Int) = 0 from rfl] at hj
 rw [hj, List.drop_zero]
 by_cases h : l.all Aja = true
 ·simp [h]
 ·have h' : l.all Aja = false := by simpa using h
  simp only [h', Bool.false_eq_true, if_false, Bool.not_false]
  congr 1
theorem Cgh {R : Type} (N : Nat) (data : Aaz) (hd : Bm5 data) (hl : data.length ≤ 2000) (hN : ∀ d, d ∈ data → d.1.length < N ∧ d.2.2.length < N) (nm : List UInt8) (dat : Aaz) (ops : OpL) (gl : Abq) (procs labels : Int) (a : Bool → Option R) (b : List UInt8 → Aaz → OpL → Abq → Int → Int → Option R) :
  ∀ (m k i : Nat), m < k → i + m = data.length →
  Ad1 N k data data.length i nm dat ops gl procs labels a b = if (data.drop i).all Bej then b nm dat ops gl procs labels else a false := by
 intro m
 induction m with
 | zero =>
  intro k i hk hi
  obtain ⟨k, rfl⟩ := exk hk
  simp only [Ad1, Axw]
  rw [if_neg (by simp; omega), List.drop_eq_nil_of_le (by omega)]
  simp
 | succ m ih =>
  intro k i hk hi
  obtain ⟨k, rfl⟩ := exk hk
  have hlt : i < data.length := by omega
  have hin : (0 : Int) ≤ i ∧ (i : Int) < len data := by simp only [len]; omega
  have hdr : data.drop i = data[i] :: data.drop (i + 1) := List.drop_eq_getElem_cons hlt
  simp only [Ad1, Axw]
  rw [if_pos (by simp; omega), if_pos hin, Ahb _ _ hlt, Acm (by omega), ih k (i + 1) (by omega) (by omega), hdr, List.all_cons]
  have h1 := hd data[i] (List.getElem_mem hlt)
  have h2 := hN data[i] (List.getElem_mem hlt)
  generalize data[i] = d at h1 h2
  by_cases ht : d.2.1 = true
  ·rw [if_pos ht]
   obtain ⟨r, hr⟩ := Bs0 N d.1 h1.1 h2.1
   rw [hr]
   simp only [Bej, if_pos ht, len]
   by_cases hq : Aq3 d.1 = 0
   ·have hq' : (Aq3 d.1 != 0) = false := by simp [hq]
    have hq2 : (Aq3 d.1 == 0) = true := by simp [hq]
    rw [hq', hq2]
    by_cases hw : d.2.2.length = 0
    ·have e1 : (d.2.2.length == 0) = true := by simp [hw]
     have e2 : decide (((d.2.2.length : Nat) : Int) > 0) = false := by simp [hw]
     simp only [e1, e2, Bool.false_eq_true, if_false, if_true, Bool.true_and, Bool.and_true, Bool.false_and, Bool.and_false, Bool.not_true, Bool.not_false]
    ·have e1 : (d.2.2.length == 0) = false := by simp [hw]
     have e2 : decide (((d.2.2.length : Nat) : Int) > 0) = true := by simp; omega
     simp only [e1, e2, Bool.false_eq_true, if_false, if_true, Bool.true_and, Bool.and_true, Bool.false_and, Bool.and_false, Bool.not_true, Bool.not_false]
   ·have hq' : (Aq3 d.1 != 0) = true := by simp [hq]
    have hq2 : (Aq3 d.1 == 0) = false := by simp [hq]
    rw [hq', hq2]
    simp only [Bool.false_eq_true, if_false, if_true, Bool.true_and, Bool.and_true, Bool.false_and, Bool.and_false, Bool.not_true, Bool.not_false]
  ·rw [if_neg ht]
   simp only [Bej, if_neg ht, len]
   by_cases hq : (d.1 == ([] : List UInt8)) = true
   ·rw [hq]
    by_cases hw : d.2.2.length = 0
    ·have e1 : (((d.2.2.length : Nat) : Int) == 0) = true := by simp [hw]
     have e2 : (d.2.2.length != 0) = false := by simp [hw]
     simp only [e1, e2, Bool.false_eq_true, if_false, if_true, Bool.true_and, Bool.and_true, Bool.false_and, Bool.and_false, Bool.not_true, Bool.not_false]
    ·have hw' : (((d.2.2.length : Nat) : Int) == 0) = false := by
      rw [beq_eq_false_iff_ne]; omega
     have hw2 : (d.2.2.length != 0) = true := by simp [hw]
     rw [hw', hw2, Cgg N d.2.2 h1.2 h2.2]
     by_cases ha : d.2.2.all Aja = true
     ·simp only [ha, Bool.false_eq_true, if_false, if_true, Bool.true_and, Bool.and_true, Bool.false_and, Bool.and_false, Bool.not_true, Bool.not_false]
     ·have ha' : d.2.2.all Aja = false := by simpa using ha
      simp only [ha', Bool.false_eq_true, if_false, if_true, Bool.true_and, Bool.and_true, Bool.false_and, Bool.and_false, Bool.not_true, Bool.not_false]
   ·have hq' : (d.1 == ([] : List UInt8)) = false := by simpa using hq
    rw [hq']; simp only [Bool.false_eq_true, if_false, if_true, Bool.true_and, Bool.and_true, Bool.false_and, Bool.and_false, Bool.not_true, Bool.not_false]
theorem Ckc {R : Type} (N : Nat) (i0 : Int) (nm : List UInt8) (dat : Aaz) (ops : OpL) (gl : Abq) (procs labels : Int) (tx : List UInt8) (is : Bool) (l : List Int) (hl : l.length ≤ 1099511627776) (a : Bool → Option R) (b : Int → List UInt8 → Aaz → OpL → Abq → Int → Int → Option R) : ∀ (m k i : Nat), m < k → i + m = l.length →
  Ab3 N k i0 i nm dat ops gl procs labels tx is l a b = if (l.drop i).all Aja then b i0 nm dat ops gl procs labels else a false := by
 intro m
 induction m with
 | zero =>
  intro k i hk hi
  obtain ⟨k, rfl⟩ := exk hk
  simp only [Ab3, Avk]
  rw [if_neg (by simp [len]; omega), List.drop_eq_nil_of_le (by omega)]
  simp
 | succ m ih =>
  intro k i hk hi
  obtain ⟨k, rfl⟩ := exk hk
  have hlt : i < l.length := by omega
  have hin : (0 : Int) ≤ i ∧ (i : Int) < len l := by simp only [len]; omega
  have hd : l.drop i = l[i] :: l.drop (i + 1) := List.drop_eq_getElem_cons hlt
  simp only [Ab3, Avk]
  rw [if_pos (by simp [len]; omega), if_pos hin, Ahb _ _ hlt, Aoe, Acm (by omega), ih k (i + 1) (by omega) (by omega), hd, List.all_cons]
  have hw : inB l[i] (-2147483648) 2147483647 = Aja l[i] := rfl
  rw [hw]
  by_cases h : Aja l[i] = true
  ·simp only [h, Bool.not_true, Bool.false_eq_true, if_false, Bool.true_and]
  ·have h' : Aja l[i] = false := by simpa using h
   simp only [h', Bool.not_false, if_true, Bool.false_and, Bool.false_eq_true, if_false]
theorem Cgi {R : Type} (N : Nat) (data : Aaz) (hd : Bm5 data) (hl : data.length ≤ 2000) (hN : ∀ d, d ∈ data → d.1.length < N ∧ d.2.2.length < N) (nm : List UInt8) (ops : OpL) (gl : Abq) (procs labels : Int) (a : Bool → Option R) (b : List UInt8 → Aaz → OpL → Abq → Int → Int → Option R) :
  ∀ (m k i : Nat), m < k → i + m = data.length →
  Ab9 N k i nm data ops gl procs labels a b = if (data.drop i).all Bej then b nm data ops gl procs labels else a false := by
 intro m
 induction m with
 | zero =>
  intro k i hk hi
  obtain ⟨k, rfl⟩ := exk hk
  simp only [Ab9, Ayf]
  rw [if_neg (by simp [len]; omega), List.drop_eq_nil_of_le (by omega)]
  simp
 | succ m ih =>
  intro k i hk hi
  obtain ⟨k, rfl⟩ := exk hk
  have hlt : i < data.length := by omega
  have hin : (0 : Int) ≤ i ∧ (i : Int) < len data := by simp only [len]; omega
  have hdr : data.drop i = data[i] :: data.drop (i + 1) := List.drop_eq_getElem_cons hlt
  simp only [Ab9, Ayf]
  rw [if_pos (by simp [len]; omega), if_pos hin, Ahb _ _ hlt, hdr, List.all_cons]
  have h1 := hd data[i] (List.getElem_mem hlt)
  have h2 := hN data[i] (List.getElem_mem hlt)
  generalize data[i] = d at h1 h2
  by_cases ht : d.2.1 = true
  ·rw [if_pos ht]
   obtain ⟨r, hr⟩ := Bm4 N d.1 h1.1 h2.1 (fun p c => if (c != 0) = true then a false else if (decide (len d.2.2 > 0)) = true then a false else Ab9 N k (wi ((i : Int) + 1)) nm data ops gl procs labels a b)
   rw [hr, Acm (by omega), ih k (i + 1) (by omega) (by omega)]
   simp only [Bej, if_pos ht, len]
   by_cases hq : Aq3 d.1 = 0
   ·have hq' : (Aq3 d.1 != 0) = false := by simp [hq]
    have hq2 : (Aq3 d.1 == 0) = true := by simp [hq]
    rw [hq', hq2]
    by_cases hw : d.2.2.length = 0
    ·have e1 : (d.2.2.length == 0) = true := by simp [hw]
     have e2 : decide (((d.2.2.length : Nat) : Int) > 0) = false := by simp [hw]
     simp only [e1, e2, Bool.false_eq_true, if_false, Bool.true_and]
    ·have e1 : (d.2.2.length == 0) = false := by simp [hw]
     have e2 : decide (((d.2.2.length : Nat) : Int) > 0) = true := by simp; omega
     simp only [e1, e2, Bool.false_eq_true, if_false, if_true, Bool.and_false, Bool.false_and]
   ·have hq' : (Aq3 d.1 != 0) = true := by simp [hq]
    have hq2 : (Aq3 d.1 == 0) = false := by simp [hq]
    rw [hq', hq2]
    simp only [if_true, Bool.false_and, Bool.false_eq_true, if_false]
  ·rw [if_neg ht]
   simp only [Bej, if_neg ht, len]
   by_cases hq : (d.1 == ([] : List UInt8)) = true
   ·rw [hq]
    by_cases hw : d.2.2.length = 0
    ·have e1 : (((d.2.2.length : Nat) : Int) == 0) = true := by simp [hw]
     have e2 : (d.2.2.length != 0) = false := by simp [hw]
     simp only [e1, e2, Bool.not_true, Bool.false_eq_true, if_false, if_true, Bool.and_false, Bool.false_and]
    ·have hw' : (((d.2.2.length : Nat) : Int) == 0) = false := by rw [beq_eq_false_iff_ne]; omega
     have hw2 : (d.2.2.length != 0) = true := by simp [hw]
     have hr := Ckc N i nm data ops gl procs labels d.1 d.2.1 d.2.2 h1.2 (fun e => a e) (fun f g h j l n o => Ab9 N k (wi (f + 1)) g h j l n o a b) d.2.2.length N 0 h2.2 (by omega)
     rw [show ((0 : Nat) : Int) = 0 from rfl] at hr
     rw [hw', hw2, hr, List.drop_zero, Acm (by omega), ih k (i + 1) (by omega) (by omega)]
     by_cases ha : d.2.2.all Aja = true
     ·simp only [ha, Bool.not_true, Bool.false_eq_true, if_false, if_true, Bool.true_and]
     ·have ha' : d.2.2.all Aja = false := by simpa using ha
      simp only [ha', Bool.not_true, Bool.false_eq_true, if_false, Bool.and_false, Bool.false_and]
   ·have hq' : (d.1 == ([] : List UInt8)) = false := by simpa using hq
    rw [hq']; simp only [Bool.not_false, if_true, Bool.false_and, Bool.false_eq_true, if_false]
theorem Csw {S : Type} (a b c d : Bool) (x y : S) : (if (!a) = true then y else if b = true then y else if (!c) = true then y else if d = true then x else y) = if (a && !b && c && d) = true then x else y := by
 cases a <;> cases b <;> cases c <;> cases d <;> rfl
def Bk9 (procs : Int) : List Int → Abq → Bool
 | _, [] => true
 | seen, e :: r => inB e.1 1 199 && !seen.contains e.1 && inB e.2 1 procs && Bk9 procs (e.1 :: seen) r
theorem Clv (k k' : Int) (l : List (Int × Bool)) : (A1i (kt := .int .i64) (et := .bool) k (A25 (kt := .int .i64) (et := .bool) k' true l)).getD false = (k == k' || (A1i (kt := .int .i64) (et := .bool) k l).getD false) := by
 induction l with
 | nil =>
  simp only [A25, A1i, Ty.beq]
  cases h : (k == k') <;> simp
 | cons x l ih =>
  obtain ⟨a, b⟩ := x
  simp only [A25, Ty.beq]
  cases h1 : (k' == a) with
  | true =>
   have := beq_iff_eq.1 h1
   subst this
   simp only [A1i, Ty.beq]
   cases h : (k == k') <;> simp
  | false =>
   simp only [A1i, Ty.beq]
   cases h2 : (k == a) with
   | true =>
    have := beq_iff_eq.1 h2
    subst this
    have : (k == k') = false := by
     rw [beq_eq_false_iff_ne] at h1 ⊢
     exact fun h => h1 h.symm
    simp [this]
   | false => simpa using ih
theorem Cn8 {R : Type} (N : Nat) (gl : Abq) (hl : gl.length ≤ 1099511627776) (nm : List UInt8) (dat : Aaz) (ops : OpL) (gl2 : Abq) (procs labels : Int) (a : Bool → Option R) (b : Option R) :
  ∀ (m k i : Nat) (seen : List Int) (mp : List (Int × Bool)), m < k → i + m = gl.length → (∀ x, (A1i (kt := .int .i64) (et := .bool) x mp).getD false = seen.contains x) →
  Ade N k gl gl.length i nm dat ops gl2 procs labels mp a b = if Bk9 procs seen (gl.drop i) then b else a false := by
 intro m
 induction m with
 | zero =>
  intro k i seen mp hk hi hm
  obtain ⟨k, rfl⟩ := exk hk
  simp only [Ade, Au8]
  rw [if_neg (by simp; omega), List.drop_eq_nil_of_le (by omega)]
  simp [Bk9]
 | succ m ih =>
  intro k i seen mp hk hi hm
  obtain ⟨k, rfl⟩ := exk hk
  have hlt : i < gl.length := by omega
  have hin : (0 : Int) ≤ i ∧ (i : Int) < len gl := by simp only [len]; omega
  have hd : gl.drop i = gl[i] :: gl.drop (i + 1) := List.drop_eq_getElem_cons hlt
  simp only [Ade, Au8]
  rw [if_pos (by simp; omega), if_pos hin, Ahb _ _ hlt, Aw9, Aw9, Acm (by omega), hd]
  rw [ih k (i + 1) (gl[i].1 :: seen) _ (by omega) (by omega) (fun x => by rw [Clv, hm, List.contains_cons])]
  rw [hm]
  simp only [Bk9]
  exact Csw _ _ _ _ _ _
theorem Cn9 {R : Type} (N : Nat) (i : Nat) (nm : List UInt8) (dat : Aaz) (ops : OpL) (gl : Abq) (procs labels g1 g2 : Int) (hl : gl.length ≤ 1099511627776) (hi : i ≤ gl.length) (a : Bool → Option R) (b : Int → List UInt8 → Aaz → OpL → Abq → Int → Int → Option R) :
  ∀ (m k j : Nat), m < k → j + m = i →
  Ab4 N k i j nm dat ops gl procs labels g1 g2 a b = if ((gl.take i).drop j).any (fun e => e.1 == g1) then a false else b i nm dat ops gl procs labels := by
 intro m
 induction m with
 | zero =>
  intro k j hk hj
  obtain ⟨k, rfl⟩ := exk hk
  simp only [Ab4, Avl]
  rw [if_neg (by simp; omega), List.drop_eq_nil_of_le (by simp; omega)]
  simp
 | succ m ih =>
  intro k j hk hj
  obtain ⟨k, rfl⟩ := exk hk
  have hlt : j < gl.length := by omega
  have hin : (0 : Int) ≤ j ∧ (j : Int) < len gl := by simp only [len]; omega
  have hlt2 : j < (gl.take i).length := by simp; omega
  have hd : (gl.take i).drop j = gl[j] :: (gl.take i).drop (j + 1) := by
   rw [List.drop_eq_getElem_cons hlt2]; simp
  simp only [Ab4, Avl]
  rw [if_pos (by simp; omega), if_pos hin, Ahb _ _ hlt, Acm (by omega), ih k (j + 1) (by omega) (by omega), hd, List.any_cons]
  by_cases h : (gl[j].1 == g1) = true
  ·simp only [h, if_true, Bool.true_or]
  ·have h' : (gl[j].1 == g1) = false := by simpa using h
   simp only [h', Bool.false_eq_true, if_false, Bool.false_or]
theorem Cp7 {S : Type} (a b c d : Bool) (x y : S) : (if (!a) = true then y else if (!c) = true then y else if b = true then y else if d = true then x else y) = if (a && !b && c && d) = true then x else y := by
 cases a <;> cases b <;> cases c <;> cases d <;> rfl
theorem Clw {R : Type} (N : Nat) (gl : Abq) (hl : gl.length < N) (hl2 : gl.length ≤ 1099511627776) (nm : List UInt8) (dat : Aaz) (ops : OpL) (procs labels : Int) (a : Bool → Option R) (b : List UInt8 → Aaz → OpL → Abq → Int → Int → Option R) :
  ∀ (m k i : Nat) (seen : List Int), m < k → i + m = gl.length → (∀ x, (gl.take i).any (fun e => e.1 == x) = seen.contains x) →
  Abn N k i nm dat ops gl procs labels a b = if Bk9 procs seen (gl.drop i) then b nm dat ops gl procs labels else a false := by
 intro m
 induction m with
 | zero =>
  intro k i seen hk hi hm
  obtain ⟨k, rfl⟩ := exk hk
  simp only [Abn, Avm]
  rw [if_neg (by simp [len]; omega), List.drop_eq_nil_of_le (by omega)]
  simp [Bk9]
 | succ m ih =>
  intro k i seen hk hi hm
  obtain ⟨k, rfl⟩ := exk hk
  have hlt : i < gl.length := by omega
  have hin : (0 : Int) ≤ i ∧ (i : Int) < len gl := by simp only [len]; omega
  have hd : gl.drop i = gl[i] :: gl.drop (i + 1) := List.drop_eq_getElem_cons hlt
  simp only [Abn, Avm]
  rw [if_pos (by simp [len]; omega), if_pos hin, Ahb _ _ hlt, Aoe, Aoe]
  have hdup := Cn9 N i nm dat ops gl procs labels gl[i].1 gl[i].2 hl2 (by omega) (fun c => a c) (fun d f g h j l n => Abn N k (wi (d + 1)) f g h j l n a b) i N 0 (by omega) (by omega)
  rw [show ((0 : Nat) : Int) = 0 from rfl] at hdup
  rw [hdup, List.drop_zero, Acm (by omega), hm, hd]
  rw [ih k (i + 1) (gl[i].1 :: seen) (by omega) (by omega) (fun x => by
   rw [List.take_succ_eq_append_getElem hlt, List.any_append, hm, List.contains_cons]
   simp only [List.any_cons, List.any_nil, Bool.or_false]
   rw [Bool.or_comm]
   congr 1
   exact BEq.comm)]
  simp only [Bk9]
  exact Cp7 _ _ _ _ _ _
def Bh1 (data : Aaz) (gl : Abq) (procs : Int) : Bool := data.all Bej && Bk9 procs [] gl
theorem B6t {R : Type} (N : Nat) (nm : List UInt8) (data : Aaz) (ops : OpL) (gl : Abq) (procs labels : Int) (hd : Bm5 data) (hl : data.length ≤ 2000) (hN : ∀ d, d ∈ data → d.1.length < N ∧ d.2.2.length < N) (hN2 : 2000 < N) (hg : gl.length < N) (hg2 : gl.length ≤ 1099511627776) (K : Bool → Option R) :
  Aek N nm data ops gl procs labels K = K (Bh1 data gl procs) := by
 simp only [Aek, Bb4, len]
 have h1 := Cgh N data hd hl hN nm data ops gl procs labels (fun c => K c) (fun e f g a h i => Ade N N a ((a.length : Nat) : Int) 0 e f g a h i [] (fun b => K b) (K true)) data.length N 0 (by omega) (by omega)
 have h2 := Cn8 N gl hg2 nm data ops gl procs labels (fun b => K b) (K true) gl.length N 0 [] [] hg (by omega) (fun x => rfl)
 rw [show ((0 : Nat) : Int) = 0 from rfl] at h1 h2
 rw [h1, List.drop_zero]
 simp only [h2, List.drop_zero, Bh1]
 cases data.all Bej <;> cases Bk9 procs [] gl <;> rfl
theorem B6u {R : Type} (N : Nat) (nm : List UInt8) (data : Aaz) (ops : OpL) (gl : Abq) (procs labels : Int) (hd : Bm5 data) (hl : data.length ≤ 2000) (hN : ∀ d, d ∈ data → d.1.length < N ∧ d.2.2.length < N) (hN2 : 2000 < N) (hg : gl.length < N) (hg2 : gl.length ≤ 1099511627776) (hn : nm.length < N) (hn2 : nm.length ≤ 1099511627776) (K : Bool → Option R) :
  Ahg N nm data ops gl procs labels K = K (Bh1 data gl procs && Aq3 nm == 0) := by
 simp only [Ahg, Bcr]
 have h1 := Cgi N data hd hl hN nm ops gl procs labels (fun f => K f) (fun g h i j l m => Abn N N 0 g h i j l m (fun b => K b) fun c n o p q s => Acr N c fun e a => K (a == 0)) data.length N 0 (by omega) (by omega)
 have h2 := Clw N gl hg hg2 nm data ops procs labels (fun b => K b) (fun c n o p q s => Acr N c fun e a => K (a == 0)) gl.length N 0 [] hg (by omega) (fun x => rfl)
 obtain ⟨r, h3⟩ := Bm4 N nm hn2 hn (fun e a => K (a == 0))
 rw [show ((0 : Nat) : Int) = 0 from rfl] at h1 h2
 rw [h1, List.drop_zero]
 simp only [h2, List.drop_zero, Bh1, h3]
 cases data.all Bej <;> cases Bk9 procs [] gl <;> rfl
def Acc (l : OpL) (i : Nat) : Int × Int × Int := l.getD i (0, 0, 0)
def Ag8 (op : Int) : Bool := op != 20 && op != 25 && op != 26 && op != 27 && op != 29 && op != 30
def Adz : OpL → Option Int
 | [] => none
 | o :: _ => some o.1
def A0p (o : Int × Int × Int) (r : OpL) : Bool :=
 (o.1 != 19 || (Adz r == some 18 || Adz r == some 28 || Adz r == some 19)) && (!Ag8 o.1 || (Adz r != none && Adz r != some 24))
def Ae0 : Nat → OpL → Bool
 | c, [] => c == 0
 | c + 1, o :: r => o.1 == 30 && Ae0 c r
 | 0, o :: r => o.1 != 30 && (if o.1 = 29 then Ae0 o.2.2.toNat r else A0p o r && Ae0 0 r)
def Ane (c : Nat) (s : OpL) : Bool := decide (c ≤ s.length) && (s.take c).all fun o => o.1 == 30
theorem B3e : ∀ (c : Nat) (s : OpL), Ae0 c s = (Ane c s && Ae0 0 (s.drop c))
 | 0, s => by simp [Ane]
 | c + 1, [] => by simp [Ane, Ae0]
 | c + 1, o :: r => by
  have h : Ane (c + 1) (o :: r) = (o.1 == 30 && Ane c r) := by
   simp only [Ane, List.length_cons, List.take_succ_cons, List.all_cons]
   have : decide (c + 1 ≤ r.length + 1) = decide (c ≤ r.length) := by simp
   rw [this]
   cases decide (c ≤ r.length) <;> cases (o.1 == 30) <;> simp
  rw [Ae0, B3e c r, h, List.drop_succ_cons, Bool.and_assoc]
theorem B78 {α : Type} (l : List α) (i j : Nat) (d : α) : (l.drop i).getD j d = l.getD (i + j) d := by
 simp [List.getD_eq_getElem?_getD]
theorem Cgj (l : OpL) (i : Nat) : Adz (l.drop i) = if i < l.length then some (l.getD i (0, 0, 0)).1 else none := by
 by_cases h : i < l.length
 ·rw [if_pos h, List.drop_eq_getElem_cons h]
  simp [Adz, h]
 ·rw [if_neg h, List.drop_eq_nil_of_le (by omega)]; rfl
theorem Clx {R : Type} (N : Nat) (l : OpL) (i M : Nat) (hl : l.length ≤ 1099511627776) (hM : M ≤ 1000) (hi : i < l.length) (a : Bool → Option R) (b : OpL → Int → Option R) :
  ∀ (m k j : Nat), m < k → j + m = M →
  Acu N k l i M j a b = if Ane (M - j) (l.drop (i + 1 + j)) then b l i else a false := by
 intro m
 induction m with
 | zero =>
  intro k j hk hj
  obtain ⟨k, rfl⟩ := exk hk
  simp only [Acu, Au7]
  rw [if_neg (by simp; omega), show M - j = 0 by omega]
  simp [Ane]
 | succ m ih =>
  intro k j hk hj
  obtain ⟨k, rfl⟩ := exk hk
  simp only [Acu, Au7]
  rw [if_pos (by simp; omega), Acm (by omega)]
  have e1 : wi (((i + 1 : Nat) : Int) + (j : Int)) = ((i + 1 + j : Nat) : Int) := by simp only [wi]; rw [w64 (by omega)]; omega
  rw [e1, Acm (by omega)]
  simp only [len]
  by_cases h : i + 1 + j < l.length
  ·rw [if_neg (by simp; omega), if_pos (by omega), Ahb _ _ h, ih k (j + 1) (by omega) (by omega)]
   have hd : l.drop (i + 1 + j) = l[i + 1 + j] :: l.drop (i + 1 + (j + 1)) := List.drop_eq_getElem_cons h
   have hc : Ane (M - j) (l.drop (i + 1 + j)) = (l[i + 1 + j].1 == 30 && Ane (M - (j + 1)) (l.drop (i + 1 + (j + 1)))) := by
    rw [hd, show M - j = (M - (j + 1)) + 1 by omega]
    simp only [Ane, List.length_cons, List.take_succ_cons, List.all_cons]
    have : decide (M - (j + 1) + 1 ≤ (l.drop (i + 1 + (j + 1))).length + 1) = decide (M - (j + 1) ≤ (l.drop (i + 1 + (j + 1))).length) := by simp
    rw [this]
    cases decide (M - (j + 1) ≤ (l.drop (i + 1 + (j + 1))).length) <;> cases (l[i + 1 + j].1 == 30) <;> simp
   rw [hc]
   by_cases h30 : l[i + 1 + j].1 = 30
   ·simp [h30]
   ·have h2 : (l[i + 1 + j].1 == 30) = false := by simpa using h30
    have h3 : (l[i + 1 + j].1 != 30) = true := by simpa using h30
    simp only [h2, h3, if_true, Bool.false_and, Bool.false_eq_true, if_false]
  ·rw [if_pos (by simp; omega)]
   have hc : Ane (M - j) (l.drop (i + 1 + j)) = false := by
    simp only [Ane, Bool.and_eq_false_iff]
    left; simp; omega
   rw [hc]; simp
def As2 (l : OpL) (i : Nat) : Bool :=
 let o := Acc l i
 if o.1 = 20 ∨ o.1 = 25 ∨ o.1 = 26 ∨ o.1 = 27 then true
 else if o.1 = 29 then o.2.2 == 0
 else if o.1 = 30 then decide (i + 1 = l.length) || (Acc l (i + 1)).1 != 30
 else false
theorem Bp3 {R : Type} (N : Nat) (l : OpL) (i : Nat) (hl : l.length ≤ 1099511627776) (hi : i < l.length) (K : Bool → Option R) : Abu N l i K = K (As2 l i) := by
 simp only [Abu, Bfw, Aex, As2, Acc]
 have hin : (0 : Int) ≤ i ∧ (i : Int) < len l := by simp only [len]; omega
 rw [if_pos hin, show Int.toNat (i : Int) = i from by simp]
 obtain ⟨o, ho⟩ : ∃ o, l.getD i (0, 0, 0) = o := ⟨_, rfl⟩
 simp only [ho, if_pos hin]
 by_cases h1 : o.1 = 20
 ·simp [h1]
 by_cases h2 : o.1 = 25
 ·simp [h2]
 by_cases h3 : o.1 = 26
 ·simp [h3]
 by_cases h4 : o.1 = 27
 ·simp [h4]
 rw [if_neg (by simpa using h1), if_neg (by simpa using h2), if_neg (by simpa using h3), if_neg (by simpa using h4), if_neg (show ¬ (o.1 = 20 ∨ o.1 = 25 ∨ o.1 = 26 ∨ o.1 = 27) by omega)]
 by_cases h5 : o.1 = 29
 ·rw [if_pos (by simpa using h5), if_pos h5]
 rw [if_neg (by simpa using h5), if_neg h5]
 by_cases h6 : o.1 = 30
 ·rw [if_pos (by simpa using h6), if_pos h6, Acm (by omega)]
  by_cases h7 : i + 1 = l.length
  ·rw [if_pos (by simp only [len, beq_iff_eq]; omega)]; simp [h7]
  ·rw [if_neg (by simp only [len, beq_iff_eq]; omega), if_pos (by simp only [len]; omega)]
   simp [h7]
 ·rw [if_neg (by simpa using h6), if_neg h6]
theorem B3f {R : Type} (N : Nat) (l : OpL) (i : Nat) (last : Bool) (hl : l.length ≤ 1099511627776) (hi : i < l.length) (hlast : last = decide (i + 1 = l.length)) (a : Bool → Option R) (b : OpL → Int → Option R) :
  Abj N l i last a b = if (last || (Acc l (i + 1)).1 == 24) && !As2 l i then a false else b l i := by
 simp only [Abj, A3q, Bp3 N l i hl hi]
 cases last with
 | true =>
  simp only [if_true, Bool.true_or, Bool.true_and]
 | false =>
  have hne : i + 1 ≠ l.length := by simpa using hlast.symm
  simp only [Bool.false_eq_true, if_false, Bool.false_or]
  rw [Acm (by omega), if_pos (by simp only [len]; omega)]
  have : l.getD (Int.toNat ((i + 1 : Nat) : Int)) (0, 0, 0) = Acc l (i + 1) := by simp [Acc]
  rw [this]
  cases h : ((Acc l (i + 1)).1 == 24) with
  | true => simp only [if_true, Bool.true_and]
  | false => simp only [Bool.false_eq_true, if_false, Bool.false_and]
theorem Bm6 {l : OpL} {i : Nat} (h : i < l.length) : Acc l i = l[i] := by simp [Acc, List.getD_eq_getElem?_getD, h]
theorem Bs2 {l : OpL} {i : Nat} : Adz (l.drop i) = if i < l.length then some (Acc l i).1 else none := by
 rw [Cgj]; rfl
theorem Cly {c : Nat} {s : OpL} (h : Ane c s = true) : c ≤ s.length ∧ ∀ j, j < c → (Acc s j).1 = 30 := by
 simp only [Ane, Bool.and_eq_true, decide_eq_true_eq, List.all_eq_true, beq_iff_eq] at h
 refine ⟨h.1, fun j hj => ?_⟩
 have hjl : j < s.length := by omega
 rw [Bm6 hjl]
 exact h.2 _ (by
  rw [List.mem_take_iff_getElem]
  exact ⟨j, by omega, rfl⟩)
theorem Ckd {R : Type} (N : Nat) (l : OpL) (hl : l.length ≤ 1099511627776) (hN : 1000 < N) (hM : ∀ o, o ∈ l → o.1 = 29 → 0 ≤ o.2.2 ∧ o.2.2 ≤ 1000) (d : Bool → Option R) (e : OpL → Option R) :
  ∀ (k i : Nat), i ≤ l.length → l.length - i < k → Acf N k l i d e = if Ae0 0 (l.drop i) then e l else d false := by
 intro k
 induction k with
 | zero => intro i _ h; omega
 | succ k ih =>
  intro i hi hk
  simp only [Acf, A6e]
  by_cases hlt : i < l.length
  case neg =>
   rw [if_neg (by simp [len]; omega), List.drop_eq_nil_of_le (by omega)]
   simp [Ae0]
  have hin : (0 : Int) ≤ i ∧ (i : Int) < len l := by simp only [len]; omega
  have hd : l.drop i = l[i] :: l.drop (i + 1) := List.drop_eq_getElem_cons hlt
  have hM' := hM l[i] (List.getElem_mem hlt)
  have hoi : Acc l i = l[i] := Bm6 hlt
  rw [if_pos (by simp [len]; omega), if_pos hin, Ahb _ _ hlt, Acm (by omega), hd]
  simp only [if_pos hin]
  obtain ⟨o, ho⟩ : ∃ o, l[i] = o := ⟨_, rfl⟩
  simp only [ho] at hM' hoi ⊢
  by_cases h29 : o.1 = 29
  ·-- a switch
   rw [if_pos (by simpa using h29)]
   obtain ⟨M, hMe⟩ := Int.eq_ofNat_of_zero_le (hM' h29).1
   have hMle : M ≤ 1000 := by have := (hM' h29).2; omega
   have hcl := Clx N l i M hl hMle hlt (fun m => d m) (fun c b =>
    if 0 ≤ b ∧ b < len c then
     if (!wi (wi (b + (List.getD c (Int.toNat b) (0, 0, 0)).2.2) + 1) == len c) = true then
      if 0 ≤ wi (wi (b + (List.getD c (Int.toNat b) (0, 0, 0)).2.2) + 1) ∧ wi (wi (b + (List.getD c (Int.toNat b) (0, 0, 0)).2.2) + 1) < len c then
       if ((List.getD c (Int.toNat (wi (wi (b + (List.getD c (Int.toNat b) (0, 0, 0)).2.2) + 1))) (0, 0, 0)).1 == 30) = true then d false
       else Abj N c (wi (b + (List.getD c (Int.toNat b) (0, 0, 0)).2.2)) (wi (wi (b + (List.getD c (Int.toNat b) (0, 0, 0)).2.2) + 1) == len c) (fun f => d f) fun g j => Acf N k g (wi (j + 1)) d e
      else none
     else Abj N c (wi (b + (List.getD c (Int.toNat b) (0, 0, 0)).2.2)) (wi (wi (b + (List.getD c (Int.toNat b) (0, 0, 0)).2.2) + 1) == len c) (fun n => d n) fun p q => Acf N k p (wi (q + 1)) d e
    else none) M N 0 (by omega) (by omega)
   rw [show ((0 : Nat) : Int) = 0 from rfl] at hcl
   rw [hMe, hcl, Nat.sub_zero, Nat.add_zero]
   have hord : Ae0 0 (o :: l.drop (i + 1)) = (Ane M (l.drop (i + 1)) && Ae0 0 (l.drop (i + 1 + M))) := by
    rw [Ae0, if_pos h29, hMe, Int.toNat_natCast, B3e, List.drop_drop]
    simp [h29]
   rw [hord]
   by_cases hc : Ane M (l.drop (i + 1)) = true
   case neg =>
    have hc' : Ane M (l.drop (i + 1)) = false := by simpa using hc
    simp only [hc', Bool.false_eq_true, if_false, Bool.false_and]
   obtain ⟨c1, c2⟩ := Cly hc
   have c1 : M ≤ l.length - (i + 1) := by simpa using c1
   simp only [hc, if_true, Bool.true_and, if_pos hin, Ahb _ _ hlt, ho, hMe]
   have e1 : wi ((i : Int) + (M : Int)) = ((i + M : Nat) : Int) := by simp only [wi]; rw [w64 (by omega)]; omega
   rw [e1, Acm (by omega)]
   have hends : (¬ i + M + 1 < l.length ∨ (Acc l (i + M + 1)).1 ≠ 30) → As2 l (i + M) = true := by
    intro hh
    unfold As2
    cases M with
    | zero =>
     rw [Nat.add_zero] at hh ⊢
     simp only [hoi, h29, hMe]
     simp
    | succ M =>
     have h30 : (Acc l (i + (M + 1))).1 = 30 := by
      have := c2 M (by omega)
      unfold Acc at this ⊢
      rw [B78] at this
      rw [show i + (M + 1) = i + 1 + M by omega]; exact this
     simp only [h30]
     rcases hh with hh | hh
     ·simp; omega
     ·simp; omega
   have fin : ∀ last : Bool, last = decide (i + M + 1 = l.length) → (¬ i + M + 1 < l.length ∨ (Acc l (i + M + 1)).1 ≠ 30) → Abj N l ((i + M : Nat) : Int) last (fun f => d f) (fun g j => Acf N k g (wi (j + 1)) d e) = if Ae0 0 (l.drop (i + 1 + M)) = true then e l else d false := by
    intro last hlast hh
    rw [B3f N l (i + M) last hl (by omega) hlast, hends hh]
    simp only [Bool.not_true, Bool.and_false, Bool.false_eq_true, if_false]
    rw [Acm (by omega), ih (i + M + 1) (by omega) (by omega), show i + M + 1 = i + 1 + M by omega]
   by_cases hlast : i + M + 1 = l.length
   ·have hb : ((((i + M + 1 : Nat) : Int)) == len l) = true := by simp only [len, beq_iff_eq]; omega
    rw [hb]
    simp only [Bool.not_true, Bool.false_eq_true, if_false]
    exact fin true (by simp [hlast]) (.inl (by omega))
   ·have hb : ((((i + M + 1 : Nat) : Int)) == len l) = false := by
     rw [beq_eq_false_iff_ne]; simp only [len]; omega
    rw [hb]
    simp only [Bool.not_false, if_true]
    rw [if_pos (by simp only [len]; omega)]
    have hg : l.getD (Int.toNat ((i + M + 1 : Nat) : Int)) (0, 0, 0) = Acc l (i + M + 1) := by
     unfold Acc; rw [Int.toNat_natCast]
    rw [hg]
    by_cases h30 : (Acc l (i + M + 1)).1 = 30
    ·rw [if_pos (by simpa using h30)]
     have hlt2 : i + 1 + M < l.length := by omega
     have : Ae0 0 (l.drop (i + 1 + M)) = false := by
      rw [List.drop_eq_getElem_cons hlt2, Ae0, ← Bm6 hlt2, show i + 1 + M = i + M + 1 by omega]
      simp [h30]
     rw [this]; simp
    ·rw [if_neg (by simpa using h30)]
     exact fin false (by simp [hlast]) (.inr h30)
  rw [if_neg (by simpa using h29)]
  by_cases h30 : o.1 = 30
  ·rw [if_pos (by simpa using h30)]
   simp [Ae0, h30]
  rw [if_neg (by simpa using h30)]
  have hord : Ae0 0 (o :: l.drop (i + 1)) = (A0p o (l.drop (i + 1)) && Ae0 0 (l.drop (i + 1))) := by
   rw [Ae0, if_neg h29]; simp [h30]
  rw [hord]
  have hhead : Adz (l.drop (i + 1)) = if i + 1 < l.length then some (Acc l (i + 1)).1 else none := Bs2
  have hlb : ((((i + 1 : Nat) : Int)) == len l) = decide (i + 1 = l.length) := by
   rw [Bool.eq_iff_iff]; simp only [len, beq_iff_eq, decide_eq_true_eq]; omega
  have hends : As2 l i = !Ag8 o.1 := by
   unfold As2 Ag8
   rw [hoi]
   by_cases a1 : o.1 = 20
   ·simp [a1]
   by_cases a2 : o.1 = 25
   ·simp [a2]
   by_cases a3 : o.1 = 26
   ·simp [a3]
   by_cases a4 : o.1 = 27
   ·simp [a4]
   have b1 : (o.1 != 20) = true := by simpa using a1
   have b2 : (o.1 != 25) = true := by simpa using a2
   have b3 : (o.1 != 26) = true := by simpa using a3
   have b4 : (o.1 != 27) = true := by simpa using a4
   have b5 : (o.1 != 29) = true := by simpa using h29
   have b6 : (o.1 != 30) = true := by simpa using h30
   rw [if_neg (by omega), if_neg h29, if_neg h30, b1, b2, b3, b4, b5, b6]; rfl
  have fin : o.1 ≠ 19 ∨ (i + 1 < l.length ∧ ((Acc l (i + 1)).1 = 18 ∨ (Acc l (i + 1)).1 = 28 ∨ (Acc l (i + 1)).1 = 19)) →
    Abj N l (i : Int) (decide (i + 1 = l.length)) (fun r => d r) (fun s t => Acf N k s (wi (t + 1)) d e) = if (A0p o (l.drop (i + 1)) && Ae0 0 (l.drop (i + 1))) = true then e l else d false := by
   intro hh
   rw [B3f N l i _ hl hlt rfl, Acm (by omega), ih (i + 1) (by omega) (by omega), hends, Bool.not_not]
   have hs : A0p o (l.drop (i + 1)) = !((decide (i + 1 = l.length) || (Acc l (i + 1)).1 == 24) && Ag8 o.1) := by
    unfold A0p
    rw [hhead]
    have h19 : (o.1 != 19 || ((if i + 1 < l.length then some (Acc l (i + 1)).1 else none) == some 18 || (if i + 1 < l.length then some (Acc l (i + 1)).1 else none) == some 28 || (if i + 1 < l.length then some (Acc l (i + 1)).1 else none) == some 19)) = true := by
     rcases hh with hh | ⟨hh, h2⟩
     ·simp [hh]
     ·rw [if_pos hh]
      rcases h2 with h2 | h2 | h2 <;> simp [h2]
    rw [h19, Bool.true_and]
    by_cases hl1 : i + 1 < l.length
    ·have : decide (i + 1 = l.length) = false := by simp; omega
     rw [this, if_pos hl1]
     by_cases h24 : (Acc l (i + 1)).1 = 24
     ·simp [h24]
     ·have h24' : ((Acc l (i + 1)).1 == 24) = false := by simpa using h24
      simp [h24, h24']
    ·have : decide (i + 1 = l.length) = true := by simp; omega
     rw [this, if_neg hl1]
     simp
   rw [hs]
   cases (decide (i + 1 = l.length) || (Acc l (i + 1)).1 == 24) && Ag8 o.1 <;> simp
  simp only [hlb]
  by_cases h19 : o.1 = 19
  ·rw [if_pos (by simpa using h19)]
   by_cases hl1 : i + 1 = l.length
   ·have hx : decide (i + 1 = l.length) = true := by simp [hl1]
    have hs : A0p o (l.drop (i + 1)) = false := by
     unfold A0p
     rw [hhead, if_neg (by omega), h19]; rfl
    rw [hx, hs]; simp
   ·have hx : decide (i + 1 = l.length) = false := by simp [hl1]
    have hlt1 : i + 1 < l.length := by omega
    have hg : l.getD (Int.toNat ((i + 1 : Nat) : Int)) (0, 0, 0) = Acc l (i + 1) := by
     unfold Acc; rw [Int.toNat_natCast]
    have hin1 : (0 : Int) ≤ ((i + 1 : Nat) : Int) ∧ ((i + 1 : Nat) : Int) < len l := by simp only [len]; omega
    rw [hx] at fin ⊢
    simp only [Bool.false_eq_true, if_false, if_pos hin1, hg]
    have hs : ((Acc l (i + 1)).1 ≠ 18 ∧ (Acc l (i + 1)).1 ≠ 28 ∧ (Acc l (i + 1)).1 ≠ 19) → A0p o (l.drop (i + 1)) = false := by
     intro ⟨a1, a2, a3⟩
     unfold A0p
     rw [hhead, if_pos hlt1, h19]
     have b1 : (some (Acc l (i + 1)).1 == some 18) = false := by simpa using a1
     have b2 : (some (Acc l (i + 1)).1 == some 28) = false := by simpa using a2
     have b3 : (some (Acc l (i + 1)).1 == some 19) = false := by simpa using a3
     rw [b1, b2, b3]; rfl
    by_cases a1 : (Acc l (i + 1)).1 = 18
    ·rw [if_neg (by simpa using a1)]; exact fin (.inr ⟨hlt1, .inl a1⟩)
    rw [if_pos (by simpa using a1)]
    by_cases a2 : (Acc l (i + 1)).1 = 28
    ·rw [if_neg (by simpa using a2)]; exact fin (.inr ⟨hlt1, .inr (.inl a2)⟩)
    rw [if_pos (by simpa using a2)]
    by_cases a3 : (Acc l (i + 1)).1 = 19
    ·rw [if_neg (by simpa using a3)]; exact fin (.inr ⟨hlt1, .inr (.inr a3)⟩)
    rw [if_pos (by simpa using a3), hs ⟨a1, a2, a3⟩]
    simp
  ·rw [if_neg (by simpa using h19)]
   exact fin (.inl h19)
def Alo (l : OpL) : Bool := Adz l == none || Adz l == some 24
theorem B6v {R : Type} (N : Nat) (l : OpL) (hl : l.length < N) (hl2 : l.length ≤ 1099511627776) (hN : 1000 < N) (hM : ∀ o, o ∈ l → o.1 = 29 → 0 ≤ o.2.2 ∧ o.2.2 ≤ 1000) (K : Bool → Option R) :
  Aej N l K = K (Ae0 0 l && Alo l) := by
 simp only [Aej, Bb0]
 have h := Ckd N l hl2 hN hM (fun b => K b) (fun a => if (len a == 0) = true then K true else if (0 : Int) ≤ 0 ∧ 0 < len a then K ((List.getD a 0 (0, 0, 0)).1 == 24) else none) N 0 (by omega) (by omega)
 rw [show ((0 : Nat) : Int) = 0 from rfl] at h
 rw [h, List.drop_zero]
 cases Ae0 0 l with
 | false => simp
 | true =>
  simp only [if_true, Bool.true_and]
  cases l with
  | nil => simp [len, Alo, Adz]
  | cons o r =>
   rw [if_neg (by simp only [len, List.length_cons, beq_iff_eq]; omega), if_pos (by simp only [len, List.length_cons]; omega)]
   simp [Alo, Adz]
theorem Afv {i : Int} (h1 : -4611686018427387904 < i) (h2 : i < 4611686018427387904) : wi i = i := by
 simp only [wi]; exact w64 (by omega)
def plF : Nat → OpL → Int → Int → List Int → List Int → Option (Int × Int × List Int × List Int)
 | _, [], p, m, o, a => some (p, m, o, a)
 | i, x :: r, p, m, o, a =>
  if x.1 = 24 then (if x.2.1 = p + 1 then plF (i + 1) r (p + 1) m o a else none)
  else if x.1 = 19 then
   (if a.getD x.2.1.toNat 0 ≠ 0 ∨ p = 0 then none
    else plF (i + 1) r p (if x.2.1 > m then x.2.1 else m) (o.set x.2.1.toNat i) (a.set x.2.1.toNat p))
  else plF (i + 1) r p m o a
theorem Cgk {R : Type} (N : Nat) (nm : List UInt8) (dat : Aaz) (l : OpL) (gl : Abq) (procs labels : Int) (hl : l.length ≤ 1099511627776)
  (hL : ∀ o, o ∈ l → o.1 = 19 → 1 ≤ o.2.1 ∧ o.2.1 ≤ labels) (b : Bool → List Int → List Int → Option R)
  (c : Int → Int → List UInt8 → Aaz → OpL → Abq → Int → Int → List Int → List Int → Option R) :
  ∀ (k i : Nat) (p m : Int) (o a : List Int), i ≤ l.length → l.length - i < k → 0 ≤ p → p ≤ i → (o.length : Int) = labels + 1 → (a.length : Int) = labels + 1 →
   Aev N k p m l (len l) i nm dat l gl procs labels o a b c =
    match plF i (l.drop i) p m o a with
    | none => b false [] []
    | some (p', m', o', a') => c p' m' nm dat l gl procs labels o' a' := by
 intro k
 induction k with
 | zero => intro i _ _ _ _ _ h; omega
 | succ k ih =>
  intro i p m o a hi hk hp hpi ho ha
  simp only [Aev, A3l]
  by_cases hlt : i < l.length
  case neg =>
   rw [if_neg (by simp [len]; omega), List.drop_eq_nil_of_le (by omega)]
   simp [plF]
  have hin : (0 : Int) ≤ i ∧ (i : Int) < len l := by simp only [len]; omega
  have hd : l.drop i = l[i] :: l.drop (i + 1) := List.drop_eq_getElem_cons hlt
  have hL' := hL l[i] (List.getElem_mem hlt)
  rw [if_pos (by simp [len]; omega), if_pos hin, Ahb _ _ hlt, Acm (by omega), hd]
  obtain ⟨x, hx⟩ : ∃ x, l[i] = x := ⟨_, rfl⟩
  simp only [hx] at hL' ⊢
  have hw : wi (p + 1) = p + 1 := Afv (by omega) (by omega)
  by_cases h24 : x.1 = 24
  ·rw [if_pos (by simpa using h24), hw, plF, if_pos h24]
   by_cases he : x.2.1 = p + 1
   ·rw [if_neg (by simp [he]), if_pos he]
    exact ih (i + 1) (p + 1) m o a (by omega) (by omega) (by omega) (by omega) ho ha
   ·rw [if_pos (by simpa using he), if_neg he]
  rw [if_neg (by simpa using h24), plF, if_neg h24]
  by_cases h19 : x.1 = 19
  ·have hv := hL' h19
   have hia : 0 ≤ x.2.1 ∧ x.2.1 < len a := by simp only [len]; omega
   have hio : 0 ≤ x.2.1 ∧ x.2.1 < len o := by simp only [len]; omega
   rw [if_pos (by simpa using h19), if_pos h19, if_pos hia]
   by_cases ha0 : a.getD x.2.1.toNat 0 = 0
   ·rw [if_neg (by simpa using ha0)]
    by_cases hp0 : p = 0
    ·rw [if_pos (by simpa using hp0), if_pos (.inr hp0)]
    ·rw [if_neg (by simpa using hp0), if_pos hio, if_pos hia, if_neg (show ¬(a.getD x.2.1.toNat 0 ≠ 0 ∨ p = 0) by intro h; rcases h with h | h; exact h ha0; exact hp0 h)]
     exact ih (i + 1) p _ _ _ (by omega) (by omega) hp (by omega) (by rw [List.length_set]; exact ho) (by rw [List.length_set]; exact ha)
   ·rw [if_pos (by simpa using ha0), if_pos (.inl ha0)]
  ·rw [if_neg (by simpa using h19), if_neg h19]
   exact ih (i + 1) p m o a (by omega) (by omega) hp (by omega) ho ha
def Alc (l : OpL) (procs labels : Int) : Option (Bool × List Int × List Int) :=
 match plF 0 l 0 0 (List.replicate (labels + 1).toNat 0) (List.replicate (labels + 1).toNat 0) with
 | none => none
 | some (p, m, o, a) => some (p == procs && m == labels, o, a)
theorem Bj5 {R : Type} (N : Nat) (nm : List UInt8) (dat : Aaz) (l : OpL) (gl : Abq) (procs labels : Int) (hl : l.length < N) (hl2 : l.length ≤ 1099511627776)
  (hb : 0 ≤ labels ∧ labels ≤ 1000000) (hL : ∀ o, o ∈ l → o.1 = 19 → 1 ≤ o.2.1 ∧ o.2.1 ≤ labels) (K : Bool → List Int → List Int → Option R) :
  Abv N nm dat l gl procs labels K = match Alc l procs labels with
   | none => K false [] []
   | some (b, o, a) => K b o a := by
 have hw : wi (labels + 1) = labels + 1 := Afv (by omega) (by omega)
 have hg : (0 : Int) ≤ labels + 1 ∧ labels + 1 ≤ labels + 1 ∧ (labels + 1) * 8 ≤ 70368744177664 := by omega
 simp only [Abv, A8x, hw, if_pos hg]
 have h := Cgk N nm dat l gl procs labels hl2 hL (fun e f g => K e f g) (fun i j s t u v n q c d => if (i == n) = true then K (j == q) c d else K false c d) N 0 0 0
  (List.replicate (labels + 1).toNat 0) (List.replicate (labels + 1).toNat 0) (by omega) (by omega) (by omega) (by omega) (by simp; omega) (by simp; omega)
 rw [show ((0 : Nat) : Int) = 0 from rfl, List.drop_zero] at h
 rw [h]
 unfold Alc
 cases plF 0 l 0 0 (List.replicate (labels + 1).toNat 0) (List.replicate (labels + 1).toNat 0) with
 | none => rfl
 | some r =>
  obtain ⟨p, m, o, a⟩ := r
  dsimp only
  cases hpp : p == procs <;> simp [hpp]
def Ah4 (nd procs labels : Int) (x : Int × Int × Int) : Bool := decide (1 ≤ x.1) && decide (x.1 ≤ 30) && Aup x.1 x.2.1 x.2.2 nd procs labels
theorem Clz {R : Type} (N : Nat) (nm : List UInt8) (data : Aaz) (l : OpL) (gl : Abq) (procs labels : Int) (hl : l.length ≤ 1099511627776) (hd : data.length ≤ 1000000)
  (a : Bool → Option R) (b : List UInt8 → Aaz → OpL → Abq → Int → Int → Option R) :
  ∀ (k i : Nat), i ≤ l.length → l.length - i < k →
   Ac9 N k l (len l) i nm data l gl procs labels Alr a b = if (l.drop i).all (Ah4 data.length procs labels) then b nm data l gl procs labels else a false := by
 intro k
 induction k with
 | zero => intro i _ h; omega
 | succ k ih =>
  intro i hi hk
  simp only [Ac9, A3i]
  by_cases hlt : i < l.length
  case neg =>
   rw [if_neg (by simp [len]; omega), List.drop_eq_nil_of_le (by omega)]
   simp
  have hin : (0 : Int) ≤ i ∧ (i : Int) < len l := by simp only [len]; omega
  have hd' : l.drop i = l[i] :: l.drop (i + 1) := List.drop_eq_getElem_cons hlt
  rw [if_pos (by simp [len]; omega), if_pos hin, Ahb _ _ hlt, Acm (by omega), hd', List.all_cons]
  obtain ⟨x, hx⟩ : ∃ x, l[i] = x := ⟨_, rfl⟩
  simp only [hx]
  by_cases h1 : x.1 < 1
  ·rw [if_pos (by simpa using h1)]
   have : Ah4 data.length procs labels x = false := by unfold Ah4; simp; omega
   rw [this]; simp
  rw [if_neg (by simpa using h1)]
  by_cases h2 : x.1 ≥ 31
  ·rw [if_pos (by simpa using h2)]
   have : Ah4 data.length procs labels x = false := by unfold Ah4; simp; omega
   rw [this]; simp
  rw [if_neg (by simpa using h2), if_pos (by omega), if_pos (show x.1 < len Alr from by simp only [len, Alr, List.length_cons, List.length_nil]; omega),
   show List.getD Alr (Int.toNat x.1) (([] : List UInt8), ((0 : Int), ((0 : Int), (0 : Int)))) = kT x.1 from rfl,
   Bzq N _ _ _ _ _ _ _ _ _ hd (by omega)]
  have : Ah4 data.length procs labels x = Aup x.1 x.2.1 x.2.2 data.length procs labels := by
   unfold Ah4
   rw [show decide (1 ≤ x.1) = true by simp; omega, show decide (x.1 ≤ 30) = true by simp; omega]; rfl
  rw [this, ih (i + 1) (by omega) (by omega)]
  cases Aup x.1 x.2.1 x.2.2 data.length procs labels <;> rfl
def Aai (x : Int × Int × Int) : Int := if x.1 = 20 ∨ x.1 = 21 ∨ x.1 = 22 ∨ x.1 = 27 ∨ x.1 = 29 then x.2.1 else if x.1 = 30 then x.2.2 else 0
theorem Bm7 {R : Type} (N : Nat) (a b c : Int) (K : Int → Option R) : Ab0 N a b c K = K (Aai (a, b, c)) := by
 simp only [Ab0, Bb6, Ad7, Aai]
 by_cases h1 : a = 20
 ·simp [h1]
 by_cases h2 : a = 21
 ·simp [h2]
 by_cases h3 : a = 22
 ·simp [h3]
 by_cases h4 : a = 27
 ·simp [h4]
 by_cases h5 : a = 29
 ·simp [h5]
 by_cases h6 : a = 30
 ·simp [h6]
 simp [h1, h2, h3, h4, h5, h6]
theorem Bla {nd procs labels : Int} {x : Int × Int × Int} (h : Ah4 nd procs labels x = true) : Aai x = 0 ∨ (1 ≤ Aai x ∧ Aai x ≤ labels) := by
 obtain ⟨op, n, m⟩ := x
 simp only [Ah4, Bool.and_eq_true, decide_eq_true_eq] at h
 obtain ⟨⟨h1, h2⟩, h3⟩ := h
 rcases Bm3 ⟨h1, h2⟩ with rfl | rfl | rfl | rfl | rfl | rfl | rfl | rfl | rfl | rfl | rfl | rfl | rfl | rfl | rfl | rfl | rfl | rfl | rfl | rfl | rfl | rfl | rfl | rfl | rfl | rfl | rfl | rfl | rfl | rfl <;>
  simp [Aai] <;> simp [Aup, inB] at h3 <;> omega
def At6 : Int → OpL → List Int → List Int → Bool
 | _, [], _, _ => true
 | p, x :: r, o, a =>
  let p' := if x.1 = 24 then x.2.1 else p
  (decide (Aai x ≤ 0) || (a.getD (Aai x).toNat 0 == p' && o.getD (Aai x).toNat 0 != 0)) && At6 p' r o a
theorem Cl0 {R : Type} (N : Nat) (p : Int) (l : OpL) (ll i : Int) (o a : List Int) (x : Int × Int × Int) (h : Aai x = 0 ∨ (1 ≤ Aai x ∧ Aai x < a.length)) (hoa : o.length = a.length) (b : Bool → Option R) (c : Int → OpL → Int → Int → List Int → List Int → Option R) :
  Adf N p l ll i o a x.1 x.2.1 x.2.2 b c = if (decide (Aai x ≤ 0) || (a.getD (Aai x).toNat 0 == p && o.getD (Aai x).toNat 0 != 0)) = true then c p l ll i o a else b false := by
 simp only [Adf, A3u, Bm7]
 rw [show (x.1, x.2.1, x.2.2) = x from rfl]
 by_cases h0 : Aai x > 0
 ·have ha : 0 ≤ Aai x ∧ Aai x < len a := by simp only [len]; omega
  have ho : 0 ≤ Aai x ∧ Aai x < len o := by simp only [len]; omega
  rw [if_pos (by simpa using h0), if_pos ha, if_pos ho, show decide (Aai x ≤ 0) = false by simp; omega, Bool.false_or]
  generalize a.getD (Aai x).toNat 0 = u
  generalize o.getD (Aai x).toNat 0 = v
  by_cases h1 : u = p
  ·by_cases h2 : v = 0
   ·simp [h1, h2]
   ·simp [h1, h2]
  ·simp [h1]
 ·rw [if_neg (by simpa using h0), show decide (Aai x ≤ 0) = true by simp; omega, Bool.true_or, if_pos rfl]
theorem Cl1 {R : Type} (N : Nat) (l : OpL) (o a : List Int) (hl : l.length ≤ 1099511627776) (hoa : o.length = a.length) (hn : ∀ x, x ∈ l → Aai x = 0 ∨ (1 ≤ Aai x ∧ Aai x < a.length))
  (b : Bool → Option R) (c : Option R) :
  ∀ (k i : Nat) (p : Int), i ≤ l.length → l.length - i < k →
   Acv N k p l (len l) i o a b c = if At6 p (l.drop i) o a then c else b false := by
 intro k
 induction k with
 | zero => intro i _ _ h; omega
 | succ k ih =>
  intro i p hi hk
  simp only [Acv, A3w]
  by_cases hlt : i < l.length
  case neg =>
   rw [if_neg (by simp [len]; omega), List.drop_eq_nil_of_le (by omega)]
   simp [At6]
  have hin : (0 : Int) ≤ i ∧ (i : Int) < len l := by simp only [len]; omega
  have hd' : l.drop i = l[i] :: l.drop (i + 1) := List.drop_eq_getElem_cons hlt
  have hx' := hn l[i] (List.getElem_mem hlt)
  rw [if_pos (by simp [len]; omega), if_pos hin, Ahb _ _ hlt, hd', At6]
  obtain ⟨x, hx⟩ : ∃ x, l[i] = x := ⟨_, rfl⟩
  simp only [hx] at hx' ⊢
  by_cases h24 : x.1 = 24
  ·rw [if_pos (by simpa using h24), if_pos h24, Cl0 N _ l _ _ o a x hx' hoa, Acm (by omega), ih (i + 1) _ (by omega) (by omega)]
   cases (decide (Aai x ≤ 0) || (a.getD (Aai x).toNat 0 == x.2.1 && o.getD (Aai x).toNat 0 != 0)) <;> rfl
  ·rw [if_neg (by simpa using h24), if_neg h24, Cl0 N _ l _ _ o a x hx' hoa, Acm (by omega), ih (i + 1) _ (by omega) (by omega)]
   cases (decide (Aai x ≤ 0) || (a.getD (Aai x).toNat 0 == p && o.getD (Aai x).toNat 0 != 0)) <;> rfl
theorem Chf : ∀ (l : OpL) (i : Nat) (p m : Int) (o a : List Int) (r : Int × Int × List Int × List Int), plF i l p m o a = some r → r.2.2.1.length = o.length ∧ r.2.2.2.length = a.length := by
 intro l
 induction l with
 | nil => intro i p m o a r h; simp only [plF, Option.some.injEq] at h; subst h; exact ⟨rfl, rfl⟩
 | cons x l ih =>
  intro i p m o a r h
  rw [plF] at h
  split at h
  ·split at h
   ·exact ih _ _ _ _ _ _ h
   ·cases h
  ·split at h
   ·split at h
    ·cases h
    ·have := ih _ _ _ _ _ _ h
     simpa using this
   ·exact ih _ _ _ _ _ _ h
theorem Blb {l : OpL} {procs labels : Int} {r : Bool × List Int × List Int} (h : Alc l procs labels = some r) : r.2.1.length = (labels + 1).toNat ∧ r.2.2.length = (labels + 1).toNat := by
 unfold Alc at h
 split at h
 ·cases h
 ·rename_i p m o a he
  have := Chf _ _ _ _ _ _ _ he
  simp only [Option.some.injEq] at h
  subst h
  simpa using this
def Bh2 (nm : List UInt8) (data : Aaz) (l : OpL) (gl : Abq) (procs labels : Int) : Bool :=
 Aq3 nm == 0 && decide (0 ≤ procs) && decide (0 ≤ labels) && l.all (Ah4 data.length procs labels) &&
 (match Alc l procs labels with
  | none => false
  | some (b, o, a) => b && (Ae0 0 l && Alo l) && Bh1 data gl procs && At6 0 l o a)
theorem Bzt {nd procs labels : Int} {x : Int × Int × Int} (h : Ah4 nd procs labels x = true) (h29 : x.1 = 29) : 0 ≤ x.2.2 ∧ x.2.2 ≤ 1000 := by
 obtain ⟨op, n, m⟩ := x
 simp only at h29; subst h29
 simp [Ah4, Aup, inB] at h
 exact h.2
theorem Bzu {nd procs labels : Int} {x : Int × Int × Int} (h : Ah4 nd procs labels x = true) (h19 : x.1 = 19) : 1 ≤ x.2.1 ∧ x.2.1 ≤ labels := by
 obtain ⟨op, n, m⟩ := x
 simp only at h19; subst h19
 simp [Ah4, Aup, inB] at h
 exact h.1
structure B6w (N : Nat) (nm : List UInt8) (data : Aaz) (l : OpL) (gl : Abq) (procs labels : Int) : Prop where
 n1 : nm.length ≤ 1099511627776
 n2 : nm.length < N
 l1 : l.length < N
 l2 : l.length ≤ 1099511627776
 d1 : Bm5 data
 d2 : data.length ≤ 2000
 d3 : ∀ d, d ∈ data → d.1.length < N ∧ d.2.2.length < N
 N1 : 2000 < N
 g1 : gl.length < N
 g2 : gl.length ≤ 1099511627776
 lb : labels ≤ 20000
 pb : procs ≤ 200
theorem B6x {R : Type} {N : Nat} {nm : List UInt8} {data : Aaz} {l : OpL} {gl : Abq} {procs labels : Int} (F : B6w N nm data l gl procs labels) (K : Bool → Option R) :
  Ajo N nm data l gl procs labels K = K (Bh2 nm data l gl procs labels) := by
 simp only [Ajo, Bb9]
 obtain ⟨r, hq⟩ := Bs0 N nm F.n1 F.n2
 rw [hq]
 unfold Bh2
 by_cases h1 : Aq3 nm = 0
 case neg =>
  rw [if_pos (by simpa using h1), show (Aq3 nm == 0) = false by simpa using h1]; rfl
 rw [if_neg (by simpa using h1), show (Aq3 nm == 0) = true by simpa using h1, Bool.true_and]
 by_cases h2 : procs < 0
 ·rw [if_pos (by simpa using h2), show decide (0 ≤ procs) = false by simp; omega]; rfl
 rw [if_neg (by simpa using h2), show decide (0 ≤ procs) = true by simp; omega, Bool.true_and]
 by_cases h3 : labels < 0
 ·rw [if_pos (by simpa using h3), show decide (0 ≤ labels) = false by simp; omega]; rfl
 rw [if_neg (by simpa using h3), show decide (0 ≤ labels) = true by simp; omega, Bool.true_and]
 simp only [Acj]
 have hloop := Clz (R := R) N nm data l gl procs labels F.l2 (by have := F.d2; omega) (fun m => K m) (fun e f c g i j => Abv N e f c g i j (fun n p q => if ((!n) = true) then (K false) else (Aej N c (fun s => if ((!s) = true) then (K false) else (Aek N e f c g i j (fun t => if ((!t) = true) then (K false) else (Acv N N 0 c ((len c)) 0 p q (fun d => K d) (K true)))))))) N 0 (by omega) (by have := F.l1; omega)
 rw [List.drop_zero] at hloop
 refine Eq.trans hloop ?_
 by_cases hn : l.all (Ah4 data.length procs labels) = true
 case neg =>
  rw [if_neg hn, show l.all (Ah4 data.length procs labels) = false by simpa using hn]; rfl
 rw [if_pos hn, hn, Bool.true_and]
 have hall : ∀ o, o ∈ l → Ah4 data.length procs labels o = true := List.all_eq_true.mp hn
 rw [Bj5 N _ _ _ _ _ _ F.l1 F.l2 ⟨by omega, by have := F.lb; omega⟩ (fun o ho h => Bzu (hall o ho) h)]
 cases hp : Alc l procs labels with
 | none => rfl
 | some r =>
  obtain ⟨b, o, a⟩ := r
  have hlen := Blb hp
  simp only at hlen
  dsimp only
  cases b
  ·rfl
  rw [if_neg (by decide), B6v N _ F.l1 F.l2 (by have := F.N1; omega) (fun o ho h => Bzt (hall o ho) h), Bool.true_and]
  cases Ae0 0 l && Alo l
  ·rfl
  rw [if_neg (by decide), B6t N _ _ _ _ _ _ F.d1 F.d2 F.d3 F.N1 F.g1 F.g2, Bool.true_and]
  cases Bh1 data gl procs
  ·rfl
  rw [if_neg (by decide), Bool.true_and]
  have hu := Cl1 (R := R) N l o a F.l2 (by omega) (fun x hx => by
   rcases Bla (hall x hx) with h | h
   ·exact .inl h
   ·exact .inr ⟨h.1, by omega⟩) (fun d => K d) (K true) N 0 0 (by omega) (by have := F.l1; omega)
  rw [List.drop_zero] at hu
  refine Eq.trans hu ?_
  cases At6 0 l o a <;> rfl
def A23 : OpL → Nat
 | [] => 0
 | x :: r => if x.1 = 19 then A23 r + 1 else 0
def Af4 (l : OpL) (j : Nat) : Nat := j + A23 (l.drop j)
theorem Coa : ∀ l : OpL, l ≠ [] → (∀ o, l.getLast? = some o → o.1 ≠ 19) → A23 l < l.length := by
 intro l
 induction l with
 | nil => intro h; exact absurd rfl h
 | cons x r ih =>
  intro _ h
  rw [A23]
  by_cases h19 : x.1 = 19
  ·rw [if_pos h19]
   cases r with
   | nil => exact absurd h19 (h x rfl)
   | cons y r =>
    have := ih (by simp) (fun o ho => h o (by rw [List.getLast?_cons_cons]; exact ho))
    simp only [List.length_cons] at this ⊢; omega
  ·rw [if_neg h19]; simp
theorem Cl2 : ∀ (l : OpL) (c : Nat), Ae0 c l = true → ∀ o, l.getLast? = some o → o.1 ≠ 19 := by
 intro l
 induction l with
 | nil => intro c _ o h; cases h
 | cons x r ih =>
  intro c h o ho
  cases r with
  | nil =>
   simp only [List.getLast?_singleton, Option.some.injEq] at ho
   subst ho
   cases c with
   | zero =>
    intro h19
    rw [Ae0, h19] at h
    simp [A0p, Adz, h19] at h
   | succ c =>
    simp only [Ae0, Bool.and_eq_true, beq_iff_eq] at h
    omega
  | cons y r =>
   rw [List.getLast?_cons_cons] at ho
   cases c with
   | zero =>
    rw [Ae0] at h
    simp only [Bool.and_eq_true] at h
    obtain ⟨_, h⟩ := h
    split at h
    ·exact ih _ h o ho
    ·simp only [Bool.and_eq_true] at h
     exact ih _ h.2 o ho
   | succ c =>
    simp only [Ae0, Bool.and_eq_true] at h
    exact ih c (by simpa [Ae0] using h.2) o ho
theorem Bbb {l : OpL} (h : Ae0 0 l = true) {j : Nat} (hj : j < l.length) : Af4 l j < l.length := by
 have := Coa (l.drop j) (by intro h0; have := congrArg List.length h0; simp at this; omega) (fun o ho => by
  rw [List.getLast?_drop, if_neg (by omega)] at ho
  exact Cl2 l 0 h o ho)
 rw [List.length_drop] at this
 unfold Af4; omega
theorem Cke {R : Type} (N : Nat) (l : OpL) (hl : l.length ≤ 1099511627776) (K : Int → Option R) : ∀ (k j : Nat), Af4 l j < l.length → l.length - j < k →
  Ae6 N k l j K = K (Af4 l j : Nat) := by
 intro k
 induction k with
 | zero => intro j _ h; omega
 | succ k ih =>
  intro j hj hk
  have hjl : j < l.length := by unfold Af4 at hj; omega
  have hin : (0 : Int) ≤ j ∧ (j : Int) < len l := by simp only [len]; omega
  have hd' : l.drop j = l[j] :: l.drop (j + 1) := List.drop_eq_getElem_cons hjl
  simp only [Ae6, A6m]
  rw [if_pos hin, Ahb _ _ hjl, Acm (by omega)]
  by_cases h19 : l[j].1 = 19
  ·have : Af4 l j = Af4 l (j + 1) := by unfold Af4; rw [hd', A23, if_pos h19]; omega
   rw [if_pos (by simpa using h19), ih (j + 1) (by omega) (by omega), this]
  ·have : Af4 l j = j := by unfold Af4; rw [hd', A23, if_neg h19]; rfl
   rw [if_neg (by simpa using h19), this]
theorem Bm8 {R : Type} (N : Nat) (l : OpL) (j : Int) (hl : l.length ≤ 1099511627776) (hN : l.length < N) (ho : Ae0 0 l = true) (h0 : 0 ≤ j) (hj : j < l.length) (K : Int → Option R) :
  Adu N l j K = K (Af4 l j.toNat : Nat) := by
 obtain ⟨n, rfl⟩ := Int.eq_ofNat_of_zero_le h0
 simp only [Adu, Bce]
 exact Cke N l hl K N n (Bbb ho (by omega)) (by omega)
def A15 (x : Int × Int × Int) (d : Int) (flag : Bool) : Bool :=
 (if x.1 = 2 ∨ x.1 = 3 then inB x.2.1 2 (d - 1) else if x.1 = 4 then decide (2 ≤ x.2.1) else if x.1 = 23 then inB x.2.1 2 (d - 3)
  else if x.1 = 18 then flag || decide (x.2.1 ≤ d + 2000 + 2) else true) && (x.1 == 24 || decide (2 ≤ d - (kT x.1).2.2.1))
theorem B6y (op : Int) : 0 ≤ (kT op).2.2.1 ∧ (kT op).2.2.1 ≤ 3 ∧ 0 ≤ (kT op).2.2.2 ∧ (kT op).2.2.2 ≤ 1 := by
 unfold kT
 generalize op.toNat = n
 by_cases h : n < 31
 ·revert n; decide
 ·rw [List.getD_eq_getElem?_getD, List.getElem?_eq_none (by simp only [Alr, List.length_cons, List.length_nil]; omega)]
  decide
theorem Bp4 {R : Type} (N : Nat) (x : Int × Int × Int) (d : Int) (flag : Bool) (hd : 0 ≤ d ∧ d ≤ 4000) (K : Bool → Option R) :
  Af5 N x.1 x.2.1 x.2.2 d (kT x.1).1 (kT x.1).2.1 (kT x.1).2.2.1 (kT x.1).2.2.2 flag K = K (A15 x d flag) := by
 obtain ⟨op, n, m⟩ := x
 have hp := B6y op
 unfold A15
 simp only
 generalize kT op = kk at hp ⊢
 have w1 : wi (d - 1) = d - 1 := Afv (by omega) (by omega)
 have w3 : wi (d - 3) = d - 3 := Afv (by omega) (by omega)
 have w2 : wi (wi (d + 2000) + 2) = d + 2000 + 2 := by rw [Afv (i := d + 2000) (by omega) (by omega), Afv (by omega) (by omega)]
 have wp : wi (d - kk.2.2.1) = d - kk.2.2.1 := Afv (by omega) (by omega)
 simp only [Af5, Bf9, Afj, A8z, Aep, Aw9, w1, w2, w3, wp]
 by_cases h2 : op = 2
 ·subst h2; cases inB n 2 (d - 1) <;> simp
 by_cases h3 : op = 3
 ·subst h3; cases inB n 2 (d - 1) <;> simp
 by_cases h4 : op = 4
 ·subst h4
  by_cases hn : n < 2
  ·simp [hn, show ¬ 2 ≤ n by omega]
  ·simp [hn, show 2 ≤ n by omega]
 by_cases h23 : op = 23
 ·subst h23; cases inB n 2 (d - 3) <;> simp
 by_cases h18 : op = 18
 ·subst h18
  cases flag
  ·by_cases hn : n ≤ d + 2000 + 2
   ·simp [hn, show ¬ (d + 2000 + 2 < n) by omega]
   ·simp [hn, show d + 2000 + 2 < n by omega]
  ·simp
 by_cases h24 : op = 24
 ·subst h24; simp
 have b24 : (op == 24) = false := by simpa using h24
 simp [h2, h3, h4, h23, h18, h24, b24]
def Agl (x : Int × Int × Int) (d : Int) : Int :=
 if x.1 = 18 then x.2.1 else if x.1 = 24 then 2 + x.2.2 else if x.1 = 23 ∨ x.1 = 28 then x.2.1 + 1 else d - (kT x.1).2.2.1 + (kT x.1).2.2.2
theorem B6z {R : Type} (N : Nat) (x : Int × Int × Int) (d : Int) (hd : 0 ≤ d ∧ d ≤ 4000) (hx : x.1 = 24 ∨ x.1 = 23 ∨ x.1 = 28 → 0 ≤ x.2.1 ∧ x.2.1 ≤ 4000 ∧ 0 ≤ x.2.2 ∧ x.2.2 ≤ 4000) (K : Int → Option R) :
  Aft N x.1 x.2.1 x.2.2 d (kT x.1).1 (kT x.1).2.1 (kT x.1).2.2.1 (kT x.1).2.2.2 K = K (Agl x d) := by
 obtain ⟨op, n, m⟩ := x
 have hp := B6y op
 simp only at hx
 unfold Agl
 simp only
 generalize kT op = kk at hp ⊢
 simp only [Aft, Bcb, Ad8, Aeh]
 by_cases h18 : op = 18
 ·simp [h18]
 by_cases h24 : op = 24
 ·rw [show wi (2 + m) = 2 + m from Afv (by have := hx (.inl h24); omega) (by have := hx (.inl h24); omega)]
  simp [h24]
 by_cases h23 : op = 23
 ·rw [show wi (n + 1) = n + 1 from Afv (by have := hx (.inr (.inl h23)); omega) (by have := hx (.inr (.inl h23)); omega)]
  simp [h23]
 by_cases h28 : op = 28
 ·rw [show wi (n + 1) = n + 1 from Afv (by have := hx (.inr (.inr h28)); omega) (by have := hx (.inr (.inr h28)); omega)]
  simp [h28]
 rw [show wi (wi (d - kk.2.2.1) + kk.2.2.2) = d - kk.2.2.1 + kk.2.2.2 by
  rw [Afv (i := d - kk.2.2.1) (by omega) (by omega), Afv (by omega) (by omega)]]
 simp [h18, h24, h23, h28]
noncomputable def Bs3 {R : Type} (N : Nat) (rc : Aol R) (x : Int) (e : OpL) (f g : Int) (h : List UInt8) (i : Aaz) (a : OpL) (j : Abq) (l m : Int) (b : List Int) (d : List (List UInt8 × Int × Int × Int)) (o : Bool → Option R)
  (n v w : Int) (y : List UInt8) (z A B : Int) : Option R :=
 (if (((0 : Int) ≤ n) ∧ (n < (31 : Int))) then (if (n < (len d)) then (Aft N n v w x y z A B (fun c => if ((decide ((c < (2 : Int)))) = true) then (o false) else (if ((decide ((c > (4000 : Int)))) = true) then (o false) else (Ab0 N n v w (fun p => if ((decide ((p > (0 : Int)))) = true) then (if (((0 : Int) ≤ p) ∧ (p < (len b))) then (Adu N a ((List.getD b (Int.toNat p) (0 : Int))) (fun s => if (((0 : Int) ≤ s) ∧ (s < (len a))) then (if ((!(((List.getD a (Int.toNat s) ((0 : Int), ((0 : Int), (0 : Int)))).1 == (28 : Int)) == (n == (27 : Int)))) = true) then (o false) else (if ((n != (19 : Int)) = true) then (Abu N a g (fun C => if ((!C) = true) then (let q := (wi (g + (1 : Int))); if ((decide ((q < (len a)))) = true) then (Adu N a q (fun t => if (((0 : Int) ≤ t) ∧ (t < (len a))) then (if (((List.getD a (Int.toNat t) ((0 : Int), ((0 : Int), (0 : Int)))).1 == (28 : Int)) = true) then (o false) else (rc c e f q h i a j l m b d)) else none)) else (rc c e f q h i a j l m b d)) else (rc c e f ((wi (g + (1 : Int)))) h i a j l m b d))) else (rc c e f ((wi (g + (1 : Int)))) h i a j l m b d))) else none)) else none) else (if ((n != (19 : Int)) = true) then (Abu N a g (fun D => if ((!D) = true) then (let r := (wi (g + (1 : Int))); if ((decide ((r < (len a)))) = true) then (Adu N a r (fun u => if (((0 : Int) ≤ u) ∧ (u < (len a))) then (if (((List.getD a (Int.toNat u) ((0 : Int), ((0 : Int), (0 : Int)))).1 == (28 : Int)) = true) then (o false) else (rc c e f r h i a j l m b d)) else none)) else (rc c e f r h i a j l m b d)) else (rc c e f ((wi (g + (1 : Int)))) h i a j l m b d))) else (rc c e f ((wi (g + (1 : Int)))) h i a j l m b d))))))) else none) else none)
theorem Cew {R : Type} (N : Nat) (rc : Aol R) (e : Int) (d : OpL) (h a : Int) (p : List UInt8) (q : Aaz) (f : OpL) (r : Abq) (s t : Int) (u : List Int) (c : List (List UInt8 × Int × Int × Int)) (g : Bool → Option R) (w : Option R) :
  Azj @Af5 @Aft @Ab0 @Adu @Abu N rc e d h a p q f r s t u c g w =
  if ((decide ((a < h))) = true) then (if (((0 : Int) ≤ a) ∧ (a < (len d))) then (let b := (List.getD d (Int.toNat a) ((0 : Int), ((0 : Int), (0 : Int)))).1; let i := (List.getD d (Int.toNat a) ((0 : Int), ((0 : Int), (0 : Int)))).2.1; let j := (List.getD d (Int.toNat a) ((0 : Int), ((0 : Int), (0 : Int)))).2.2; if (((0 : Int) ≤ b) ∧ (b < (31 : Int))) then (if (b < (len c)) then (let l := (List.getD c (Int.toNat b) (([] : List UInt8), ((0 : Int), ((0 : Int), (0 : Int))))).1; let m := (List.getD c (Int.toNat b) (([] : List UInt8), ((0 : Int), ((0 : Int), (0 : Int))))).2.1; let n := (List.getD c (Int.toNat b) (([] : List UInt8), ((0 : Int), ((0 : Int), (0 : Int))))).2.2.1; let o := (List.getD c (Int.toNat b) (([] : List UInt8), ((0 : Int), ((0 : Int), (0 : Int))))).2.2.2; if ((decide ((a > (0 : Int)))) = true) then (let v := (wi (a - (1 : Int))); if (((0 : Int) ≤ v) ∧ (v < (len f))) then (Af5 N b i j e l m n o (((List.getD f (Int.toNat v) ((0 : Int), ((0 : Int), (0 : Int)))).1 == (19 : Int))) (fun x => if ((!x) = true) then (g false) else Bs3 N rc e d h a p q f r s t u c g b i j l m n o)) else none)
   else (Af5 N b i j e l m n o false (fun y => if ((!y) = true) then (g false) else Bs3 N rc e d h a p q f r s t u c g b i j l m n o))) else none) else none) else none) else w := rfl
def A77 (l : OpL) (o : List Int) (i : Nat) (x : Int × Int × Int) (d : Int) : Bool :=
 decide (2 ≤ Agl x d) && decide (Agl x d ≤ 4000) &&
 (decide (Aai x ≤ 0) || (((Acc l (Af4 l (o.getD (Aai x).toNat 0).toNat)).1 == 28) == (x.1 == 27))) &&
 (x.1 == 19 || As2 l i || decide (l.length ≤ i + 1) || (Acc l (Af4 l (i + 1))).1 != 28)
theorem Ckf {R : Type} (N : Nat) (l : OpL) (i : Nat) (op : Int) (hl : l.length ≤ 1099511627776) (hN : l.length < N) (ho : Ae0 0 l = true) (hi : i < l.length) (F : Option R) (G : Int → Option R) :
  (if ((op != (19 : Int)) = true) then (Abu N l (i : Int) (fun c => if ((!c) = true) then (let a := (wi ((i : Int) + (1 : Int))); if ((decide ((a < (len l)))) = true) then (Adu N l a (fun b => if (((0 : Int) ≤ b) ∧ (b < (len l))) then (if (((List.getD l (Int.toNat b) ((0 : Int), ((0 : Int), (0 : Int)))).1 == (28 : Int)) = true) then F else (G a)) else none)) else (G a)) else (G (wi ((i : Int) + (1 : Int)))))) else (G (wi ((i : Int) + (1 : Int)))))
   = if (op == 19 || As2 l i || decide (l.length ≤ i + 1) || (Acc l (Af4 l (i + 1))).1 != 28) = true then G ((i + 1 : Nat) : Int) else F := by
 rw [Bp3 N l i hl hi, Acm (by omega)]
 by_cases h19 : op = 19
 ·simp [h19]
 rw [if_pos (by simpa using h19), show (op == 19) = false by simpa using h19, Bool.false_or]
 cases As2 l i
 case true => rfl
 rw [if_pos (by decide), Bool.false_or]
 dsimp only
 by_cases hlt : i + 1 < l.length
 ·rw [if_pos (by simp only [len, decide_eq_true_eq]; omega), Bm8 N l _ hl hN ho (by omega) (by omega), Int.toNat_natCast]
  have h1 := Bbb ho hlt
  rw [if_pos (by simp only [len]; omega), show decide (l.length ≤ i + 1) = false by simp; omega, Bool.false_or]
  show (if ((Acc l (Af4 l (i + 1))).1 == 28) = true then F else _) = _
  unfold bne
  cases (Acc l (Af4 l (i + 1))).1 == 28 <;> rfl
 ·rw [if_neg (by simp only [len, decide_eq_true_eq]; omega), show decide (l.length ≤ i + 1) = true by simp; omega]; rfl
theorem Cl3 {R : Type} (N : Nat) (rc : Aol R) (d : Int) (nm : List UInt8) (data : Aaz) (l : OpL) (gl : Abq) (procs labels : Int) (o : List Int) (i : Nat) (a : Bool → Option R) (x : Int × Int × Int)
  (hd : 0 ≤ d ∧ d ≤ 4000) (hx : 1 ≤ x.1 ∧ x.1 ≤ 30) (hx2 : x.1 = 24 ∨ x.1 = 23 ∨ x.1 = 28 → 0 ≤ x.2.1 ∧ x.2.1 ≤ 4000 ∧ 0 ≤ x.2.2 ∧ x.2.2 ≤ 4000)
  (hn : Aai x = 0 ∨ (1 ≤ Aai x ∧ Aai x < o.length)) (hl : l.length ≤ 1099511627776) (hN : l.length < N) (ho : Ae0 0 l = true) (hi : i < l.length)
  (hov : ∀ n, 0 ≤ o.getD n 0 ∧ o.getD n 0 < l.length) :
  Bs3 N rc d l (len l) i nm data l gl procs labels o Alr a x.1 x.2.1 x.2.2 (kT x.1).1 (kT x.1).2.1 (kT x.1).2.2.1 (kT x.1).2.2.2 =
   if A77 l o i x d = true then rc (Agl x d) l (len l) ((i + 1 : Nat) : Int) nm data l gl procs labels o Alr else a false := by
 unfold Bs3 A77
 rw [if_pos (by omega), if_pos (show x.1 < len Alr from by simp only [len, Alr, List.length_cons, List.length_nil]; omega), B6z N x d hd hx2]
 by_cases h1 : Agl x d < 2
 ·rw [if_pos (by simpa using h1), show decide (2 ≤ Agl x d) = false by simp; omega]; rfl
 rw [if_neg (by simpa using h1), show decide (2 ≤ Agl x d) = true by simp; omega, Bool.true_and]
 by_cases h2 : Agl x d > 4000
 ·rw [if_pos (by simpa using h2), show decide (Agl x d ≤ 4000) = false by simp; omega]; rfl
 rw [if_neg (by simpa using h2), show decide (Agl x d ≤ 4000) = true by simp; omega, Bool.true_and, Bm7, show (x.1, x.2.1, x.2.2) = x from rfl]
 have he := Ckf (R := R) N l i x.1 hl hN ho hi (a false) (fun v => rc (Agl x d) l (len l) v nm data l gl procs labels o Alr)
 by_cases h3 : Aai x > 0
 ·have hv := hov (Aai x).toNat
  have h4 := Bbb ho (j := (o.getD (Aai x).toNat 0).toNat) (by omega)
  rw [if_pos (by simpa using h3), if_pos (by simp only [len]; omega), Bm8 N l _ hl hN ho hv.1 hv.2, if_pos (by simp only [len]; omega), show decide (Aai x ≤ 0) = false by simp; omega, Bool.false_or]
  show (if (!((Acc l (Af4 l (o.getD (Aai x).toNat 0).toNat)).1 == 28) == (x.1 == 27)) = true then _ else _) = _
  cases (((Acc l (Af4 l (o.getD (Aai x).toNat 0).toNat)).1 == 28) == (x.1 == 27))
  ·rfl
  ·rw [if_neg (by decide), Bool.true_and]; exact he
 ·rw [if_neg (by simpa using h3), show decide (Aai x ≤ 0) = true by simp; omega, Bool.true_or, Bool.true_and]; exact he
def Ayv (l : OpL) (i : Nat) : Bool := decide (0 < i) && (Acc l (i - 1)).1 == 19
def Bdr (l : OpL) (o : List Int) : Nat → Int → OpL → Bool
 | _, _, [] => true
 | i, d, x :: r => A15 x d (Ayv l i) && A77 l o i x d && Bdr l o (i + 1) (Agl x d) r
theorem Bzv {nd procs labels : Int} (hp : procs ≤ 200) {x : Int × Int × Int} (h : Ah4 nd procs labels x = true) (hc : x.1 = 24 ∨ x.1 = 23 ∨ x.1 = 28) : 0 ≤ x.2.1 ∧ x.2.1 ≤ 4000 ∧ 0 ≤ x.2.2 ∧ x.2.2 ≤ 4000 := by
 obtain ⟨op, n, m⟩ := x
 simp only at hc
 rcases hc with rfl | rfl | rfl <;> simp [Ah4, Aup, inB] at h <;> simp only <;> omega
theorem Bh3 {nd procs labels : Int} {x : Int × Int × Int} (h : Ah4 nd procs labels x = true) : 1 ≤ x.1 ∧ x.1 ≤ 30 := by
 simp only [Ah4, Bool.and_eq_true, decide_eq_true_eq] at h; exact h.1
theorem Cex {R : Type} (N : Nat) (nm : List UInt8) (data : Aaz) (l : OpL) (gl : Abq) (procs labels : Int) (o : List Int) (nd : Int) (hp : procs ≤ 200) (hl : l.length ≤ 1099511627776) (hN : l.length < N) (ho : Ae0 0 l = true)
  (hall : ∀ x, x ∈ l → Ah4 nd procs labels x = true) (hlen : (o.length : Int) = labels + 1) (hov : ∀ n, 0 ≤ o.getD n 0 ∧ (0 < l.length → o.getD n 0 < l.length)) (a : Bool → Option R) (c : Option R) :
  ∀ (k i : Nat) (d : Int), i ≤ l.length → l.length - i < k → 0 ≤ d ∧ d ≤ 4000 →
   Adk N k d l (len l) i nm data l gl procs labels o Alr a c = if Bdr l o i d (l.drop i) then c else a false := by
 intro k
 induction k with
 | zero => intro i _ _ h; omega
 | succ k ih =>
  intro i d hi hk hd
  simp only [Adk, Cew]
  by_cases hlt : i < l.length
  case neg =>
   rw [if_neg (by simp [len]; omega), List.drop_eq_nil_of_le (by omega)]
   simp [Bdr]
  have hin : (0 : Int) ≤ i ∧ (i : Int) < len l := by simp only [len]; omega
  have hd' : l.drop i = l[i] :: l.drop (i + 1) := List.drop_eq_getElem_cons hlt
  have hx' := hall l[i] (List.getElem_mem hlt)
  rw [if_pos (by simp [len]; omega), if_pos hin, Ahb _ _ hlt, hd', Bdr]
  obtain ⟨x, hx⟩ : ∃ x, l[i] = x := ⟨_, rfl⟩
  simp only [hx] at hx' ⊢
  have hop := Bh3 hx'
  have hnm : Aai x = 0 ∨ (1 ≤ Aai x ∧ Aai x < o.length) := by
   rcases Bla hx' with h | h
   ·exact .inl h
   ·exact .inr ⟨h.1, by omega⟩
  rw [if_pos (by omega), if_pos (show x.1 < len Alr from by simp only [len, Alr, List.length_cons, List.length_nil]; omega),
   show List.getD Alr (Int.toNat x.1) (([] : List UInt8), ((0 : Int), ((0 : Int), (0 : Int)))) = kT x.1 from rfl]
  have tail := Cl3 N (fun e f g j m p q r s t u v => Adk N k e f g j m p q r s t u v a c) d nm data l gl procs labels o i a x hd hop (Bzv hp hx') hnm hl hN ho hlt (fun n => ⟨(hov n).1, (hov n).2 (by omega)⟩)
  have fin : ∀ b, b = Ayv l i → (if (!A15 x d b) = true then a false else Bs3 N (fun e f g j m p q r s t u v => Adk N k e f g j m p q r s t u v a c) d l (len l) i nm data l gl procs labels o Alr a x.1 x.2.1 x.2.2 (kT x.1).1 (kT x.1).2.1 (kT x.1).2.2.1 (kT x.1).2.2.2)
    = if (A15 x d (Ayv l i) && A77 l o i x d && Bdr l o (i + 1) (Agl x d) (l.drop (i + 1))) = true then c else a false := by
   intro b hb
   subst hb
   cases A15 x d (Ayv l i)
   ·rfl
   rw [if_neg (by decide), tail, Bool.true_and]
   cases ht : A77 l o i x d
   ·rfl
   have hy : 0 ≤ Agl x d ∧ Agl x d ≤ 4000 := by
    simp only [A77, Bool.and_eq_true, decide_eq_true_eq] at ht; omega
   rw [if_pos rfl, ih (i + 1) _ (by omega) (by omega) hy, Bool.true_and]
  by_cases h0 : 0 < i
  ·have hw : wi ((i : Int) - 1) = ((i - 1 : Nat) : Int) := by rw [Afv (by omega) (by omega)]; omega
   rw [if_pos (by simp; omega), hw, if_pos (by simp only [len]; omega), Bp4 N x d _ hd]
   exact fin _ (by unfold Ayv Acc; rw [show decide (0 < i) = true by simp; omega, Bool.true_and, Int.toNat_natCast])
  ·rw [if_neg (by simp; omega), Bp4 N x d _ hd]
   exact fin _ (by unfold Ayv; rw [show decide (0 < i) = false by simp; omega, Bool.false_and])
theorem Cp8 : ∀ (l : OpL) (i : Nat) (p m : Int) (o a : List Int) (r : Int × Int × List Int × List Int), plF i l p m o a = some r → ∀ (L : Nat), i + l.length ≤ L → (∀ n, 0 ≤ o.getD n 0 ∧ (0 < L → o.getD n 0 < L)) → ∀ n, 0 ≤ r.2.2.1.getD n 0 ∧ (0 < L → r.2.2.1.getD n 0 < L) := by
 intro l
 induction l with
 | nil => intro i p m o a r h L _ ho; simp only [plF, Option.some.injEq] at h; subst h; exact ho
 | cons x l ih =>
  intro i p m o a r h L hL ho
  rw [List.length_cons] at hL
  rw [plF] at h
  split at h
  ·split at h
   ·exact ih _ _ _ _ _ _ h L (by omega) ho
   ·cases h
  ·split at h
   ·split at h
    ·cases h
    ·refine ih _ _ _ _ _ _ h L (by omega) (fun n => ?_)
     rw [List.getD_eq_getElem?_getD, List.getElem?_set]
     split
     ·split
      ·simp only [Option.getD_some]; omega
      ·simp only [Option.getD_none]; omega
     ·rw [← List.getD_eq_getElem?_getD]; exact ho n
   ·exact ih _ _ _ _ _ _ h L (by omega) ho
theorem Bwf {l : OpL} {procs labels : Int} {r : Bool × List Int × List Int} (h : Alc l procs labels = some r) : ∀ n, 0 ≤ r.2.1.getD n 0 ∧ (0 < l.length → r.2.1.getD n 0 < l.length) := by
 unfold Alc at h
 split at h
 ·cases h
 ·rename_i p m o a he
  have := Cp8 _ _ _ _ _ _ _ he l.length (by omega) (fun n => by
   rw [List.getD_eq_getElem?_getD, List.getElem?_replicate]
   split <;> simp <;> omega)
  simp only [Option.some.injEq] at h
  subst h
  exact this
def Awd (l : OpL) (procs labels : Int) : Bool :=
 match Alc l procs labels with
 | none => false
 | some (_, o, _) => Bdr l o 0 0 l
theorem Bzw {R : Type} {N : Nat} {nm : List UInt8} {data : Aaz} {l : OpL} {gl : Abq} {procs labels : Int} (F : B6w N nm data l gl procs labels) (hc : Bh2 nm data l gl procs labels = true) (K : Bool → Option R) :
  Ahj N nm data l gl procs labels K = K (Awd l procs labels) := by
 simp only [Bh2, Bool.and_eq_true, decide_eq_true_eq] at hc
 obtain ⟨⟨⟨⟨_, hp0⟩, hl0⟩, hn⟩, hc⟩ := hc
 have hall : ∀ o, o ∈ l → Ah4 data.length procs labels o = true := List.all_eq_true.mp hn
 simp only [Ahj, A6q, Acj]
 rw [Bj5 N _ _ _ _ _ _ F.l1 F.l2 ⟨by omega, by have := F.lb; omega⟩ (fun o ho h => Bzu (hall o ho) h)]
 unfold Awd
 cases hp : Alc l procs labels with
 | none => rw [hp] at hc; cases hc
 | some r =>
  obtain ⟨b, o, a⟩ := r
  rw [hp] at hc
  simp only [Bool.and_eq_true] at hc
  have hlen := Blb hp
  have hval := Bwf hp
  simp only at hlen hval
  dsimp only
  have hs := Cex (R := R) N nm data l gl procs labels o data.length F.pb F.l2 F.l1 hc.1.1.2.1 hall (by omega) hval (fun c => K c) (K true) N 0 0 (by omega) (by have := F.l1; omega) (by omega)
  rw [List.drop_zero] at hs
  refine Eq.trans hs ?_
  cases Bdr l o 0 0 l <;> rfl
def Bm9 (nm : List UInt8) (data : Aaz) (l : OpL) (gl : Abq) (procs labels : Int) : Int :=
 if A75 data l procs labels then 2 else if Bh2 nm data l gl procs labels then (if Awd l procs labels then 0 else 61) else 60
structure Bh4 (N : Nat) (nm : List UInt8) (data : Aaz) (gl : Abq) : Prop where
 n1 : nm.length ≤ 1099511627776
 n2 : nm.length < N
 d0 : A76 data
 d1 : Bm5 data
 d3 : ∀ d, d ∈ data → d.1.length < N ∧ d.2.2.length < N
 N1 : 40000 < N
 g1 : gl.length < N
 g2 : gl.length ≤ 1099511627776
theorem B60 {R : Type} {N : Nat} {nm : List UInt8} {data : Aaz} {gl : Abq} (F : Bh4 N nm data gl) (l : OpL) (procs labels : Int) (K : Int → Option R) :
  Afu N nm data l gl procs labels K = K (Bm9 nm data l gl procs labels) := by
 simp only [Afu, Bch]
 rw [B6s N _ _ _ _ _ _ F.d0 (by have := F.N1; omega)]
 unfold Bm9
 cases h : A75 data l procs labels
 case true => rfl
 simp only [A75, Bool.or_eq_false_iff, decide_eq_false_iff_not] at h
 have G : B6w N nm data l gl procs labels := ⟨F.n1, F.n2, by have := F.N1; omega, by omega, F.d1, by omega, F.d3, by have := F.N1; omega, F.g1, F.g2, by omega, by omega⟩
 rw [if_neg (by decide), B6x G]
 cases hc : Bh2 nm data l gl procs labels
 ·rfl
 rw [if_neg (by decide), Bzw G hc]
 cases Awd l procs labels <;> rfl
theorem A0q (s : List Int) (i n : Nat) (v : Int) : (s.set i v).getD n 0 = if i = n ∧ i < s.length then v else s.getD n 0 := by
 rw [List.getD_eq_getElem?_getD, List.getElem?_set]
 by_cases h : i = n
 ·subst h
  by_cases h2 : i < s.length
  ·simp [h2]
  ·simp [h2]
 ·simp [h, List.getD_eq_getElem?_getD]
def A9n : OpL → Int → Int → Option (Int × Int)
 | [], p, m => some (p, m)
 | x :: r, p, m => if x.1 = 24 then (if x.2.1 = p + 1 then A9n r (p + 1) m else none)
  else A9n r p (if x.1 = 19 then (if x.2.1 > m then x.2.1 else m) else m)
def Blc (l : OpL) (p m procs labels : Int) : Bool := match A9n l p m with | none => false | some (p', m') => p' == procs && m' == labels
theorem Bj6 {R : Type} (N : Nat) (a b c : Int) (K : Bool → Option R) : Aay N a b c K = K (Ag8 a) := by
 simp only [Aay, Ag8]
 cases a != 20 <;> cases a != 25 <;> cases a != 26 <;> cases a != 27 <;> cases a != 29 <;> cases a != 30 <;> rfl
theorem Bna {R : Type} (N : Nat) (a b c : Int) (K : Int → Option R) : Aa8 N a b c K = K (Aai (a, b, c)) := by
 simp only [Aa8, Bcx, Ad9, Aai]
 by_cases h1 : a = 20
 ·simp [h1]
 by_cases h2 : a = 21
 ·simp [h2]
 by_cases h3 : a = 22
 ·simp [h3]
 by_cases h4 : a = 27
 ·simp [h4]
 by_cases h5 : a = 29
 ·simp [h5]
 by_cases h6 : a = 30
 ·simp [h6]
 simp [h1, h2, h3, h4, h5, h6]
def Btv (i : Nat) (x : Int × Int × Int) (r : OpL) : Bool := (!Ag8 x.1 || (Adz r != none && Adz r != some 24)) && (decide (0 < i) || x.1 == 24)
theorem Cgl {R : Type} (N : Nat) (p m c : Int) (nm : List UInt8) (data : Aaz) (l : OpL) (gl : Abq) (procs labels : Int) (i : Nat) (x : Int × Int × Int) (hl : l.length ≤ 1099511627776) (hi : i < l.length)
  (b : Bool → Option R) (a : Int → Int → Int → Int → List UInt8 → Aaz → OpL → Abq → Int → Int → Option R) :
  Ab5 N p m c i (decide (((i + 1 : Nat) : Int) ≥ len l)) nm data l gl procs labels x.1 x.2.1 x.2.2 b a = if Btv i x (l.drop (i + 1)) = true then a p m c i nm data l gl procs labels else b false := by
 simp only [Ab5, A4u, Bj6]
 have first : (if ((i : Int) == 0) = true then (if (x.1 != 24) = true then b false else a p m c i nm data l gl procs labels) else a p m c i nm data l gl procs labels) = if (decide (0 < i) || x.1 == 24) = true then a p m c i nm data l gl procs labels else b false := by
  by_cases h0 : i = 0
  ·subst h0
   rw [if_pos (by decide)]
   unfold bne
   cases x.1 == 24 <;> rfl
  ·rw [if_neg (by simp; omega), show decide (0 < i) = true by simp; omega]; rfl
 rw [first]
 unfold Btv
 rw [Bs2, Acm (by omega)]
 cases Ag8 x.1
 ·rfl
 rw [if_pos rfl]
 by_cases h : i + 1 < l.length
 ·rw [show decide (((i + 1 : Nat) : Int) ≥ len l) = false by simp only [len, decide_eq_false_iff_not]; omega, if_neg (by decide), if_pos h]
  rw [if_pos (by simp only [len]; omega), show l.getD (Int.toNat ((i + 1 : Nat) : Int)) (0, 0, 0) = Acc l (i + 1) by unfold Acc; rw [Int.toNat_natCast]]
  by_cases h24 : (Acc l (i + 1)).1 = 24
  ·rw [if_pos (by simpa using h24), h24]; rfl
  ·rw [if_neg (by simpa using h24), show (some (Acc l (i + 1)).1 != some 24) = true by simpa using h24]; rfl
 ·rw [show decide (((i + 1 : Nat) : Int) ≥ len l) = true by simp only [len, decide_eq_true_eq]; omega, if_pos rfl, if_neg h]; rfl
theorem B79 (c : Nat) (x : Int × Int × Int) (r : OpL) (hx : 1 ≤ x.1) : Ae0 c (x :: r) = (decide (0 < c) == (x.1 == 30) && (x.1 != 19 || (Adz r == some 18 || Adz r == some 28 || Adz r == some 19)) && (!Ag8 x.1 || (Adz r != none && Adz r != some 24)) && Ae0 (if x.1 = 29 then x.2.2.toNat else c - 1) r) := by
 cases c with
 | succ c =>
  rw [Ae0, show decide (0 < c + 1) = true by simp]
  by_cases h : x.1 = 30
  ·rw [h]; simp [Ag8]
  ·have h' : (x.1 == 30) = false := by simpa using h
   rw [h']; rfl
 | zero =>
  rw [Ae0, show decide (0 < 0) = false by decide]
  by_cases h : x.1 = 30
  ·rw [h]; simp
  ·have h' : (x.1 == 30) = false := by simpa using h
   have h2 : (x.1 != 30) = true := by simpa using h
   rw [h', h2]
   by_cases h29 : x.1 = 29
   ·rw [if_pos h29, if_pos h29, h29]; simp [Ag8]
   ·rw [if_neg h29, if_neg h29]; simp only [A0p, Bool.true_and]; rfl
theorem B8a (x : Int × Int × Int) (r : OpL) (p m : Int) : A9n (x :: r) p m = if x.1 = 24 then (if x.2.1 = p + 1 then A9n r (p + 1) m else none) else A9n r p (if x.1 = 19 then (if x.2.1 > m then x.2.1 else m) else m) := rfl
theorem Cgm {R : Type} (N : Nat) (nm : List UInt8) (data : Aaz) (l : OpL) (gl : Abq) (procs labels : Int) (hl : l.length ≤ 1099511627776) (hop : ∀ o, o ∈ l → 1 ≤ o.1) (hM : ∀ o, o ∈ l → o.1 = 29 → 0 ≤ o.2.2 ∧ o.2.2 ≤ 1000) (K : Bool → Option R) :
  ∀ (k i : Nat) (p m : Int) (c : Nat), i ≤ l.length → l.length - i < k → 0 ≤ p → p ≤ i → c ≤ 1000 →
  Ac8 N k p m c i nm data l gl procs labels (fun a => K a) (fun b d e j n q s f g => if ((e == (0 : Int)) = true) then (if ((b == f) = true) then (K ((d == g))) else (K false)) else (K false)) =
   K (Ae0 c (l.drop i) && (decide (0 < i) || Alo l) && Blc (l.drop i) p m procs labels) := by
 intro k
 induction k with
 | zero => intro i _ _ _ _ h; omega
 | succ k ih =>
  intro i p m c hi hk hp hpi hc
  simp only [Ac8, A7h]
  by_cases hlt : i < l.length
  case neg =>
   rw [if_neg (by simp [len]; omega), List.drop_eq_nil_of_le (by omega)]
   have hf : (decide (0 < i) || Alo l) = true := by
    by_cases h0 : 0 < i
    ·simp [h0]
    ·have : l = [] := List.eq_nil_of_length_eq_zero (by omega)
     subst this; simp [Alo, Adz]
   rw [hf, Blc, A9n]
   simp only [Ae0, Bool.and_true]
   cases c with
   | zero =>
    rw [if_pos (by decide)]
    simp only [beq_self_eq_true, Bool.true_and]
    cases hpp : p == procs <;> simp
   | succ c => simp; omega
  have hin : (0 : Int) ≤ i ∧ (i : Int) < len l := by simp only [len]; omega
  have hop' := hop l[i] (List.getElem_mem hlt)
  have hM' := hM l[i] (List.getElem_mem hlt)
  have hhd : Adz (l.drop (i + 1)) = if i + 1 < l.length then some (Acc l (i + 1)).1 else none := Bs2
  rw [if_pos (by simp [len]; omega), if_pos hin, Ahb _ _ hlt, List.drop_eq_getElem_cons hlt]
  have hfst : (decide (0 < i) || Alo l) = (decide (0 < i) || (l[i]).1 == 24) := by
   by_cases h0 : 0 < i
   ·simp [h0]
   ·obtain rfl : i = 0 := by omega
    cases l with
    | nil => simp at hlt
    | cons y r => simp [Alo, Adz]
  rw [hfst]
  obtain ⟨x, hx⟩ : ∃ x, l[i] = x := ⟨_, rfl⟩
  simp only [hx] at hop' hM' ⊢
  rw [B79 c x _ hop']
  have hcd : decide ((c : Int) > 0) = decide (0 < c) := by congr 1; simp
  rw [hcd]
  by_cases h1 : (decide (0 < c) == (x.1 == 30)) = true
  case neg =>
   have h1' : (decide (0 < c) == (x.1 == 30)) = false := by simpa using h1
   rw [h1', if_pos (by decide)]; simp
  rw [h1, if_neg (by decide), Bool.true_and]
  have rest : ∀ c1 : Nat, c1 = c - 1 → Adg N p m (c1 : Int) i nm data l gl procs labels x.1 x.2.1 x.2.2 (fun a => K a) (fun b d e j n q s f g t => Ac8 N k b d e (wi (j + 1)) n q s f g t (fun a => K a) (fun b d e j n q s f g => if ((e == (0 : Int)) = true) then (if ((b == f) = true) then (K ((d == g))) else (K false)) else (K false))) =
    K ((x.1 != 19 || (Adz (l.drop (i + 1)) == some 18 || Adz (l.drop (i + 1)) == some 28 || Adz (l.drop (i + 1)) == some 19)) && (!Ag8 x.1 || (Adz (l.drop (i + 1)) != none && Adz (l.drop (i + 1)) != some 24)) && Ae0 (if x.1 = 29 then x.2.2.toNat else c - 1) (l.drop (i + 1)) && (decide (0 < i) || x.1 == 24) && Blc (x :: l.drop (i + 1)) p m procs labels) := by
   intro c1 hc1
   have fin : ∀ (p2 m2 : Int) (c2 : Nat), 0 ≤ p2 → p2 ≤ i + 1 → c2 ≤ 1000 → Ab5 N p2 m2 c2 i (decide (((i + 1 : Nat) : Int) ≥ len l)) nm data l gl procs labels x.1 x.2.1 x.2.2 (fun a => K a) (fun b d e j n q s f g t => Ac8 N k b d e (wi (j + 1)) n q s f g t (fun a => K a) (fun b d e j n q s f g => if ((e == (0 : Int)) = true) then (if ((b == f) = true) then (K ((d == g))) else (K false)) else (K false))) =
     K (Btv i x (l.drop (i + 1)) && Ae0 c2 (l.drop (i + 1)) && Blc (l.drop (i + 1)) p2 m2 procs labels) := by
    intro p2 m2 c2 h0 h2 h3
    rw [Cgl N p2 m2 c2 nm data l gl procs labels i x hl hlt]
    by_cases he : Btv i x (l.drop (i + 1)) = true
    ·rw [if_pos he, he, Acm (by omega), ih (i + 1) p2 m2 c2 (by omega) (by omega) h0 (by omega) h3, show decide (0 < i + 1) = true by simp]; simp
    ·rw [if_neg he, show Btv i x (l.drop (i + 1)) = false by simpa using he]; rfl
   simp only [Adg, A4v]
   rw [Acm (by omega)]
   have hw : wi (p + 1) = p + 1 := Afv (by omega) (by omega)
   unfold Btv at fin
   unfold Blc at fin ⊢
   rw [B8a]
   by_cases h24 : x.1 = 24
   ·rw [if_pos (by simpa using h24), hw, if_pos h24, if_neg (show ¬x.1 = 29 by omega), show (x.1 != 19) = true by rw [h24]; rfl, Bool.true_or, Bool.true_and]
    by_cases he : x.2.1 = p + 1
    ·rw [if_neg (by simp [he]), if_pos he, fin (p + 1) m c1 (by omega) (by omega) (by omega), hc1]
     congr 1
     cases (!Ag8 x.1 || (Adz (l.drop (i + 1)) != none && Adz (l.drop (i + 1)) != some 24)) <;> cases (decide (0 < i) || x.1 == 24) <;> cases Ae0 (c - 1) (l.drop (i + 1)) <;> rfl
    ·rw [if_pos (by simpa using he), if_neg he]; simp
   rw [if_neg (by simpa using h24), if_neg h24]
   by_cases h29 : x.1 = 29
   ·rw [if_pos (by simpa using h29), if_pos h29, if_neg (show ¬x.1 = 19 by omega), show (x.1 != 19) = true by rw [h29]; rfl, Bool.true_or, Bool.true_and]
    have hm := hM' h29
    obtain ⟨M, hMe⟩ := Int.eq_ofNat_of_zero_le hm.1
    have fM := fin p m M hp (by omega) (by omega)
    rw [hMe] at fM
    rw [hMe, fM, Int.toNat_natCast]
    congr 1
    cases (!Ag8 x.1 || (Adz (l.drop (i + 1)) != none && Adz (l.drop (i + 1)) != some 24)) <;> cases (decide (0 < i) || x.1 == 24) <;> cases Ae0 M (l.drop (i + 1)) <;> rfl
   rw [if_neg (by simpa using h29), if_neg h29]
   by_cases h19 : x.1 = 19
   ·rw [if_pos (by simpa using h19), if_pos h19, show (x.1 != 19) = false by rw [h19]; rfl, Bool.false_or]
    have fin2 := fin p (if x.2.1 > m then x.2.1 else m) c1 hp (by omega) (by omega)
    by_cases hlt1 : i + 1 < l.length
    ·have hg : l.getD (Int.toNat ((i + 1 : Nat) : Int)) (0, 0, 0) = Acc l (i + 1) := by unfold Acc; rw [Int.toNat_natCast]
     have hin1 : (0 : Int) ≤ ((i + 1 : Nat) : Int) ∧ ((i + 1 : Nat) : Int) < len l := by simp only [len]; omega
     have hx1 : decide (((i + 1 : Nat) : Int) ≥ len l) = false := by simp only [len, decide_eq_false_iff_not]; omega
     rw [hx1] at fin2 ⊢
     rw [if_neg (by decide)]
     simp only [if_pos hin1, hg]
     rw [hhd, if_pos hlt1]
     rw [hhd, if_pos hlt1] at fin2
     have comm : ((!Ag8 x.1 || (some (Acc l (i + 1)).1 != none && some (Acc l (i + 1)).1 != some 24)) && (decide (0 < i) || x.1 == 24) && Ae0 c1 (l.drop (i + 1)) && (match A9n (l.drop (i + 1)) p (if x.2.1 > m then x.2.1 else m) with | none => false | some (p', m') => p' == procs && m' == labels)) =
       (true && (!Ag8 x.1 || (some (Acc l (i + 1)).1 != none && some (Acc l (i + 1)).1 != some 24)) && Ae0 (c - 1) (l.drop (i + 1)) && (decide (0 < i) || x.1 == 24) && (match A9n (l.drop (i + 1)) p (if x.2.1 > m then x.2.1 else m) with | none => false | some (p', m') => p' == procs && m' == labels)) := by
      rw [hc1]
      cases (!Ag8 x.1 || (some (Acc l (i + 1)).1 != none && some (Acc l (i + 1)).1 != some 24)) <;> cases (decide (0 < i) || x.1 == 24) <;> cases Ae0 (c - 1) (l.drop (i + 1)) <;> rfl
     by_cases a1 : (Acc l (i + 1)).1 = 18
     ·rw [if_neg (by simpa using a1), show (some (Acc l (i + 1)).1 == some 18 || some (Acc l (i + 1)).1 == some 28 || some (Acc l (i + 1)).1 == some 19) = true by rw [a1]; rfl]
      exact fin2.trans (by rw [comm])
     rw [if_pos (by simpa using a1)]
     by_cases a2 : (Acc l (i + 1)).1 = 28
     ·rw [if_neg (by simpa using a2), show (some (Acc l (i + 1)).1 == some 18 || some (Acc l (i + 1)).1 == some 28 || some (Acc l (i + 1)).1 == some 19) = true by rw [a2]; rfl]
      exact fin2.trans (by rw [comm])
     rw [if_pos (by simpa using a2)]
     by_cases a3 : (Acc l (i + 1)).1 = 19
     ·rw [if_neg (by simpa using a3), show (some (Acc l (i + 1)).1 == some 18 || some (Acc l (i + 1)).1 == some 28 || some (Acc l (i + 1)).1 == some 19) = true by rw [a3]; rfl]
      exact fin2.trans (by rw [comm])
     ·have b1 : (some (Acc l (i + 1)).1 == some 18) = false := by simpa using a1
      have b2 : (some (Acc l (i + 1)).1 == some 28) = false := by simpa using a2
      have b3 : (some (Acc l (i + 1)).1 == some 19) = false := by simpa using a3
      rw [if_pos (by simpa using a3), b1, b2, b3]; rfl
    ·rw [if_pos (by simp only [len, decide_eq_true_eq]; omega), hhd, if_neg hlt1]; rfl
   ·rw [if_neg (by simpa using h19), if_neg h19, show (x.1 != 19) = true by simpa using h19, Bool.true_or, Bool.true_and, fin p m c1 hp (by omega) (by omega), hc1]
    congr 1
    cases (!Ag8 x.1 || (Adz (l.drop (i + 1)) != none && Adz (l.drop (i + 1)) != some 24)) <;> cases (decide (0 < i) || x.1 == 24) <;> cases Ae0 (c - 1) (l.drop (i + 1)) <;> rfl
  by_cases h0 : 0 < c
  ·rw [if_pos (by simpa using h0)]
   have hw : wi ((c : Int) - 1) = ((c - 1 : Nat) : Int) := by rw [Afv (by omega) (by omega)]; omega
   rw [hw]
   exact rest (c - 1) rfl
  ·rw [if_neg (by simpa using h0)]
   obtain rfl : c = 0 := by omega
   exact rest 0 rfl
theorem Cl4 {R : Type} (N : Nat) (nm : List UInt8) (data : Aaz) (l : OpL) (gl : Abq) (procs labels : Int) (hl : l.length ≤ 1099511627776) (hN : l.length < N) (hop : ∀ o, o ∈ l → 1 ≤ o.1) (hM : ∀ o, o ∈ l → o.1 = 29 → 0 ≤ o.2.2 ∧ o.2.2 ≤ 1000) (K : Bool → Option R) :
  Ags N nm data l gl procs labels K = K (Ae0 0 l && Alo l && Blc l 0 0 procs labels) := by
 simp only [Ags, Bcu]
 have := Cgm N nm data l gl procs labels hl hop hM K N 0 0 0 0 (by omega) (by omega) (by omega) (by omega) (by omega)
 rw [show ((0 : Nat) : Int) = 0 from rfl, List.drop_zero] at this
 exact this
def plR : Nat → OpL → Int → List Int → List Int → Option (List Int × List Int)
 | _, [], _, pl, pr => some (pl, pr)
 | i, x :: r, p, pl, pr =>
  if x.1 = 19 then (if 0 ≤ pl.getD x.2.1.toNat 0 then none else plR (i + 1) r p (pl.set x.2.1.toNat i) (pr.set i p))
  else plR (i + 1) r (if x.1 = 24 then p + 1 else p) pl (pr.set i (if x.1 = 24 then p + 1 else p))
def Bog : Nat → OpL → List Int → List Int → Bool
 | _, [], _, _ => true
 | i, x :: r, pl, pr => (decide (Aai x ≤ 0) || (decide (0 ≤ pl.getD (Aai x).toNat 0) && pr.getD (pl.getD (Aai x).toNat 0).toNat 0 == pr.getD i 0)) && Bog (i + 1) r pl pr
theorem Bnb : ∀ (r : OpL) (i : Nat) (p : Int) (pl pr : List Int) (q : List Int × List Int), plR i r p pl pr = some q → q.1.length = pl.length ∧ q.2.length = pr.length
 | [], _, _, _, _, q, h => by simp only [plR, Option.some.injEq] at h; subst h; exact ⟨rfl, rfl⟩
 | x :: r, i, p, pl, pr, q, h => by
  rw [plR] at h
  split at h
  ·split at h
   ·cases h
   ·have := Bnb r _ _ _ _ q h
    simpa using this
  ·have := Bnb r _ _ _ _ q h
   simpa using this
theorem Cey : ∀ (r : OpL) (i : Nat) (p : Int) (pl pr : List Int) (q : List Int × List Int) (L : Int), plR i r p pl pr = some q → ((i + r.length : Nat) : Int) ≤ L → (∀ n, pl.getD n 0 < L ∨ pl.getD n 0 ≤ 0) → (∀ n, q.1.getD n 0 < L ∨ q.1.getD n 0 ≤ 0)
 | [], _, _, _, _, q, L, h, _, hv => by simp only [plR, Option.some.injEq] at h; subst h; exact hv
 | x :: r, i, p, pl, pr, q, L, h, hL, hv => by
  rw [List.length_cons] at hL
  rw [plR] at h
  split at h
  ·split at h
   ·cases h
   ·refine Cey r _ _ _ _ q L h (by omega) (fun n => ?_)
    rw [A0q]
    split
    ·left; omega
    ·exact hv n
  ·exact Cey r _ _ _ _ q L h (by omega) hv
theorem Ca8 {R : Type} (N : Nat) (nm : List UInt8) (data : Aaz) (l : OpL) (gl : Abq) (procs labels : Int) (a b pr : List Int) (hb : labels ≤ 1000000) (K : List UInt8 → Aaz → OpL → Abq → Int → Int → List Int → List Int → List Int → List Int → Option R) :
  ∀ (m k i : Nat) (pl : List Int), m < k → (i : Int) + m = labels + 1 → (pl.length : Int) = labels + 1 →
  Ab6 N k i nm data l gl procs labels a b pl pr K = K nm data l gl procs labels a b (pl.take i ++ List.replicate m (-1)) pr := by
 intro m
 induction m with
 | zero =>
  intro k i pl hk hi hl
  obtain ⟨k, rfl⟩ := exk hk
  simp only [Ab6, Avy]
  rw [if_neg (by simp only [decide_eq_true_eq]; omega), List.take_of_length_le (by omega)]; simp
 | succ m ih =>
  intro k i pl hk hi hl
  obtain ⟨k, rfl⟩ := exk hk
  simp only [Ab6, Avy]
  rw [if_pos (by simp only [decide_eq_true_eq]; omega), if_pos (by simp only [len]; omega), Acm (by omega), Int.toNat_natCast, ih k (i + 1) _ (by omega) (by omega) (by rw [List.length_set]; exact hl)]
  have e : (pl.set i (-1)).take (i + 1) = pl.take i ++ [-1] := by
   rw [List.take_add_one, List.take_set, List.getElem?_set_self (by omega), List.set_eq_of_length_le (by rw [List.length_take]; omega)]; rfl
  rw [e, List.append_assoc, List.replicate_succ]; rfl
theorem B61 {R : Type} (N : Nat) (nm : List UInt8) (data : Aaz) (l : OpL) (gl : Abq) (procs labels : Int) (d e : List Int) (hl : l.length ≤ 1099511627776) (hL : ∀ o, o ∈ l → o.1 = 19 → 1 ≤ o.2.1 ∧ o.2.1 ≤ labels)
  (c : Bool → List Int → List Int → Option R) (f : List UInt8 → Aaz → OpL → Abq → Int → Int → List Int → List Int → List Int → List Int → Option R) (hK : ∀ a b a' b', c false a b = c false a' b') :
  ∀ (k i : Nat) (p : Int) (pl pr : List Int), i ≤ l.length → l.length - i < k → 0 ≤ p → p ≤ i → (pl.length : Int) = labels + 1 → pr.length = l.length →
  Abo N k p i nm data l gl procs labels d e pl pr c f = match plR i (l.drop i) p pl pr with | none => c false [] [] | some (pl', pr') => f nm data l gl procs labels d e pl' pr' := by
 intro k
 induction k with
 | zero => intro i _ _ _ _ h; omega
 | succ k ih =>
  intro i p pl pr hi hk hp hpi hpl hpr
  simp only [Abo, A1u]
  by_cases hlt : i < l.length
  case neg =>
   rw [if_neg (by simp [len]; omega), List.drop_eq_nil_of_le (by omega)]; rfl
  have hin : (0 : Int) ≤ i ∧ (i : Int) < len l := by simp only [len]; omega
  have hinp : (0 : Int) ≤ i ∧ (i : Int) < len pr := by simp only [len]; omega
  have hL' := hL l[i] (List.getElem_mem hlt)
  rw [if_pos (by simp [len]; omega), if_pos hin, Ahb _ _ hlt, List.drop_eq_getElem_cons hlt, plR]
  simp only [Aca, if_pos hin, if_pos hinp, Ahb _ _ hlt]
  obtain ⟨x, hx⟩ : ∃ x, l[i] = x := ⟨_, rfl⟩
  simp only [hx] at hL' ⊢
  rw [Acm (by omega), Int.toNat_natCast]
  have hw : wi (p + 1) = p + 1 := Afv (by omega) (by omega)
  by_cases h24 : x.1 = 24
  ·rw [if_pos (by simpa using h24), if_neg (show ¬(x.1 == 19) = true by rw [h24]; decide), if_neg (show ¬x.1 = 19 by omega), if_pos h24, hw]
   exact ih (i + 1) (p + 1) pl _ (by omega) (by omega) (by omega) (by omega) hpl (by rw [List.length_set]; exact hpr)
  rw [if_neg (by simpa using h24), if_neg h24]
  by_cases h19 : x.1 = 19
  ·have hv := hL' h19
   have hip : 0 ≤ x.2.1 ∧ x.2.1 < len pl := by simp only [len]; omega
   rw [if_pos (by simpa using h19), if_pos h19]
   simp only [if_pos hip]
   by_cases h0 : 0 ≤ pl.getD x.2.1.toNat 0
   ·rw [if_pos (by simpa using h0), if_pos h0]
    exact hK _ _ _ _
   ·rw [if_neg (by simpa using h0), if_neg h0]
    exact ih (i + 1) p _ _ (by omega) (by omega) hp (by omega) (by rw [List.length_set]; exact hpl) (by rw [List.length_set]; exact hpr)
  ·rw [if_neg (by simpa using h19), if_neg h19]
   exact ih (i + 1) p pl _ (by omega) (by omega) hp (by omega) hpl (by rw [List.length_set]; exact hpr)
theorem B62 {R : Type} (N : Nat) (nm : List UInt8) (data : Aaz) (l : OpL) (gl : Abq) (procs labels : Int) (a b pl pr : List Int) (hl : l.length ≤ 1099511627776) (hn : ∀ x, x ∈ l → Aai x = 0 ∨ (1 ≤ Aai x ∧ Aai x ≤ labels)) (hpl : (pl.length : Int) = labels + 1) (hpr : pr.length = l.length) (hv : ∀ n, pl.getD n 0 < l.length ∨ pl.getD n 0 ≤ 0)
  (c : Bool → List Int → List Int → Option R) (d : List Int → List Int → List Int → List Int → Option R) :
  ∀ (k i : Nat), i ≤ l.length → l.length - i < k →
  Abi N k i nm data l gl procs labels a b pl pr c d = if Bog i (l.drop i) pl pr = true then d a b pl pr else c false pl pr := by
 intro k
 induction k with
 | zero => intro i _ h; omega
 | succ k ih =>
  intro i hi hk
  simp only [Abi, A1x]
  by_cases hlt : i < l.length
  case neg =>
   rw [if_neg (by simp [len]; omega), List.drop_eq_nil_of_le (by omega)]; rfl
  have hin : (0 : Int) ≤ i ∧ (i : Int) < len l := by simp only [len]; omega
  have hinp : (0 : Int) ≤ i ∧ (i : Int) < len pr := by simp only [len]; omega
  have hn' := hn l[i] (List.getElem_mem hlt)
  rw [if_pos (by simp [len]; omega), if_pos hin, Ahb _ _ hlt, List.drop_eq_getElem_cons hlt, Bog]
  obtain ⟨x, hx⟩ : ∃ x, l[i] = x := ⟨_, rfl⟩
  simp only [hx, Bna] at hn' ⊢
  rw [show (x.1, x.2.1, x.2.2) = x from rfl, Acm (by omega), ih (i + 1) (by omega) (by omega)]
  by_cases h0 : Aai x > 0
  ·have hip : 0 ≤ Aai x ∧ Aai x < len pl := by simp only [len]; omega
   rw [if_pos (by simpa using h0), if_pos hip, show decide (Aai x ≤ 0) = false by simp; omega, Bool.false_or]
   have hv' := hv (Aai x).toNat
   by_cases hneg : pl.getD (Aai x).toNat 0 < 0
   ·rw [if_pos (by simpa using hneg), show decide (0 ≤ pl.getD (Aai x).toNat 0) = false from decide_eq_false (by omega)]; rfl
   ·rw [if_neg (by simpa using hneg), if_pos hip, if_pos (by simp only [len]; omega), if_pos hinp, show decide (0 ≤ pl.getD (Aai x).toNat 0) = true from decide_eq_true (by omega), Bool.true_and, Int.toNat_natCast]
    by_cases he : pr.getD (pl.getD (Aai x).toNat 0).toNat 0 = pr.getD i 0
    ·rw [if_neg (by simpa using he), show (pr.getD (pl.getD (Aai x).toNat 0).toNat 0 == pr.getD i 0) = true by simpa using he, Bool.true_and]
    ·rw [if_pos (by simpa using he), show (pr.getD (pl.getD (Aai x).toNat 0).toNat 0 == pr.getD i 0) = false by simpa using he]; rfl
  ·rw [if_neg (by simpa using h0), show decide (Aai x ≤ 0) = true by simp; omega, Bool.true_or, Bool.true_and]
def A5k (l : OpL) (labels : Int) : Option (List Int × List Int) :=
 match plR 0 l 0 (List.replicate (labels + 1).toNat (-1)) (List.replicate l.length 0) with
 | none => none
 | some (pl, pr) => if Bog 0 l pl pr = true then some (pl, pr) else none
theorem Ckg {R : Type} (N : Nat) (nm : List UInt8) (data : Aaz) (l : OpL) (gl : Abq) (procs labels : Int) (hl : l.length < N) (hl2 : l.length ≤ 1000000) (hb : 0 ≤ labels ∧ labels ≤ 20000) (hN : 20001 < N)
  (hL : ∀ o, o ∈ l → o.1 = 19 → 1 ≤ o.2.1 ∧ o.2.1 ≤ labels) (hn : ∀ x, x ∈ l → Aai x = 0 ∨ (1 ≤ Aai x ∧ Aai x ≤ labels)) (K : Bool → List Int → List Int → Option R) (hK : ∀ a b a' b', K false a b = K false a' b') :
  Af3 N nm data l gl procs labels K = match A5k l labels with | none => K false [] [] | some (pl, pr) => K true pl pr := by
 have hw : wi (labels + 1) = labels + 1 := Afv (by omega) (by omega)
 simp only [Af3, A9e, hw]
 rw [if_pos (by omega), if_pos (by simp only [len]; omega)]
 have h7 := Ca8 (R := R) N nm data l gl procs labels [] [] (List.replicate (Int.toNat (len l)) 0) (by omega) (fun C D E F G H I J L M => Abo N N 0 0 C D E F G H I J L M (fun h i j => K h i j) (fun m p r s t u v w y z => Abi N N 0 m p r s t u v w y z (fun c d e => K c d e) (fun A B f g => K true f g)))
  (labels + 1).toNat N 0 (List.replicate (labels + 1).toNat 0) (by omega) (by omega) (by simp; omega)
 rw [show ((0 : Nat) : Int) = 0 from rfl] at h7
 refine Eq.trans h7 ?_
 rw [List.take_zero, List.nil_append, show Int.toNat (len l) = l.length by simp [len]]
 have h17 := B61 (R := R) N nm data l gl procs labels [] [] (by omega) hL (fun h i j => K h i j) (fun m p r s t u v w y z => Abi N N 0 m p r s t u v w y z (fun c d e => K c d e) (fun A B f g => K true f g)) hK
  N 0 0 (List.replicate (labels + 1).toNat (-1)) (List.replicate l.length 0) (by omega) (by omega) (by omega) (by omega) (by simp; omega) (by simp)
 rw [show ((0 : Nat) : Int) = 0 from rfl, List.drop_zero] at h17
 refine Eq.trans h17 ?_
 unfold A5k
 cases hp : plR 0 l 0 (List.replicate (labels + 1).toNat (-1)) (List.replicate l.length 0) with
 | none => rfl
 | some q =>
  obtain ⟨pl, pr⟩ := q
  have hlen := Bnb _ _ _ _ _ _ hp
  have hval := Cey _ _ _ _ _ _ (l.length : Int) hp (by omega) (fun n => by
   rw [List.getD_eq_getElem?_getD, List.getElem?_replicate]; split <;> simp)
  simp only [List.length_replicate] at hlen
  dsimp only
  have h37 := B62 (R := R) N nm data l gl procs labels [] [] pl pr (by omega) hn (by omega) (by omega) hval (fun c d e => K c d e) (fun A B f g => K true f g) N 0 (by omega) (by omega)
  rw [show ((0 : Nat) : Int) = 0 from rfl, List.drop_zero] at h37
  refine Eq.trans h37 ?_
  cases Bog 0 l pl pr
  ·exact hK _ _ _ _
  ·rfl
def Cez (i : Nat) (o a pl pr : List Int) : Prop :=
 ∀ n, n < a.length → (a.getD n 0 = 0 ∧ pl.getD n 0 < 0) ∨ (1 ≤ a.getD n 0 ∧ pl.getD n 0 = o.getD n 0 ∧ 1 ≤ o.getD n 0 ∧ o.getD n 0 < i ∧ pr.getD (o.getD n 0).toNat 0 = a.getD n 0)
theorem Cez.next {i : Nat} {o a pl pr : List Int} (h : Cez i o a pl pr) (v : Int) : Cez (i + 1) o a pl (pr.set i v) := by
 intro n hn
 rcases h n hn with h | ⟨h1, h2, h3, h4, h5⟩
 ·exact .inl h
 ·refine .inr ⟨h1, h2, h3, by omega, ?_⟩
  rw [A0q, if_neg (by omega)]; exact h5
theorem Csx : ∀ (r : OpL) (i : Nat) (p m : Int) (o a pl pr : List Int), o.length = a.length → pl.length = a.length → pr.length = i + r.length → (∀ x, x ∈ r → x.1 = 19 → 1 ≤ x.2.1 ∧ x.2.1 < a.length) → 0 ≤ p → (1 ≤ p → 1 ≤ i) → (p = 0 → Adz r = none ∨ Adz r = some 24) → Cez i o a pl pr →
  match plF i r p m o a with
  | none => A9n r p m = none ∨ plR i r p pl pr = none
  | some (p', m', o', a') => A9n r p m = some (p', m') ∧ ∃ pl' pr', plR i r p pl pr = some (pl', pr') ∧ Cez (i + r.length) o' a' pl' pr' := by
 intro r
 induction r with
 | nil => intro i p m o a pl pr _ _ _ _ _ _ _ h; exact ⟨rfl, pl, pr, rfl, h⟩
 | cons x r ih =>
  intro i p m o a pl pr ho hpl hpr hx hp hpi hp0 hinv
  rw [List.length_cons] at hpr
  have hL : i + (x :: r).length = (i + 1) + r.length := by rw [List.length_cons]; omega
  rw [hL, plF, A9n, plR]
  have hx' := hx x (by simp)
  have hr : ∀ y, y ∈ r → y.1 = 19 → 1 ≤ y.2.1 ∧ y.2.1 < a.length := fun y hy => hx y (by simp [hy])
  by_cases h24 : x.1 = 24
  ·rw [if_pos h24, if_pos h24, if_neg (show ¬x.1 = 19 by omega), if_pos h24]
   by_cases he : x.2.1 = p + 1
   ·rw [if_pos he, if_pos he]
    exact ih (i + 1) (p + 1) m o a pl _ ho hpl (by rw [List.length_set]; omega) hr (by omega) (by omega) (by omega) (hinv.next _)
   ·rw [if_neg he, if_neg he]; exact .inl rfl
  have hp1 : 1 ≤ p := by
   rcases Int.lt_or_le 0 p with h | h
   ·omega
   ·have := hp0 (by omega)
    simp only [Adz] at this
    rcases this with h | h
    ·cases h
    ·injection h with h; exact absurd h h24
  rw [if_neg h24, if_neg h24]
  by_cases h19 : x.1 = 19
  ·have hv := hx' h19
   rw [if_pos h19, if_pos h19, if_pos h19]
   have hi := hinv x.2.1.toNat (by omega)
   by_cases h0 : a.getD x.2.1.toNat 0 ≠ 0 ∨ p = 0
   ·rw [if_pos h0, if_pos (show 0 ≤ pl.getD x.2.1.toNat 0 by omega)]; exact .inr rfl
   ·rw [if_neg h0, if_neg (show ¬0 ≤ pl.getD x.2.1.toNat 0 by omega)]
    refine ih (i + 1) p _ (o.set x.2.1.toNat i) (a.set x.2.1.toNat p) (pl.set x.2.1.toNat i) (pr.set i p) (by rw [List.length_set, List.length_set]; exact ho) (by rw [List.length_set, List.length_set]; exact hpl) (by rw [List.length_set]; omega) (by rw [List.length_set]; exact hr) hp (by omega) (by omega) ?_
    intro n hn
    rw [List.length_set] at hn
    rw [A0q, A0q, A0q]
    by_cases hnn : x.2.1.toNat = n
    ·right
     rw [if_pos ⟨hnn, by omega⟩, if_pos ⟨hnn, by omega⟩, if_pos ⟨hnn, by omega⟩, Int.toNat_natCast, A0q, if_pos ⟨rfl, by omega⟩]
     exact ⟨hp1, rfl, by have := hpi hp1; omega, by omega, rfl⟩
    ·rw [if_neg (fun h => hnn h.1), if_neg (fun h => hnn h.1), if_neg (fun h => hnn h.1)]
     exact hinv.next p n hn
  ·rw [if_neg h19, if_neg h19, if_neg h19, if_neg h24]
   exact ih (i + 1) p m o a pl _ ho hpl (by rw [List.length_set]; omega) hr hp (by omega) (by omega) (hinv.next _)
def Bs4 : OpL → Int → List Int
 | [], _ => []
 | x :: r, p => (if x.1 = 24 then p + 1 else p) :: Bs4 r (if x.1 = 24 then p + 1 else p)
theorem Chg : ∀ (r : OpL) (i : Nat) (p : Int) (pl pr : List Int) (q : List Int × List Int), plR i r p pl pr = some q → pr.length = i + r.length → (∀ j, j < i → q.2.getD j 0 = pr.getD j 0) ∧ q.2.drop i = Bs4 r p
 | [], i, p, pl, pr, q, h, hl => by
  simp only [plR, Option.some.injEq] at h; subst h
  exact ⟨fun _ _ => rfl, by rw [Bs4]; exact List.drop_eq_nil_of_le (by simp at hl; simp; omega)⟩
 | x :: r, i, p, pl, pr, q, h, hl => by
  rw [List.length_cons] at hl
  rw [Bs4]
  have key : ∀ (p2 : Int) (pl2 : List Int), plR (i + 1) r p2 pl2 (pr.set i p2) = some q → (∀ j, j < i → q.2.getD j 0 = pr.getD j 0) ∧ q.2.drop i = p2 :: Bs4 r p2 := by
   intro p2 pl2 h2
   have := Chg r (i + 1) p2 pl2 (pr.set i p2) q h2 (by rw [List.length_set]; omega)
   refine ⟨fun j hj => ?_, ?_⟩
   ·rw [this.1 j (by omega), A0q, if_neg (by omega)]
   ·have hlen := (Bnb r _ _ _ _ q h2).2
    rw [List.length_set] at hlen
    have h3 := this.1 i (by omega)
    rw [A0q, if_pos ⟨rfl, by omega⟩, List.getD_eq_getElem?_getD, List.getElem?_eq_getElem (by omega)] at h3
    rw [List.drop_eq_getElem_cons (by omega), this.2]
    simp only [Option.getD_some] at h3
    rw [h3]
  rw [plR] at h
  by_cases h24 : x.1 = 24
  ·rw [if_neg (show ¬x.1 = 19 by omega), if_pos h24] at h
   rw [if_pos h24]; exact key _ _ h
  ·rw [if_neg h24] at h ⊢
   split at h
   ·split at h
    ·cases h
    ·exact key _ _ h
   ·exact key _ _ h
theorem Cob (o a pl pr : List Int) (I : Nat) (hinv : Cez I o a pl pr) : ∀ (r : OpL) (i : Nat) (p m : Int), pr.drop i = Bs4 r p → A9n r p m ≠ none → 0 ≤ p → (p = 0 → Adz r = none ∨ Adz r = some 24) → (∀ x, x ∈ r → Aai x = 0 ∨ (1 ≤ Aai x ∧ Aai x < a.length)) →
  Bog i r pl pr = At6 p r o a := by
 intro r
 induction r with
 | nil => intros; rfl
 | cons x r ih =>
  intro i p m hpr hs hp hp0 hn
  rw [Bs4] at hpr
  have hlt : i < pr.length := by
   rcases Nat.lt_or_ge i pr.length with h | h
   ·exact h
   ·rw [List.drop_eq_nil_of_le h] at hpr; cases hpr
  have hg : pr.getD i 0 = (if x.1 = 24 then p + 1 else p) := by
   rw [List.drop_eq_getElem_cons hlt] at hpr
   rw [List.getD_eq_getElem?_getD, List.getElem?_eq_getElem hlt]; exact (List.cons.inj hpr).1
  have hd : pr.drop (i + 1) = Bs4 r (if x.1 = 24 then p + 1 else p) := by
   rw [List.drop_eq_getElem_cons hlt] at hpr; exact (List.cons.inj hpr).2
  have hn' := hn x (by simp)
  rw [Bog, At6, hg]
  have body : ∀ p2 : Int, 1 ≤ p2 → (decide (Aai x ≤ 0) || (decide (0 ≤ pl.getD (Aai x).toNat 0) && pr.getD (pl.getD (Aai x).toNat 0).toNat 0 == p2)) = (decide (Aai x ≤ 0) || (a.getD (Aai x).toNat 0 == p2 && o.getD (Aai x).toNat 0 != 0)) := by
   intro p2 h2
   rcases hn' with h | h
   ·rw [h]; rfl
   ·rcases hinv (Aai x).toNat (by omega) with ⟨e1, e2⟩ | ⟨e1, e2, e3, e4, e5⟩
    ·rw [e1, show decide (0 ≤ pl.getD (Aai x).toNat 0) = false from decide_eq_false (by omega), show ((0 : Int) == p2) = false from beq_eq_false_iff_ne.mpr (by omega)]; rfl
    ·rw [e2, e5, show decide (0 ≤ o.getD (Aai x).toNat 0) = true from decide_eq_true (by omega), show (o.getD (Aai x).toNat 0 != 0) = true from bne_iff_ne.mpr (by omega), Bool.true_and, Bool.and_true]
  rw [B8a] at hs
  have hr : ∀ y, y ∈ r → Aai y = 0 ∨ (1 ≤ Aai y ∧ Aai y < a.length) := fun y hy => hn y (by simp [hy])
  by_cases h24 : x.1 = 24
  ·simp only [if_pos h24] at hs hd ⊢
   by_cases he : x.2.1 = p + 1
   ·rw [if_pos he] at hs
    rw [he, body _ (by omega), ih (i + 1) (p + 1) m hd hs (by omega) (by omega) hr]
   ·rw [if_neg he] at hs; exact absurd rfl hs
  ·simp only [if_neg h24] at hs hd ⊢
   have hp1 : 1 ≤ p := by
    rcases Int.lt_or_le 0 p with h | h
    ·omega
    ·have := hp0 (by omega)
     simp only [Adz] at this
     rcases this with h | h
     ·cases h
     ·injection h with h; exact absurd h h24
   rw [body _ hp1, ih (i + 1) p _ hd hs hp (by omega) hr]
theorem Ckh (l : OpL) (procs labels : Int) (hb : 0 ≤ labels) (hf : Alo l = true) (hL : ∀ o, o ∈ l → o.1 = 19 → 1 ≤ o.2.1 ∧ o.2.1 ≤ labels) (hn : ∀ x, x ∈ l → Aai x = 0 ∨ (1 ≤ Aai x ∧ Aai x ≤ labels)) :
  (match Alc l procs labels with | none => false | some (b, o, a) => b && At6 0 l o a) = (Blc l 0 0 procs labels && (A5k l labels).isSome) ∧
  ∀ b o a pl pr, Alc l procs labels = some (b, o, a) → At6 0 l o a = true → A5k l labels = some (pl, pr) → ∀ n : Nat, n < (labels + 1).toNat → (a.getD n 0 = 0 ∧ pl.getD n 0 < 0) ∨ (1 ≤ a.getD n 0 ∧ pl.getD n 0 = o.getD n 0 ∧ 1 ≤ o.getD n 0 ∧ o.getD n 0 < l.length) := by
 have hlen : (List.replicate (labels + 1).toNat (0 : Int)).length = (labels + 1).toNat := List.length_replicate
 have hrel := Csx l 0 0 0 (List.replicate (labels + 1).toNat 0) (List.replicate (labels + 1).toNat 0) (List.replicate (labels + 1).toNat (-1)) (List.replicate l.length 0) rfl (by simp) (by simp) (fun x hx h19 => by have := hL x hx h19; rw [hlen]; omega) (by omega) (by omega)
  (fun _ => by
   unfold Alo at hf
   simp only [Bool.or_eq_true, beq_iff_eq] at hf; exact hf)
  (fun n hn => by
   left
   rw [hlen] at hn
   simp only [List.getD_eq_getElem?_getD, List.getElem?_replicate, if_pos hn, Option.getD_some]
   exact ⟨trivial, by omega⟩)
 have hh : Adz l = none ∨ Adz l = some 24 := by
  unfold Alo at hf
  simp only [Bool.or_eq_true, beq_iff_eq] at hf; exact hf
 unfold Alc A5k Blc
 cases hp : plF 0 l 0 0 (List.replicate (labels + 1).toNat 0) (List.replicate (labels + 1).toNat 0) with
 | none =>
  rw [hp] at hrel
  refine ⟨?_, fun _ _ _ _ _ h => by cases h⟩
  rcases hrel with h | h
  ·rw [h]; rfl
  ·rw [h]; simp
 | some q =>
  obtain ⟨p, m, o, a⟩ := q
  rw [hp] at hrel
  obtain ⟨h1, pl, pr, h2, h3⟩ := hrel
  have hal := Chf _ _ _ _ _ _ _ hp
  simp only [List.length_replicate] at hal
  have hrun := Chg l 0 0 _ _ _ h2 (by simp)
  rw [List.drop_zero] at hrun
  have hu := Cob o a pl pr (0 + l.length) h3 l 0 0 0 hrun.2 (by rw [h1]; simp) (by omega) (fun _ => hh) (fun x hx => by
   have := hn x hx
   rw [hal.2]; omega)
  rw [h1, h2]
  simp only [hu]
  refine ⟨?_, ?_⟩
  ·cases At6 0 l o a <;> simp
  ·intro b o' a' pl' pr' e1 e2 e3 n hn'
   simp only [Option.some.injEq, Prod.mk.injEq] at e1
   obtain ⟨_, rfl, rfl⟩ := e1
   rw [if_pos e2] at e3
   simp only [Option.some.injEq, Prod.mk.injEq] at e3
   obtain ⟨rfl, rfl⟩ := e3
   rcases h3 n (by omega) with h | ⟨k1, k2, k3, k4, k5⟩
   ·exact .inl h
   ·exact .inr ⟨k1, k2, k3, by omega⟩
theorem B63 {R : Type} (N : Nat) (x : Int × Int × Int) (d : Int) (hx : 1 ≤ x.1 ∧ x.1 ≤ 30) (hd : 0 ≤ d ∧ d ≤ 4000) (hm : x.1 = 24 ∨ x.1 = 23 ∨ x.1 = 28 → 0 ≤ x.2.1 ∧ x.2.1 ≤ 4000 ∧ 0 ≤ x.2.2 ∧ x.2.2 ≤ 4000) (K : Int → Option R) :
  Af7 N x.1 x.2.1 x.2.2 d K = K (Agl x d) := by
 obtain ⟨op, n, m⟩ := x
 simp only at hx hm
 have w1 : wi (d + 1) = d + 1 := Afv (by omega) (by omega)
 have w2 : wi (d - 1) = d - 1 := Afv (by omega) (by omega)
 have w3 : wi (d - 2) = d - 2 := Afv (by omega) (by omega)
 have w4 : wi (d - 3) = d - 3 := Afv (by omega) (by omega)
 simp only [Af7, Bc0, Ab7, A40, Abp, A4z, Adh, w1, w2, w3, w4]
 by_cases h24 : op = 24
 ·subst h24
  rw [show wi (2 + m) = 2 + m from Afv (by have := hm (.inl rfl); omega) (by have := hm (.inl rfl); omega)]
  simp [Agl]
 by_cases h23 : op = 23
 ·subst h23
  rw [show wi (n + 1) = n + 1 from Afv (by have := hm (.inr (.inl rfl)); omega) (by have := hm (.inr (.inl rfl)); omega)]
  simp [Agl]
 by_cases h28 : op = 28
 ·subst h28
  rw [show wi (n + 1) = n + 1 from Afv (by have := hm (.inr (.inr rfl)); omega) (by have := hm (.inr (.inr rfl)); omega)]
  simp [Agl]
 rcases Bm3 hx with rfl | rfl | rfl | rfl | rfl | rfl | rfl | rfl | rfl | rfl | rfl | rfl | rfl | rfl | rfl | rfl | rfl | rfl | rfl | rfl | rfl | rfl | rfl | rfl | rfl | rfl | rfl | rfl | rfl | rfl <;>
  first
  | (exfalso; omega)
  | (simp [Agl, kT, Alr]; done)
  | (simp [Agl, kT, Alr]; congr 1; omega)
theorem B64 {R : Type} (N : Nat) (x : Int × Int × Int) (hx : 1 ≤ x.1 ∧ x.1 ≤ 30) (K : Int → Option R) : Afe N x.1 x.2.1 x.2.2 K = K (kT x.1).2.2.1 := by
 obtain ⟨op, n, m⟩ := x
 simp only at hx
 simp only [Afe, Bc3, Acd, A41, Adw]
 rcases Bm3 hx with rfl | rfl | rfl | rfl | rfl | rfl | rfl | rfl | rfl | rfl | rfl | rfl | rfl | rfl | rfl | rfl | rfl | rfl | rfl | rfl | rfl | rfl | rfl | rfl | rfl | rfl | rfl | rfl | rfl | rfl <;>
  simp [kT, Alr]
def Ce0 (x : Int × Int × Int) (d : Int) : Bool :=
 if x.1 = 2 ∨ x.1 = 3 then inB x.2.1 2 (d - 1) else if x.1 = 4 then decide (2 ≤ x.2.1) else if x.1 = 23 then inB x.2.1 2 (d - 3) else if x.1 = 18 then decide (x.2.1 ≤ d + 2000 + 2) else true
theorem B65 {R : Type} (N : Nat) (x : Int × Int × Int) (d : Int) (hd : 0 ≤ d ∧ d ≤ 4000) (K : Bool → Option R) : Aff N x.1 x.2.1 x.2.2 d K = K (Ce0 x d) := by
 obtain ⟨op, n, m⟩ := x
 have w1 : wi (d - 1) = d - 1 := Afv (by omega) (by omega)
 have w3 : wi (d - 3) = d - 3 := Afv (by omega) (by omega)
 have w2 : wi (wi (d + 2000) + 2) = d + 2000 + 2 := by rw [Afv (i := d + 2000) (by omega) (by omega), Afv (by omega) (by omega)]
 simp only [Aff, Bc6, Agg, A7j, Aoe, w1, w2, w3, Ce0]
 by_cases h2 : op = 2
 ·simp [h2]
 by_cases h3 : op = 3
 ·simp [h3]
 by_cases h4 : op = 4
 ·simp [h4]
 by_cases h23 : op = 23
 ·simp [h23]
 by_cases h18 : op = 18
 ·simp [h18]
 simp [h2, h3, h4, h23, h18]
theorem Coc (x : Int × Int × Int) (d : Int) (f : Bool) (h24 : x.1 ≠ 24) : A15 x d f = (((x.1 == 18 && f) || Ce0 x d) && decide (2 ≤ d - (kT x.1).2.2.1)) := by
 unfold A15 Ce0
 have b24 : (x.1 == 24) = false := beq_eq_false_iff_ne.mpr h24
 rw [b24, Bool.false_or]
 congr 1
 by_cases h2 : x.1 = 2 ∨ x.1 = 3
 ·rw [if_pos h2, if_pos h2, show (x.1 == 18) = false from beq_eq_false_iff_ne.mpr (by omega)]; simp
 rw [if_neg h2, if_neg h2]
 by_cases h4 : x.1 = 4
 ·rw [if_pos h4, if_pos h4, h4]; simp
 rw [if_neg h4, if_neg h4]
 by_cases h23 : x.1 = 23
 ·rw [if_pos h23, if_pos h23, h23]; simp
 rw [if_neg h23, if_neg h23]
 by_cases h18 : x.1 = 18
 ·rw [if_pos h18, if_pos h18, h18]; simp
 ·rw [if_neg h18, if_neg h18]; simp
def Bbc (l : OpL) (j : Nat) : Bool := (Acc l (Af4 l j)).1 == 28
theorem Cki {R : Type} (N : Nat) (l : OpL) (hl : l.length ≤ 1099511627776) (K : OpL → Int → Option R) : ∀ (k j : Nat), Af4 l j < l.length → l.length - j < k →
  Ae8 N k l j K = K l (Af4 l j : Nat) := by
 intro k
 induction k with
 | zero => intro j _ h; omega
 | succ k ih =>
  intro j hj hk
  have hjl : j < l.length := by unfold Af4 at hj; omega
  have hin : (0 : Int) ≤ j ∧ (j : Int) < len l := by simp only [len]; omega
  have hd' : l.drop j = l[j] :: l.drop (j + 1) := List.drop_eq_getElem_cons hjl
  simp only [Ae8, A7m]
  rw [if_pos (by simp only [len, decide_eq_true_eq]; omega), if_pos hin, Ahb _ _ hjl, Acm (by omega)]
  by_cases h19 : l[j].1 = 19
  ·have : Af4 l j = Af4 l (j + 1) := by unfold Af4; rw [hd', A23, if_pos h19]; omega
   rw [if_pos (by simpa using h19), ih (j + 1) (by omega) (by omega), this]
  ·have : Af4 l j = j := by unfold Af4; rw [hd', A23, if_neg h19]; rfl
   rw [if_neg (by simpa using h19), this]
theorem B66 {R : Type} (N : Nat) (l : OpL) (j : Int) (hl : l.length ≤ 1099511627776) (hN : l.length < N) (ho : Ae0 0 l = true) (h0 : 0 ≤ j) (hj : j < l.length) (K : Bool → Option R) :
  Aen N l j K = K (Bbc l j.toNat) := by
 obtain ⟨n, rfl⟩ := Int.eq_ofNat_of_zero_le h0
 have hlt := Bbb ho (j := n) (by omega)
 simp only [Aen, Bc9]
 rw [Cki N l hl _ N n hlt (by omega), if_pos (by simp only [len, decide_eq_true_eq]; omega), if_pos (by simp only [len]; omega), Int.toNat_natCast, Int.toNat_natCast]
 rfl
def dpB (l : OpL) (pl : List Int) (i : Nat) (d : Int) (f : Bool) (x : Int × Int × Int) : Bool :=
 A15 x d (Ayv l i) && decide (2 ≤ Agl x d) && decide (Agl x d ≤ 4000) && (x.1 != 28 || !f) && (decide (Aai x ≤ 0) || (Bbc l (pl.getD (Aai x).toNat 0).toNat == (x.1 == 27)))
def A1h (l : OpL) (pl : List Int) : Nat → Int → Bool → OpL → Bool
 | _, _, _, [] => true
 | i, d, f, x :: r => if x.1 = 24 then A1h l pl (i + 1) (2 + x.2.2) true r
  else dpB l pl i d f x && A1h l pl (i + 1) (Agl x d) (if x.1 = 19 then f else Ag8 x.1) r
noncomputable def B3g {R : Type} (N : Nat) (rc : An3 R) (d : Int) (p : Bool) (e : Int) (f : List UInt8) (g : Aaz) (c : OpL) (h : Abq) (i j : Int) (a l : List Int) (q : Bool → Option R) (b n o : Int) : Option R :=
 (Aa8 N b n o (fun m => if ((decide ((m > (0 : Int)))) = true) then (if (((0 : Int) ≤ m) ∧ (m < (len a))) then (Aen N c ((List.getD a (Int.toNat m) (0 : Int))) (fun r => if ((!(r == (b == (27 : Int)))) = true) then (q false) else (if ((b != (19 : Int)) = true) then (Aay N b n o (fun s => rc d s ((wi (e + (1 : Int)))) f g c h i j a l)) else (rc d p ((wi (e + (1 : Int)))) f g c h i j a l)))) else none) else (if ((b != (19 : Int)) = true) then (Aay N b n o (fun t => rc d t ((wi (e + (1 : Int)))) f g c h i j a l)) else (rc d p ((wi (e + (1 : Int)))) f g c h i j a l))))
noncomputable def Boh {R : Type} (N : Nat) (rc : An3 R) (d : Int) (a : Bool) (e : Int) (f : List UInt8) (g : Aaz) (h : OpL) (i : Abq) (j l : Int) (m n : List Int) (b : Bool → Option R) (c o p : Int) : Option R :=
 if ((c == (28 : Int)) = true) then (if (a = true) then (b false) else B3g N rc d a e f g h i j l m n b c o p) else B3g N rc d a e f g h i j l m n b c o p
theorem Cl5 {R : Type} (N : Nat) (rc : An3 R) (g : Int) (q : Bool) (a : Int) (h : List UInt8) (i : Aaz) (b : OpL) (j : Abq) (l m : Int) (n o : List Int) (c : Bool → Option R) (s : Option R) :
  A9h @Af7 @Afe @Aap @Aff @Aa8 @Aen @Aay N rc g q a h i b j l m n o c s =
  if ((decide ((a < (len b)))) = true) then (if (((0 : Int) ≤ a) ∧ (a < (len b))) then (let d := (List.getD b (Int.toNat a) ((0 : Int), ((0 : Int), (0 : Int)))).1; let f := (List.getD b (Int.toNat a) ((0 : Int), ((0 : Int), (0 : Int)))).2.1; let e := (List.getD b (Int.toNat a) ((0 : Int), ((0 : Int), (0 : Int)))).2.2; if ((d == (24 : Int)) = true) then (rc ((wi ((2 : Int) + e))) true ((wi (a + (1 : Int)))) h i b j l m n o) else (Af7 N d f e g (fun p => if ((d == (18 : Int)) = true) then (let r := (wi (a - (1 : Int))); if (((0 : Int) ≤ r) ∧ (r < (len b))) then (Afe N d f e (fun t => if ((decide (((wi (g - t)) < (2 : Int)))) = true) then (c false) else (Aap N p 2 4000 (fun u => if ((!u) = true) then (c false) else (if ((!((List.getD b (Int.toNat r) ((0 : Int), ((0 : Int), (0 : Int)))).1 == (19 : Int))) = true) then (Aff N d f e g (fun v => if ((!v) = true) then (c false) else Boh N rc p q a h i b j l m n o c d f e)) else Boh N rc p q a h i b j l m n o c d f e))))) else none)
   else (Afe N d f e (fun w => if ((decide (((wi (g - w)) < (2 : Int)))) = true) then (c false) else (Aap N p 2 4000 (fun x => if ((!x) = true) then (c false) else (Aff N d f e g (fun y => if ((!y) = true) then (c false) else Boh N rc p q a h i b j l m n o c d f e))))))))) else none) else s := rfl
theorem Cl6 {R : Type} (N : Nat) (rc : An3 R) (a : Int) (f : Bool) (i : Nat) (nm : List UInt8) (data : Aaz) (l : OpL) (gl : Abq) (procs labels : Int) (pl pr : List Int) (b : Bool → Option R) (x : Int × Int × Int)
  (hl : l.length ≤ 1099511627776) (hN : l.length < N) (ho : Ae0 0 l = true) (hi : i < l.length) (hn : 0 < Aai x → 0 ≤ Aai x ∧ Aai x < pl.length ∧ 0 ≤ pl.getD (Aai x).toNat 0 ∧ pl.getD (Aai x).toNat 0 < l.length) :
  B3g N rc a f i nm data l gl procs labels pl pr b x.1 x.2.1 x.2.2 = if (decide (Aai x ≤ 0) || (Bbc l (pl.getD (Aai x).toNat 0).toNat == (x.1 == 27))) = true then rc a (if x.1 = 19 then f else Ag8 x.1) ((i + 1 : Nat) : Int) nm data l gl procs labels pl pr else b false := by
 have fin : (if ((x.1 != (19 : Int)) = true) then (Aay N x.1 x.2.1 x.2.2 (fun c => rc a c ((wi ((i : Int) + (1 : Int)))) nm data l gl procs labels pl pr)) else (rc a f ((wi ((i : Int) + (1 : Int)))) nm data l gl procs labels pl pr)) = rc a (if x.1 = 19 then f else Ag8 x.1) ((i + 1 : Nat) : Int) nm data l gl procs labels pl pr := by
  rw [Bj6, Acm (by omega)]
  by_cases h : x.1 = 19
  ·rw [if_neg (by simp [h]), if_pos h]
  ·rw [if_pos (by simpa using h), if_neg h]
 unfold B3g
 rw [Bna, show (x.1, x.2.1, x.2.2) = x from rfl]
 by_cases h0 : Aai x > 0
 ·have hn' := hn h0
  rw [if_pos (by simpa using h0), if_pos (by simp only [len]; omega), B66 N l _ hl hN ho hn'.2.2.1 hn'.2.2.2, show decide (Aai x ≤ 0) = false from decide_eq_false (by omega), Bool.false_or]
  cases Bbc l (pl.getD (Aai x).toNat 0).toNat == (x.1 == 27)
  ·rfl
  ·rw [if_neg (by decide), if_pos rfl]; exact fin
 ·rw [if_neg (by simpa using h0), show decide (Aai x ≤ 0) = true from decide_eq_true (by omega), Bool.true_or, if_pos rfl]; exact fin
theorem Cod {R : Type} (N : Nat) (rc : An3 R) (a : Int) (f : Bool) (i : Nat) (nm : List UInt8) (data : Aaz) (l : OpL) (gl : Abq) (procs labels : Int) (pl pr : List Int) (b : Bool → Option R) (x : Int × Int × Int)
  (hl : l.length ≤ 1099511627776) (hN : l.length < N) (ho : Ae0 0 l = true) (hi : i < l.length) (hn : 0 < Aai x → 0 ≤ Aai x ∧ Aai x < pl.length ∧ 0 ≤ pl.getD (Aai x).toNat 0 ∧ pl.getD (Aai x).toNat 0 < l.length) :
  Boh N rc a f i nm data l gl procs labels pl pr b x.1 x.2.1 x.2.2 = if ((x.1 != 28 || !f) && (decide (Aai x ≤ 0) || (Bbc l (pl.getD (Aai x).toNat 0).toNat == (x.1 == 27)))) = true then rc a (if x.1 = 19 then f else Ag8 x.1) ((i + 1 : Nat) : Int) nm data l gl procs labels pl pr else b false := by
 unfold Boh
 rw [Cl6 N rc a f i nm data l gl procs labels pl pr b x hl hN ho hi hn]
 by_cases h : x.1 = 28
 ·rw [if_pos (by simpa using h), show (x.1 != 28) = false by rw [h]; rfl]
  cases f
  ·rfl
  ·rfl
 ·rw [if_neg (by simpa using h), show (x.1 != 28) = true from bne_iff_ne.mpr h]; rfl
theorem Cl7 {R : Type} (N : Nat) (nm : List UInt8) (data : Aaz) (l : OpL) (gl : Abq) (procs labels : Int) (pl pr : List Int) (nd : Int) (hp : procs ≤ 200) (hl : l.length ≤ 1099511627776) (hN : l.length < N) (ho : Ae0 0 l = true) (hf : Alo l = true)
  (hall : ∀ x, x ∈ l → Ah4 nd procs labels x = true) (hn : ∀ x, x ∈ l → 0 < Aai x → 0 ≤ Aai x ∧ Aai x < pl.length ∧ 0 ≤ pl.getD (Aai x).toNat 0 ∧ pl.getD (Aai x).toNat 0 < l.length) (g : Bool → Option R) (j : Option R) :
  ∀ (k i : Nat) (d : Int) (f : Bool), i ≤ l.length → l.length - i < k → 0 ≤ d ∧ d ≤ 4000 →
   Ae5 N k d f i nm data l gl procs labels pl pr g j = if A1h l pl i d f (l.drop i) = true then j else g false := by
 intro k
 induction k with
 | zero => intro i _ _ _ h; omega
 | succ k ih =>
  intro i d f hi hk hd
  simp only [Ae5, Cl5]
  by_cases hlt : i < l.length
  case neg =>
   rw [if_neg (by simp [len]; omega), List.drop_eq_nil_of_le (by omega)]; rfl
  have hin : (0 : Int) ≤ i ∧ (i : Int) < len l := by simp only [len]; omega
  have hx' := hall l[i] (List.getElem_mem hlt)
  have hn' := hn l[i] (List.getElem_mem hlt)
  have h0i : i = 0 → (l[i]).1 = 24 := by
   rintro rfl
   cases l with
   | nil => simp at hlt
   | cons y r => simpa [Alo, Adz] using hf
  rw [if_pos (by simp [len]; omega), if_pos hin, Ahb _ _ hlt, List.drop_eq_getElem_cons hlt, A1h]
  obtain ⟨x, hx⟩ : ∃ x, l[i] = x := ⟨_, rfl⟩
  simp only [hx] at hx' hn' h0i ⊢
  have hop := Bh3 hx'
  by_cases h24 : x.1 = 24
  ·have hm := Bzv hp hx' (.inl h24)
   have hm8 : x.2.2 ≤ 8 := by
    obtain ⟨a, b, c⟩ := x
    simp only at h24; subst h24
    simp [Ah4, Aup, inB] at hx'
    simp only; omega
   rw [if_pos (by simpa using h24), if_pos h24, Afv (i := 2 + x.2.2) (by omega) (by omega), Acm (by omega)]
   exact ih (i + 1) (2 + x.2.2) true (by omega) (by omega) (by omega)
  rw [if_neg (by simpa using h24), if_neg h24, B63 N x d hop hd (Bzv hp hx')]
  have hip : 0 < i := by
   rcases Nat.eq_zero_or_pos i with h | h
   ·exact absurd (h0i h) h24
   ·exact h
  have hkt := B6y x.1
  have hwn : wi (d - (kT x.1).2.2.1) = d - (kT x.1).2.2.1 := Afv (by omega) (by omega)
  have mid : Boh N (fun m n o p q s t u v w z => Ae5 N k m n o p q s t u v w z g j) (Agl x d) f i nm data l gl procs labels pl pr g x.1 x.2.1 x.2.2 = _ := Cod N _ (Agl x d) f i nm data l gl procs labels pl pr g x hl hN ho hlt hn'
  have step : ∀ e : Bool, e = ((x.1 == 18 && Ayv l i) || Ce0 x d) → (if (decide (wi (d - (kT x.1).2.2.1) < 2)) = true then g false else if (!inB (Agl x d) 2 4000) = true then g false else if (!e) = true then g false else Boh N (fun m n o p q s t u v w z => Ae5 N k m n o p q s t u v w z g j) (Agl x d) f i nm data l gl procs labels pl pr g x.1 x.2.1 x.2.2) =
    if (dpB l pl i d f x && A1h l pl (i + 1) (Agl x d) (if x.1 = 19 then f else Ag8 x.1) (l.drop (i + 1))) = true then j else g false := by
   intro e he
   unfold dpB
   rw [Coc x d _ h24, ← he, hwn]
   by_cases c1 : d - (kT x.1).2.2.1 < 2
   ·rw [if_pos (by simpa using c1), show decide (2 ≤ d - (kT x.1).2.2.1) = false from decide_eq_false (by omega)]; simp
   rw [if_neg (by simpa using c1), show decide (2 ≤ d - (kT x.1).2.2.1) = true from decide_eq_true (by omega), Bool.and_true]
   by_cases c2 : 2 ≤ Agl x d
   case neg =>
    rw [if_pos (by unfold inB; simp; omega), show decide (2 ≤ Agl x d) = false from decide_eq_false c2]; simp
   by_cases c3 : Agl x d ≤ 4000
   case neg =>
    rw [if_pos (by unfold inB; simp; omega), show decide (Agl x d ≤ 4000) = false from decide_eq_false c3]; simp
   rw [if_neg (by unfold inB; simp; omega), show decide (2 ≤ Agl x d) = true from decide_eq_true c2, show decide (Agl x d ≤ 4000) = true from decide_eq_true c3, Bool.and_true, Bool.and_true]
   cases e
   ·rfl
   rw [if_neg (by decide), mid, Bool.true_and]
   cases hc : ((x.1 != 28 || !f) && (decide (Aai x ≤ 0) || (Bbc l (pl.getD (Aai x).toNat 0).toNat == (x.1 == 27))))
   ·rfl
   ·rw [if_pos rfl, Bool.true_and]
    exact ih (i + 1) (Agl x d) _ (by omega) (by omega) (by omega)
  simp only [B64 N x hop, Aoe, B65 N x d hd]
  by_cases h18 : x.1 = 18
  ·have hw : wi ((i : Int) - 1) = ((i - 1 : Nat) : Int) := by rw [Afv (by omega) (by omega)]; omega
   rw [if_pos (by simpa using h18), hw, if_pos (by simp only [len]; omega), Int.toNat_natCast]
   have hpv : Ayv l i = ((Acc l (i - 1)).1 == 19) := by unfold Ayv; rw [show decide (0 < i) = true from decide_eq_true hip, Bool.true_and]
   refine Eq.trans ?_ (step _ rfl)
   rw [hpv, show (x.1 == 18) = true by rw [h18]; rfl, Bool.true_and]
   show (if decide (wi (d - (kT x.1).2.2.1) < 2) = true then g false else if (!inB (Agl x d) 2 4000) = true then g false else if (!(Acc l (i - 1)).1 == 19) = true then _ else _) = _
   cases (Acc l (i - 1)).1 == 19 <;> rfl
  ·rw [if_neg (by simpa using h18)]
   refine Eq.trans ?_ (step _ rfl)
   rw [show (x.1 == 18) = false from beq_eq_false_iff_ne.mpr h18]; rfl
def Auq : OpL → Option Int
 | [] => none
 | x :: r => if x.1 = 19 then Auq r else some x.1
theorem Bwg : ∀ (l : OpL) (h : A23 l < l.length), Auq l = some (Acc l (A23 l)).1
 | [], h => by simp [A23] at h
 | x :: r, h => by
  rw [A23] at h ⊢
  rw [Auq]
  split
  ·rename_i h19
   rw [if_pos h19] at h
   rw [Bwg r (by simp at h; omega)]; rfl
  ·rfl
theorem B8b {l : OpL} (ho : Ae0 0 l = true) {j : Nat} (hj : j < l.length) : Auq (l.drop j) = some (Acc l (Af4 l j)).1 := by
 have h := Bbb ho hj
 rw [Bwg _ (by rw [List.length_drop]; unfold Af4 at h; omega)]
 unfold Acc Af4
 rw [B78]
theorem B3h (l : OpL) (pl : List Int) : ∀ (r : OpL) (i : Nat) (d : Int), Auq r = some 28 → A1h l pl i d true r = false
 | [], _, _, h => by cases h
 | x :: r, i, d, h => by
  rw [Auq] at h
  rw [A1h]
  by_cases h19 : x.1 = 19
  ·rw [if_pos h19] at h
   rw [if_neg (by omega), if_pos h19, B3h l pl r (i + 1) _ h, Bool.and_false]
  ·rw [if_neg h19] at h
   injection h with h
   rw [if_neg (by omega)]
   have : dpB l pl i d true x = false := by
    unfold dpB
    rw [h]; simp
   rw [this, Bool.false_and]
theorem Cof (l : OpL) (o pl : List Int) (hol : Ae0 0 l = true) (hrel : ∀ x, x ∈ l → 0 < Aai x → pl.getD (Aai x).toNat 0 = o.getD (Aai x).toNat 0)
  (hop : ∀ x, x ∈ l → 1 ≤ x.1 ∧ x.1 ≤ 30 ∧ (x.1 = 29 → 0 ≤ x.2.2) ∧ (x.1 = 24 → 0 ≤ x.2.2 ∧ x.2.2 ≤ 8)) :
  ∀ (r : OpL) (i c : Nat) (d : Int) (f : Bool), l.drop i = r → Ae0 c r = true → (f = true → Auq r ≠ some 28) → Bdr l o i d r = A1h l pl i d f r := by
 intro r
 induction r with
 | nil => intros; rfl
 | cons x r ih =>
  intro i c d f hd hc hf
  have hlt : i < l.length := by
   rcases Nat.lt_or_ge i l.length with h | h
   ·exact h
   ·rw [List.drop_eq_nil_of_le h] at hd; cases hd
  have hdc := hd
  rw [List.drop_eq_getElem_cons hlt] at hdc
  have hx : l[i] = x := (List.cons.inj hdc).1
  have hr : l.drop (i + 1) = r := (List.cons.inj hdc).2
  have hm : x ∈ l := by rw [← hx]; exact List.getElem_mem hlt
  have hop' := hop x hm
  have hoa : Acc l i = x := by rw [Bm6 hlt]; exact hx
  rw [B79 c x r hop'.1] at hc
  simp only [Bool.and_eq_true] at hc
  obtain ⟨⟨⟨hc1, hc2⟩, hc3⟩, hc4⟩ := hc
  rw [Bdr, A1h]
  have hG : ∀ f2 : Bool, (f2 = if x.1 = 19 then f else Ag8 x.1) → ∀ d2, (x.1 == 19 || As2 l i || decide (l.length ≤ i + 1) || (Acc l (Af4 l (i + 1))).1 != 28) = true → Bdr l o (i + 1) d2 r = A1h l pl (i + 1) d2 f2 r := by
   intro f2 hf2 d2 hg
   refine ih (i + 1) _ d2 f2 hr hc4 ?_
   intro h1
   by_cases h19 : x.1 = 19
   ·rw [if_pos h19] at hf2
    have := hf (by rw [← hf2]; exact h1)
    rw [Auq, if_pos h19] at this; exact this
   ·rw [if_neg h19] at hf2
    have hgo : Ag8 x.1 = true := by rw [← hf2]; exact h1
    have hne : As2 l i = false := by
     unfold As2
     rw [hoa]
     simp only [Ag8, Bool.and_eq_true, bne_iff_ne, ne_eq] at hgo
     rw [if_neg (by omega), if_neg (by omega), if_neg (by omega)]
    rw [hne, show (x.1 == 19) = false from beq_eq_false_iff_ne.mpr h19, Bool.false_or, Bool.false_or] at hg
    by_cases h2 : i + 1 < l.length
    ·rw [show decide (l.length ≤ i + 1) = false from decide_eq_false (by omega), Bool.false_or, bne_iff_ne] at hg
     rw [← hr, B8b hol h2]
     intro h; injection h with h; exact hg h
    ·rw [← hr, List.drop_eq_nil_of_le (by omega)]; simp [Auq]
  have hG0 : (x.1 == 19 || As2 l i || decide (l.length ≤ i + 1) || (Acc l (Af4 l (i + 1))).1 != 28) = false → ∀ d2, A1h l pl (i + 1) d2 (if x.1 = 19 then f else Ag8 x.1) r = false := by
   intro hg d2
   simp only [Bool.or_eq_false_iff, beq_eq_false_iff_ne, decide_eq_false_iff_not, bne_eq_false_iff_eq] at hg
   obtain ⟨⟨⟨g1, g2⟩, g3⟩, g4⟩ := hg
   have hnl : Auq r = some 28 := by rw [← hr, B8b hol (by omega), g4]
   rw [if_neg g1]
   have hgo : Ag8 x.1 = true := by
    unfold As2 at g2
    rw [hoa] at g2
    simp only at g2
    by_cases e1 : x.1 = 20 ∨ x.1 = 25 ∨ x.1 = 26 ∨ x.1 = 27
    ·rw [if_pos e1] at g2; cases g2
    rw [if_neg e1] at g2
    by_cases e2 : x.1 = 29
    ·rw [if_pos e2] at g2
     rw [if_pos e2] at hc4
     have h3 := hop'.2.2.1 e2
     have h4 : x.2.2 ≠ 0 := by simpa using g2
     obtain ⟨q, hq⟩ : ∃ q, x.2.2.toNat = q + 1 := ⟨x.2.2.toNat - 1, by omega⟩
     rw [hq] at hc4
     cases r with
     | nil => simp [Ae0] at hc4
     | cons y r =>
      simp only [Ae0, Bool.and_eq_true, beq_iff_eq] at hc4
      rw [Auq, if_neg (by omega), hc4.1] at hnl
      simp at hnl
    rw [if_neg e2] at g2
    by_cases e3 : x.1 = 30
    ·rw [if_pos e3] at g2
     simp only [Bool.or_eq_false_iff, decide_eq_false_iff_not, bne_eq_false_iff_eq] at g2
     have h5 : i + 1 < l.length := by omega
     rw [← hr, List.drop_eq_getElem_cons h5, Auq, ← Bm6 h5, g2.2] at hnl
     simp at hnl
    ·unfold Ag8
     simp only [Bool.and_eq_true, bne_iff_ne, ne_eq]
     omega
   rw [hgo]
   exact B3h l pl r (i + 1) d2 hnl
  unfold A77
  by_cases h24 : x.1 = 24
  ·have hm8 := hop'.2.2.2 h24
   have ha : Agl x d = 2 + x.2.2 := by unfold Agl; rw [if_neg (by omega), if_pos h24]
   have hfit : A15 x d (Ayv l i) = true := by unfold A15; rw [h24]; rfl
   have hnm : Aai x = 0 := by unfold Aai; rw [if_neg (by omega), if_neg (by omega)]
   rw [if_pos h24, hfit, ha, hnm, show decide (2 ≤ 2 + x.2.2) = true from decide_eq_true (by omega), show decide (2 + x.2.2 ≤ 4000) = true from decide_eq_true (by omega)]
   have hgt : (if x.1 = 19 then f else Ag8 x.1) = true := by rw [h24]; rfl
   have h1 := hG true hgt.symm (2 + x.2.2)
   have h2 := fun h => hG0 h (2 + x.2.2)
   rw [hgt] at h2
   cases hg : (x.1 == 19 || As2 l i || decide (l.length ≤ i + 1) || (Acc l (Af4 l (i + 1))).1 != 28)
   ·rw [h2 hg]; rfl
   ·rw [h1 hg]; rfl
  rw [if_neg h24]
  unfold dpB
  have hrel' := hrel x hm
  have hx28 : (x.1 != 28 || !f) = true := by
   by_cases h28 : x.1 = 28
   ·cases f
    ·simp
    ·have := hf rfl
     rw [Auq, if_neg (by omega), h28] at this
     exact absurd rfl this
   ·rw [show (x.1 != 28) = true from bne_iff_ne.mpr h28]; rfl
  have hnm : (decide (Aai x ≤ 0) || (((Acc l (Af4 l (o.getD (Aai x).toNat 0).toNat)).1 == 28) == (x.1 == 27))) = (decide (Aai x ≤ 0) || (Bbc l (pl.getD (Aai x).toNat 0).toNat == (x.1 == 27))) := by
   by_cases h0 : 0 < Aai x
   ·rw [hrel' h0]; rfl
   ·rw [show decide (Aai x ≤ 0) = true from decide_eq_true (by omega)]; rfl
  rw [hx28, hnm, Bool.and_true]
  have h1 := hG _ rfl (Agl x d)
  have h2 := fun h => hG0 h (Agl x d)
  cases hg : (x.1 == 19 || As2 l i || decide (l.length ≤ i + 1) || (Acc l (Af4 l (i + 1))).1 != 28)
  ·rw [h2 hg]; simp
  ·rw [h1 hg, Bool.and_true]
   cases A15 x d (Ayv l i) <;> cases decide (2 ≤ Agl x d) <;> cases decide (Agl x d ≤ 4000) <;> cases (decide (Aai x ≤ 0) || (Bbc l (pl.getD (Aai x).toNat 0).toNat == (x.1 == 27))) <;> rfl
theorem Ckj {R : Type} (N : Nat) (nm : List UInt8) (data : Aaz) (l : OpL) (gl : Abq) (procs labels : Int) (hl : l.length ≤ 1099511627776) (hd : data.length ≤ 2000) (hp : procs ≤ 200) (hb : labels ≤ 20000)
  (a : Int → Option R) (b : List UInt8 → Aaz → OpL → Abq → Int → Int → Option R) :
  ∀ (k i : Nat), i ≤ l.length → l.length - i < k →
   Aew N k i nm data l gl procs labels a b = if (l.drop i).all (Ah4 data.length procs labels) then b nm data l gl procs labels else a 60 := by
 intro k
 induction k with
 | zero => intro i _ h; omega
 | succ k ih =>
  intro i hi hk
  simp only [Aew, A4r]
  by_cases hlt : i < l.length
  case neg =>
   rw [if_neg (by simp [len]; omega), List.drop_eq_nil_of_le (by omega)]
   simp
  have hin : (0 : Int) ≤ i ∧ (i : Int) < len l := by simp only [len]; omega
  rw [if_pos (by simp [len]; omega), if_pos hin, Ahb _ _ hlt, Acm (by omega), List.drop_eq_getElem_cons hlt, List.all_cons, Bzr N _ _ _ nm data l gl procs labels hd hp hb]
  have : (inB l[i].1 1 30 && Aup l[i].1 l[i].2.1 l[i].2.2 data.length procs labels) = Ah4 data.length procs labels l[i] := rfl
  rw [this, ih (i + 1) (by omega) (by omega)]
  cases Ah4 data.length procs labels l[i] <;> rfl
theorem Cl8 {nd procs labels : Int} {x : Int × Int × Int} (h : Ah4 nd procs labels x = true) (h24 : x.1 = 24) : 0 ≤ x.2.2 ∧ x.2.2 ≤ 8 := by
 obtain ⟨op, n, m⟩ := x
 simp only at h24; subst h24
 simp [Ah4, Aup, inB] at h
 exact h.2
theorem B67 {R : Type} {N : Nat} {nm : List UInt8} {data : Aaz} {gl : Abq} (F : Bh4 N nm data gl) (l : OpL) (procs labels : Int) (K : Int → Option R) :
  Agt N nm data l gl procs labels K = K (Bm9 nm data l gl procs labels) := by
 have hN := F.N1
 simp only [Agt, Bdc]
 rw [Bzs N _ _ _ _ _ _ F.d0 (by omega)]
 unfold Bm9
 cases h : A75 data l procs labels
 case true => rfl
 simp only [A75, Bool.or_eq_false_iff, decide_eq_false_iff_not] at h
 simp only [Bool.false_eq_true, if_false]
 unfold Bh2
 by_cases c1 : procs < 0
 ·rw [if_pos (by simpa using c1), show decide (0 ≤ procs) = false from decide_eq_false (by omega)]; simp
 rw [if_neg (by simpa using c1)]
 by_cases c2 : labels < 0
 ·rw [if_pos (by simpa using c2), show decide (0 ≤ labels) = false from decide_eq_false (by omega)]; simp
 rw [if_neg (by simpa using c2), B6u N nm data l gl procs labels F.d1 (by omega) F.d3 (by omega) F.g1 F.g2 F.n2 F.n1]
 rw [show decide (0 ≤ procs) = true from decide_eq_true (by omega), show decide (0 ≤ labels) = true from decide_eq_true (by omega)]
 cases c3 : Aq3 nm == 0
 case false => simp
 rw [Bool.and_true, Bool.and_true, Bool.and_true, Bool.true_and]
 have hloop := Ckj (R := R) N nm data l gl procs labels (by omega) (by omega) (by omega) (by omega) (fun j => K j) (fun c d e f g i => Ags N c d e f g i (fun m => if ((!m) = true) then (K 60) else (Af3 N c d e f g i (fun n s t => if ((!n) = true) then (K 60) else (Aib N c d e f g i s t (fun A => if ((!A) = true) then (K 61) else (K 0))))))) N 0 (by omega) (by omega)
 rw [List.drop_zero, show ((0 : Nat) : Int) = 0 from rfl] at hloop
 cases c4 : Bh1 data gl procs
 case false =>
  rw [if_pos (by decide)]
  cases Alc l procs labels with
  | none => simp
  | some q => obtain ⟨b, o, a⟩ := q; simp
 rw [if_neg (by decide)]
 refine Eq.trans hloop ?_
 by_cases hn : l.all (Ah4 data.length procs labels) = true
 case neg =>
  rw [if_neg hn, show l.all (Ah4 data.length procs labels) = false by simpa using hn]; rfl
 rw [if_pos hn, hn, Bool.true_and]
 have hall : ∀ o, o ∈ l → Ah4 data.length procs labels o = true := List.all_eq_true.mp hn
 rw [Cl4 N nm data l gl procs labels (by omega) (by omega) (fun o ho => (Bh3 (hall o ho)).1) (fun o ho h => Bzt (hall o ho) h)]
 cases c5 : Ae0 0 l && Alo l
 case false =>
  rw [if_pos (by simp)]
  cases Alc l procs labels with
  | none => simp
  | some q => obtain ⟨b, o, a⟩ := q; simp
 simp only [Bool.and_eq_true] at c5
 rw [Bool.true_and]
 have hL : ∀ o, o ∈ l → o.1 = 19 → 1 ≤ o.2.1 ∧ o.2.1 ≤ labels := fun o ho h => Bzu (hall o ho) h
 have hnm : ∀ x, x ∈ l → Aai x = 0 ∨ (1 ≤ Aai x ∧ Aai x ≤ labels) := fun x hx => Bla (hall x hx)
 have hrel := Ckh l procs labels (by omega) c5.2 hL hnm
 have hcode : (match Alc l procs labels with | none => false | some (b, o, a) => b && true && true && At6 0 l o a) = (Blc l 0 0 procs labels && (A5k l labels).isSome) := by
  rw [← hrel.1]
  cases Alc l procs labels with
  | none => rfl
  | some q => obtain ⟨b, o, a⟩ := q; simp
 refine Eq.trans ?_ (congrArg (fun b : Bool => K (if b = true then (if Awd l procs labels = true then 0 else 61) else 60)) hcode.symm)
 rw [Ckg N nm data l gl procs labels (by omega) (by omega) ⟨by omega, by omega⟩ (by omega) hL hnm _ (fun a b a' b' => rfl)]
 cases c6 : Blc l 0 0 procs labels
 case false => rfl
 rw [if_neg (by decide), Bool.true_and]
 cases hpl : A5k l labels with
 | none => rfl
 | some q =>
  obtain ⟨pl, pr⟩ := q
  simp only [Option.isSome_some, Bool.not_true, Bool.false_eq_true, if_false]
  rw [c6, hpl] at hrel
  cases hp : Alc l procs labels with
  | none =>
   rw [hp] at hrel
   exact absurd hrel.1 (by simp)
  | some q =>
   obtain ⟨b, o, a⟩ := q
   have hr1 := hrel.1
   rw [hp] at hr1
   simp only [Option.isSome_some, Bool.and_true, Bool.and_eq_true] at hr1
   have hr2 := hrel.2 b o a pl pr hp hr1.2 rfl
   have hu := hr1.2
   have hlen := Blb hp
   simp only at hlen
   have hpll : pl.length = (labels + 1).toNat := by
    unfold A5k at hpl
    split at hpl
    ·cases hpl
    ·rename_i pl' pr' hq
     have := Bnb _ _ _ _ _ _ hq
     split at hpl
     ·simp only [Option.some.injEq, Prod.mk.injEq] at hpl
      obtain ⟨rfl, rfl⟩ := hpl
      simpa using this.1
     ·cases hpl
   have huse : ∀ (r : OpL) (p : Int), At6 p r o a = true → ∀ x, x ∈ r → 0 < Aai x → o.getD (Aai x).toNat 0 ≠ 0 := by
    intro r
    induction r with
    | nil => intro p _ x hx; cases hx
    | cons y r ih =>
     intro p h x hx h0
     simp only [At6, Bool.and_eq_true, Bool.or_eq_true, decide_eq_true_eq, bne_iff_ne, ne_eq, beq_iff_eq] at h
     rcases List.mem_cons.mp hx with rfl | hx
     ·rcases h.1 with h | h
      ·omega
      ·exact h.2
     ·exact ih _ h.2 x hx h0
   have hov := Bwf hp
   have hre : ∀ x, x ∈ l → 0 < Aai x → (pl.getD (Aai x).toNat 0 = o.getD (Aai x).toNat 0) ∧ 0 ≤ Aai x ∧ Aai x < pl.length ∧ 0 ≤ pl.getD (Aai x).toNat 0 ∧ pl.getD (Aai x).toNat 0 < l.length := by
    intro x hx h0
    have h1 := hnm x hx
    have h2 := huse l 0 hu x hx h0
    have h3 := hr2 (Aai x).toNat (by omega)
    have h4 := hov (Aai x).toNat
    simp only at h4
    rcases h3 with ⟨e1, e2⟩ | ⟨e1, e2, e3, e4⟩
    ·exfalso
     have huse2 : ∀ (r : OpL) (p : Int), At6 p r o a = true → (p = 0 → Adz r = none ∨ Adz r = some 24) → 0 ≤ p → (∀ y, y ∈ r → y.1 = 24 → 1 ≤ y.2.1) → ∀ x, x ∈ r → 0 < Aai x → a.getD (Aai x).toNat 0 ≠ 0 := by
      intro r
      induction r with
      | nil => intro p _ _ _ _ x hx; cases hx
      | cons y r ih =>
       intro p h hp0 hp h24 x hx h0
       simp only [At6, Bool.and_eq_true, Bool.or_eq_true, decide_eq_true_eq, bne_iff_ne, ne_eq, beq_iff_eq] at h
       have hp1 : 1 ≤ (if y.1 = 24 then y.2.1 else p) := by
        split
        ·rename_i h; exact h24 y (by simp) h
        ·rename_i hy
         rcases Int.lt_or_le 0 p with h | h
         ·omega
         ·have := hp0 (by omega)
          simp only [Adz] at this
          rcases this with h | h
          ·cases h
          ·injection h with h; exact absurd h hy
       rcases List.mem_cons.mp hx with rfl | hx
       ·rcases h.1 with h | h
        ·omega
        ·omega
       ·exact ih _ h.2 (by omega) (by omega) (fun z hz => h24 z (by simp [hz])) x hx h0
     have hf := c5.2
     unfold Alo at hf
     simp only [Bool.or_eq_true, beq_iff_eq] at hf
     exact huse2 l 0 hu (fun _ => hf) (by omega) (fun y hy h => by
      have := hall y hy
      obtain ⟨u, v, w⟩ := y
      simp only at h; subst h
      simp [Ah4, Aup, inB] at this
      exact this.1.1) x hx h0 e1
    ·exact ⟨e2, by omega, by omega, by omega, by omega⟩
   simp only [Aib, Bhf]
   have hd := Cl7 (R := R) N nm data l gl procs labels pl pr data.length (by omega) (by omega) (by omega) c5.1 c5.2 hall (fun x hx h0 => (hre x hx h0).2) (fun B => if (!B) = true then K 61 else K 0) (if (!true) = true then K 61 else K 0) N 0 0 false (by omega) (by omega) (by omega)
   rw [List.drop_zero, show ((0 : Nat) : Int) = 0 from rfl] at hd
   refine Eq.trans hd ?_
   have hsd := Cof l o pl c5.1 (fun x hx h0 => (hre x hx h0).1) (fun x hx => ⟨(Bh3 (hall x hx)).1, (Bh3 (hall x hx)).2, fun h => (Bzt (hall x hx) h).1, fun h => Cl8 (hall x hx) h⟩) l 0 0 0 false rfl c5.1 (fun h => by cases h)
   have hst : Awd l procs labels = A1h l pl 0 0 false l := by unfold Awd; rw [hp]; exact hsd
   rw [hst]
   cases A1h l pl 0 0 false l <;> rfl
abbrev Ac4 := List (Int × Int × Int × Int × Int)
abbrev Ahc := List (Int × Int × Int)
def Ah6 : Nat → Nat → OpL
 | _, 0 => []
 | i, m + 1 => (24, (i : Int) + 1, 0) :: (26, 0, 0) :: Ah6 (i + 1) m
theorem Cp9 {R : Type} (N : Nat) (a : List UInt8) (b : Aaz) (c : Abq) (d : Ahc) (e : Ac4) (a' : List UInt8) (b' : Aaz) (c' : Abq) (d' : Ahc) (e' : Ac4) (nm : List UInt8) (data : Aaz) (gl : Abq) (procs labels : Int) (K : List UInt8 → Aaz → Abq → Ahc → Ac4 → List UInt8 → Aaz → Abq → Ahc → Ac4 → List UInt8 → Aaz → Abq → Int → Int → OpL → Option R) :
  ∀ (m k i : Nat) (acc : OpL), m < k → i + m ≤ 200 → acc.length = 2 * i →
   Ad0 N k ((i + m : Nat) : Int) i a b c d e a' b' c' d' e' nm data gl procs labels acc K = K a b c d e a' b' c' d' e' nm data gl procs labels (acc ++ Ah6 i m) := by
 intro m
 induction m with
 | zero =>
  intro k i acc hk hi ha
  obtain ⟨k, rfl⟩ : ∃ q, k = q + 1 := ⟨k - 1, by omega⟩
  simp only [Ad0, Axp]
  rw [if_neg (by simp)]
  simp [Ah6]
 | succ m ih =>
  intro k i acc hk hi ha
  obtain ⟨k, rfl⟩ : ∃ q, k = q + 1 := ⟨k - 1, by omega⟩
  simp only [Ad0, Axp]
  rw [if_pos (by simp only [decide_eq_true_eq]; omega), Acm (by omega), if_pos (by simp only [List.length_cons, List.length_nil]; omega)]
  have e : ((i + (m + 1) : Nat) : Int) = ((i + 1 + m : Nat) : Int) := by omega
  rw [e, ih k (i + 1) _ (by omega) (by omega) (by simp only [List.length_append, List.length_cons, List.length_nil]; omega)]
  simp [Ah6]
theorem Cqa {R : Type} (N : Nat) (a : List UInt8) (b : Aaz) (c : Abq) (d : Ahc) (e : Ac4) (nm : List UInt8) (data : Aaz) (gl : Abq) (procs labels : Int) (K : List UInt8 → Aaz → Abq → Int → Int → OpL → Option R) :
  ∀ (m k i : Nat) (acc : OpL), m < k → i + m = d.length → d.length ≤ 200 → acc.length = 2 * i →
   Aei N k i a b c d e nm data gl procs labels acc K = K nm data gl procs labels (acc ++ Ah6 i m) := by
 intro m
 induction m with
 | zero =>
  intro k i acc hk hi hd ha
  obtain ⟨k, rfl⟩ : ∃ q, k = q + 1 := ⟨k - 1, by omega⟩
  simp only [Aei, Avj, len]
  rw [if_neg (by simp only [decide_eq_true_eq]; omega)]
  simp [Ah6]
 | succ m ih =>
  intro k i acc hk hi hd ha
  obtain ⟨k, rfl⟩ : ∃ q, k = q + 1 := ⟨k - 1, by omega⟩
  simp only [Aei, Avj, len]
  rw [if_pos (by simp only [decide_eq_true_eq]; omega), Acm (by omega), if_pos (by simp only [List.length_cons, List.length_nil]; omega)]
  rw [ih k (i + 1) _ (by omega) (by omega) hd (by simp only [List.length_append, List.length_cons, List.length_nil]; omega)]
  simp [Ah6]
theorem B8c : ∀ (m i : Nat) (o : Int × Int × Int), o ∈ Ah6 i m → o.1 = 24 ∨ o.1 = 26
 | 0, _, o, h => by cases h
 | m + 1, i, o, h => by
  simp only [Ah6, List.mem_cons] at h
  rcases h with rfl | rfl | h
  ·exact .inl rfl
  ·exact .inr rfl
  ·exact B8c m (i + 1) o h
theorem Cog {m j : Nat} : (Acc (Ah6 0 m) j).1 ≠ 28 := by
 unfold Acc
 by_cases h : j < (Ah6 0 m).length
 ·have e : (Ah6 0 m).getD j (0, 0, 0) = (Ah6 0 m)[j] := by rw [List.getD_eq_getElem?_getD]; simp [h]
  rw [e]
  rcases B8c m 0 _ (List.getElem_mem h) with k | k <;> rw [k] <;> decide
 ·have e : (Ah6 0 m).getD j (0, 0, 0) = (0, 0, 0) := by rw [List.getD_eq_getElem?_getD]; simp [show (Ah6 0 m).length ≤ j by omega]
  rw [e]; decide
theorem Bs5 : ∀ (m i q : Nat) (o a : List Int), plF i (Ah6 q m) q 0 o a = some (((q + m : Nat) : Int), 0, o, a)
 | 0, i, q, o, a => by simp [Ah6, plF]
 | m + 1, i, q, o, a => by
  simp only [Ah6, plF]
  rw [if_pos trivial, if_pos trivial, if_neg (by decide), if_neg (by decide)]
  have := Bs5 m (i + 1 + 1) (q + 1) o a
  rw [show ((q : Int) + 1) = ((q + 1 : Nat) : Int) by omega, this]
  congr 2
  omega
theorem B8d (M : Nat) (o : List Int) : ∀ (m i q : Nat) (d : Int), (m = 0 ∨ True) → Bdr (Ah6 0 M) o i d (Ah6 q m) = true
 | 0, i, q, d, _ => rfl
 | m + 1, i, q, d, _ => by
  have h3 : ∀ j, ((Acc (Ah6 0 M) j).1 != 28) = true := fun j => by simpa using Cog
  have t1 : A77 (Ah6 0 M) o i (24, (q : Int) + 1, 0) d = true := by
   simp only [A77, h3]
   simp [Agl, Aai]
  have t2 : A77 (Ah6 0 M) o (i + 1) (26, 0, 0) (Agl (24, (q : Int) + 1, 0) d) = true := by
   simp only [A77, h3]
   simp [Agl, Aai, kT, Alr]
  simp only [Ah6, Bdr, t1, t2]
  have f1 : A15 (24, (q : Int) + 1, 0) d (Ayv (Ah6 0 M) i) = true := by simp [A15]
  have f2 : A15 (26, 0, 0) (Agl (24, (q : Int) + 1, 0) d) (Ayv (Ah6 0 M) (i + 1)) = true := by simp [A15, Agl, kT, Alr]
  rw [f1, f2]
  simp only [Bool.and_true, Bool.true_and]
  exact B8d M o m (i + 1 + 1) (q + 1) _ (.inr trivial)
def Aon (nm : List UInt8) (data : Aaz) (gl : Abq) (n : Nat) : Int :=
 Bm9 nm data (Ah6 0 n) gl n 0
theorem Ce1 (nm : List UInt8) (data : Aaz) (gl : Abq) (n : Nat) : Aon nm data gl n = 0 ∨ Aon nm data gl n = 2 ∨ Aon nm data gl n = 60 := by
 have hs : Awd (Ah6 0 n) n 0 = true := by
  unfold Awd Alc
  have := Bs5 n 0 0 (List.replicate ((0 : Int) + 1).toNat 0) (List.replicate ((0 : Int) + 1).toNat 0)
  rw [show ((0 : Nat) : Int) = 0 from rfl] at this
  rw [this]
  exact B8d n _ n 0 0 0 (.inr trivial)
 unfold Aon Bm9
 rw [hs, if_pos rfl]
 split
 ·exact .inr (.inl rfl)
 ·split
  ·exact .inl rfl
  ·exact .inr (.inr rfl)
theorem B68 {R : Type} {N : Nat} {nm : List UInt8} {data : Aaz} {gl : Abq} (F : Bh4 N nm data gl) (d : Ahc) (e : Ac4) (K : Int → Option R) :
  Aes N nm data gl d e K = if 32000 < e.length ∨ 200 < d.length then K 2 else K (Aon nm data gl d.length) := by
 have hN := F.N1
 simp only [Aes, Bdf]
 by_cases h1 : 32000 < e.length
 ·rw [if_pos (by simp only [len, decide_eq_true_eq]; omega), if_pos (.inl h1)]
 rw [if_neg (by simp only [len, decide_eq_true_eq]; omega)]
 by_cases h2 : 200 < d.length
 ·rw [if_pos (by simp only [len, decide_eq_true_eq]; omega), if_pos (.inr h2)]
 rw [if_neg (by simp only [len, decide_eq_true_eq]; omega), if_neg (by omega)]
 have := Cqa N nm data gl d e nm data gl (len d) 0 (fun a b c f g h => Agt N a b h c f g (fun i => K i)) d.length N 0 [] (by omega) (by omega) (by omega) rfl
 rw [show ((0 : Nat) : Int) = 0 from rfl] at this
 rw [this]
 simp only [List.nil_append]
 rw [B67 F]
 rfl
abbrev Z5 : Int × Int × Int × Int × Int := (0, 0, 0, 0, 0)
def Aar (l : Ac4) (i : Nat) : Int × Int × Int × Int × Int := l.getD i Z5
def Cby (nd np : Nat) (mode n : Int) : Bool :=
 if mode = 0 then inB n (-2147483648) 2147483647 else if mode = 1 ∨ mode = 4 then inB n 0 4000 else if mode = 2 ∨ mode = 5 then inB n 0 199
 else if mode = 3 ∨ mode = 6 then inB n 0 ((nd : Int) - 1) else if mode = 7 then inB n 1 np else false
def Aof (nd np : Nat) (mode n : Int) : Bool := if mode = 8 then inB n 0 4000 else if mode = 9 then inB n 0 199 else Cby nd np mode n
def wrB (mode : Int) : Bool := inB mode 1 3 || inB mode 8 9
def A2f (l : Ac4) (n : Int) : Bool := inB n 0 ((l.length : Int) - 1) && ((Aar l n.toNat).1 != 13 && (Aar l n.toNat).1 != 6)
def A0r (nd np : Nat) (l : Ac4) (op a b c d : Int) : Bool :=
 if op = 1 ∨ op = 2 ∨ op = 4 then wrB a && Aof nd np a b && Aof nd np c d
 else if op = 3 ∨ op = 5 then Aof nd np a b && Aof nd np c d
 else if op = 6 then Aof nd np a b && (c == 0 && d == 0)
 else if op = 7 then a == 0 && (A2f l b && (c == 0 && d == 0))
 else if op = 8 ∨ op = 9 then a == 0 && (A2f l b && Aof nd np c d)
 else if op = 10 then a == 0 && (inB b 0 4000 && Aof nd np c d)
 else if op = 11 then a == 0 && (b == 0 && Aof nd np c d)
 else if op = 12 then inB a 0 1000 && (A2f l b && Aof nd np c d)
 else if op = 13 then inB a (-2147483648) 2147483647 && (A2f l b && (c == 0 && d == 0))
 else if op = 58 ∨ op = 59 then wrB a && Aof nd np a b && (c == 0 && d == 0)
 else inB op 41 57 && (wrB a && Aof nd np a b && Aof nd np c d)
theorem ifE {R : Type} (x y : Int) (b : Bool) (K : Bool → Option R) : (if x = y then K b else K false) = K (x == y && b) := by
 by_cases h : x = y
 ·rw [if_pos h, beq_iff_eq.2 h]; rfl
 ·rw [if_neg h, beq_eq_false_iff_ne.2 h]; rfl
theorem Csy {R : Type} (v a b : Int) (K : Bool → Option R) : (if decide (v ≥ a) = true then K (decide (v ≤ b)) else K false) = K (inB v a b) := by
 rw [ifT]; rfl
theorem Csz (v a b : Int) : (decide (v ≥ a) && decide (v < b)) = inB v a (b - 1) := by
 unfold inB
 congr 1
 ·exact decide_eq_decide.2 (by omega)
theorem Ce2 {R : Type} (N : Nat) (c : List UInt8) (a : Aaz) (d : Abq) (b : Ahc) (e : Ac4) (mode n : Int) (K : Bool → Option R) :
  Aju N c a d b e mode n K = K (Cby a.length b.length mode n) := by
 simp only [Aju, Bkv, Aem, A83, Ael, A82, Aeb, ifT, len, Csz, beq_iff_eq, Cby]
 by_cases h0 : mode = 0
 ·subst h0; rfl
 by_cases h1 : mode = 1
 ·subst h1; rfl
 by_cases h4 : mode = 4
 ·subst h4; rfl
 by_cases h2 : mode = 2
 ·subst h2; rfl
 by_cases h5 : mode = 5
 ·subst h5; rfl
 by_cases h3 : mode = 3
 ·subst h3; rfl
 by_cases h6 : mode = 6
 ·subst h6; rfl
 by_cases h7 : mode = 7
 ·subst h7; rfl
 simp [h0, h1, h2, h3, h4, h5, h6, h7]
theorem Ce3 {R : Type} (N : Nat) (c : List UInt8) (a : Aaz) (d : Abq) (b : Ahc) (e : Ac4) (mode n : Int) (K : Bool → Option R) :
  Ae1 N c a d b e mode n K = K (Aof a.length b.length mode n) := by
 simp only [Ae1, Bky, Ahe, Bcj, Ce2, beq_iff_eq, Aof]
 by_cases h8 : mode = 8
 ·subst h8; rfl
 by_cases h9 : mode = 9
 ·subst h9; rfl
 simp [h8, h9]
theorem Bzx {R : Type} (N : Nat) (mode : Int) (K : Bool → Option R) : Abg N mode K = K (wrB mode) := by
 simp only [Abg]
 by_cases h8 : mode = 8
 ·subst h8; rfl
 by_cases h9 : mode = 9
 ·subst h9; rfl
 have e : wrB mode = inB mode 1 3 := by
  have : inB mode 8 9 = false := by unfold inB; simp; omega
  unfold wrB; rw [this, Bool.or_false]
 have e8 : (mode == 8) = false := by simpa using h8
 have e9 : (mode == 9) = false := by simpa using h9
 rw [e, e8, e9]
 by_cases h1 : mode ≥ 1
 ·by_cases h2 : mode ≤ 3
  ·rw [if_pos (by simpa using h1), if_pos (by simpa using h2)]; simp [inB, h1, h2]
  ·rw [if_pos (by simpa using h1), if_neg (by simpa using h2)]; simp [inB, h2]
 ·rw [if_neg (by simpa using h1)]; simp [inB, show ¬ 1 ≤ mode by omega]
theorem Coh {l : Ac4} {n : Int} : inB n 0 ((l.length : Int) - 1) = (decide (n ≥ 0) && decide (n < l.length)) := (Csz _ _ _).symm
theorem B69 {R : Type} (N : Nat) (n : Int) (a : List UInt8) (b : Aaz) (c : Abq) (d : Ahc) (l : Ac4) (K : Bool → List UInt8 → Aaz → Abq → Ahc → Ac4 → Option R) :
  Acp N n a b c d l K = K (A2f l n) a b c d l := by
 simp only [Acp, len, A2f, Coh, Aar, Z5]
 generalize List.getD l n.toNat (0, 0, 0, 0, 0) = q
 by_cases h0 : n ≥ 0
 ·by_cases h1 : n < (l.length : Int)
  ·have h : 0 ≤ n ∧ n < (l.length : Int) := ⟨h0, h1⟩
   rw [decide_eq_true h0, decide_eq_true h1]
   simp only [if_pos h, if_true]
   cases q.1 != 13 <;> rfl
  ·rw [decide_eq_true h0, decide_eq_false h1]; rfl
 ·rw [decide_eq_false h0]; rfl
theorem A97 {R : Type} (N : Nat) (v a b : Int) (K : Bool → Option R) : Aa3 N v a b K = K (inB v a b) := by
 simp only [Aa3]; exact Csy v a b K
theorem Cgn {R : Type} (N : Nat) (v a b : Int) (K : Bool → Option R) : Acl N v a b K = K (inB v a b) := by
 simp only [Acl]; exact Csy v a b K
theorem Bs6 {R : Type} (N : Nat) (c : List UInt8) (a : Aaz) (d : Abq) (b : Ahc) (e : Ac4) (mode n : Int) (hd : a.length ≤ 1000000) (K : Bool → Option R) :
  Abd N c a d b e mode n K = K (Aof a.length b.length mode n) := by
 have hw : wi ((a.length : Int) - 1) = (a.length : Int) - 1 := Afv (by omega) (by omega)
 simp only [Abd, Bk7, Aie, A7t, Aby, A0e, Abx, A0d, Abw, A0c, Abz, A0f, Cgn, len, hw, beq_iff_eq, Aof, Cby]
 by_cases h0 : mode = 0
 ·subst h0; rfl
 by_cases h1 : mode = 1
 ·subst h1; rfl
 by_cases h4 : mode = 4
 ·subst h4; rfl
 by_cases h2 : mode = 2
 ·subst h2; rfl
 by_cases h5 : mode = 5
 ·subst h5; rfl
 by_cases h3 : mode = 3
 ·subst h3; rfl
 by_cases h6 : mode = 6
 ·subst h6; rfl
 by_cases h7 : mode = 7
 ·subst h7; rfl
 by_cases h8 : mode = 8
 ·subst h8; rfl
 by_cases h9 : mode = 9
 ·subst h9; rfl
 have : inB mode 0 9 = false := by unfold inB; simp; omega
 rw [this]
 simp [h0, h1, h2, h3, h4, h5, h6, h7, h8, h9]
theorem Bvm {R : Type} (N : Nat) (c : List UInt8) (a : Aaz) (d : Abq) (b : Ahc) (e : Ac4) (mode n : Int) (hd : a.length ≤ 1000000) (K : Bool → Option R) :
  Abe N c a d b e mode n K = K (wrB mode && Aof a.length b.length mode n) := by
 simp only [Abe, A43, A97, Bs6 N _ _ _ _ _ _ _ hd, wrB]
 cases inB mode 1 3 <;> cases inB mode 8 9 <;> rfl
theorem B7a {R : Type} (N : Nat) (a : List UInt8) (b : Aaz) (c : Abq) (d : Ahc) (l : Ac4) (n : Int) (hl : l.length ≤ 1000000) (K : Bool → Option R) :
  Acs N a b c d l n K = K (A2f l n) := by
 have hw : wi ((l.length : Int) - 1) = (l.length : Int) - 1 := Afv (by omega) (by omega)
 simp only [Acs, Bdh, A97, len, hw, A2f, Aar]
 cases h : inB n 0 ((l.length : Int) - 1)
 ·rfl
 ·have : 0 ≤ n ∧ n < l.length := by unfold inB at h; simp at h; omega
  rw [if_pos rfl, if_pos this, if_pos this]
  cases (List.getD l n.toNat Z5).1 != 13 <;> rfl
theorem B7b {R : Type} (N : Nat) (g : List UInt8) (e : Aaz) (h : Abq) (f : Ahc) (l : Ac4) (op a b c d : Int) (hd : e.length ≤ 1000000) (hl : l.length ≤ 1000000) (K : Bool → Option R) :
  Aet N g e h f l op a b c d K = K (A0r e.length f.length l op a b c d) := by
 simp only [Aet, Bdj, Ach, A46, Acx, A45, Acw, A44, Aci, A47, Bvm N _ _ _ _ _ _ _ hd, Bs6 N _ _ _ _ _ _ _ hd, B7a N _ _ _ _ _ _ hl, A97, ifT, ifE, beq_iff_eq, A0r]
 generalize Aof e.length f.length a b = X
 generalize Aof e.length f.length c d = Y
 generalize A2f l b = P
 generalize wrB a = W
 by_cases h1 : op = 1
 ·subst h1; rfl
 by_cases h2 : op = 2
 ·subst h2; rfl
 by_cases h4 : op = 4
 ·subst h4; rfl
 by_cases h3 : op = 3
 ·subst h3; rfl
 by_cases h5 : op = 5
 ·subst h5; rfl
 by_cases h6 : op = 6
 ·subst h6; rfl
 by_cases h7 : op = 7
 ·subst h7; rfl
 by_cases h8 : op = 8
 ·subst h8; rfl
 by_cases h9 : op = 9
 ·subst h9; rfl
 by_cases h10 : op = 10
 ·subst h10; rfl
 by_cases h11 : op = 11
 ·subst h11; rfl
 by_cases h12 : op = 12
 ·subst h12; rfl
 by_cases h13 : op = 13
 ·subst h13; rfl
 by_cases h58 : op = 58
 ·subst h58; rfl
 by_cases h59 : op = 59
 ·subst h59; rfl
 simp [h1, h2, h3, h4, h5, h6, h7, h8, h9, h10, h11, h12, h13, h58, h59]
def Bj7 (l : Ac4) (i : Nat) : Bool := decide (i + 1 < l.length) && (Aar l (i + 1)).1 == 6
def A78 (nd np : Nat) (l : Ac4) (i : Nat) : Bool :=
 A0r nd np l (Aar l i).1 (Aar l i).2.1 (Aar l i).2.2.1 (Aar l i).2.2.2.1 (Aar l i).2.2.2.2 && ((Aar l i).1 != 5 || Bj7 l i)
theorem Coi {R : Type} (l : Ac4) (i : Nat) (K : Bool → Option R) :
  (if decide (((i + 1 : Nat) : Int) < (l.length : Int)) = true then if 0 ≤ ((i + 1 : Nat) : Int) ∧ ((i + 1 : Nat) : Int) < (l.length : Int) then K ((List.getD l ((i + 1 : Nat) : Int).toNat Z5).1 == 6) else none else K false) = K (Bj7 l i) := by
 unfold Bj7 Aar
 by_cases h : i + 1 < l.length
 ·rw [if_pos (by simp only [decide_eq_true_eq]; omega), if_pos (by omega), decide_eq_true h]; rfl
 ·rw [if_neg (by simp only [decide_eq_true_eq]; omega), decide_eq_false h]; rfl
theorem Ce4 {R : Type} (N : Nat) (g : List UInt8) (e : Aaz) (h : Abq) (f : Ahc) (l : Ac4) (i : Nat) (hi : i < l.length) (hl : l.length ≤ 1000000) (K : Bool → Option R) :
  Ajv N g e h f l i K = K (A78 e.length f.length l i) := by
 simp only [Ajv, Bk0, Ac1, A86, Adr, A85, Adq, A84, Ac2, A87, Ce3, Bzx, B69, len, Acm (show i < 4611686018427387904 by omega), Coi, ifT]
 rw [if_pos (by omega)]
 unfold A78
 rw [show List.getD l ((i : Nat) : Int).toNat (0, 0, 0, 0, 0) = Aar l i from rfl]
 obtain ⟨op, a, b, c, d⟩ := Aar l i
 simp only [A0r]
 generalize Aof e.length f.length a b = X
 generalize Aof e.length f.length c d = Y
 generalize A2f l b = P
 generalize wrB a = W
 generalize (d == 0) = D
 generalize (c == 0) = C
 generalize Bj7 l i = T
 generalize hA : (a == 0) = A
 generalize hB : (b == 0) = B
 by_cases h1 : op = 1
 ·subst h1; cases X <;> cases Y <;> cases W <;> cases C <;> rfl
 by_cases h2 : op = 2
 ·subst h2; cases X <;> cases Y <;> cases W <;> cases C <;> rfl
 by_cases h4 : op = 4
 ·subst h4; cases X <;> cases Y <;> cases W <;> cases C <;> rfl
 by_cases h3 : op = 3
 ·subst h3; cases X <;> cases Y <;> cases C <;> rfl
 by_cases h5 : op = 5
 ·subst h5; cases X <;> cases Y <;> cases T <;> cases C <;> rfl
 by_cases h6 : op = 6
 ·subst h6; cases X <;> cases C <;> cases D <;> rfl
 by_cases h7 : op = 7
 ·subst h7; cases A <;> cases P <;> cases C <;> cases D <;> rfl
 by_cases h8 : op = 8
 ·subst h8; cases A <;> cases P <;> cases C <;> cases Y <;> rfl
 by_cases h9 : op = 9
 ·subst h9; cases A <;> cases P <;> cases C <;> cases Y <;> rfl
 by_cases h10 : op = 10
 ·subst h10; cases A <;> cases C <;> cases Y <;> simp [inB]
 by_cases h11 : op = 11
 ·subst h11; cases A <;> cases B <;> cases C <;> cases Y <;> rfl
 by_cases h12 : op = 12
 ·subst h12; cases P <;> cases C <;> cases Y <;> simp [inB]
 by_cases h13 : op = 13
 ·subst h13; cases P <;> cases C <;> cases D <;> simp [inB]
 by_cases h58 : op = 58
 ·subst h58; cases X <;> cases W <;> cases C <;> cases D <;> rfl
 by_cases h59 : op = 59
 ·subst h59; cases X <;> cases W <;> cases C <;> cases D <;> rfl
 have e5 : (op != 5) = true := by simpa using h5
 cases X <;> cases Y <;> cases W <;> cases C <;> simp [e5, inB, h1, h2, h3, h4, h5, h6, h7, h8, h9, h10, h11, h12, h13, h58, h59]
def cnt : Int → Ac4 → Bool
 | c, [] => decide (c ≤ 0)
 | c, o :: r => (decide (0 < c) == (o.1 == 13)) && cnt (if o.1 = 12 then o.2.1 else if 0 < c then c - 1 else c) r
def Bds : Nat → Ac4 → Bool
 | 0, _ => true
 | _ + 1, [] => false
 | m + 1, o :: r => o.1 == 13 && Bds m r
theorem Chh : ∀ {m : Nat} {r : Ac4}, Bds m r = true → m ≤ r.length
 | 0, _, _ => Nat.zero_le _
 | m + 1, [], h => by cases h
 | m + 1, o :: r, h => by
  simp only [Bds, Bool.and_eq_true] at h
  have := Chh h.2
  simp only [List.length_cons]; omega
theorem Chi : ∀ (m : Nat) (r : Ac4), cnt m r = (Bds m r && cnt 0 (r.drop m))
 | 0, r => by simp [Bds]
 | m + 1, [] => by simp [Bds, cnt]
 | m + 1, o :: r => by
  simp only [Bds, cnt, List.drop_succ_cons]
  have e : decide (0 < ((m + 1 : Nat) : Int)) = true := decide_eq_true (by omega)
  rw [e]
  by_cases h : o.1 = 13
  ·rw [if_neg (by rw [h]; decide), if_pos (by omega), show ((m + 1 : Nat) : Int) - 1 = (m : Int) by omega, Chi m r]
   simp [h]
  ·have : (o.1 == 13) = false := by simpa using h
   rw [this]; rfl
theorem Cs0 {o : Int × Int × Int × Int × Int} {r : Ac4} {n : Nat} (h : o.1 = 12) (hn : o.2.1 = (n : Int)) : cnt 0 (o :: r) = cnt (n : Int) r := by
 simp only [cnt]; rw [if_pos h, h, hn]; rfl
theorem Cl9 {o : Int × Int × Int × Int × Int} {r : Ac4} (h : o.1 = 13) : cnt 0 (o :: r) = false := by
 simp only [cnt]; rw [h]; rfl
theorem Ctw {o : Int × Int × Int × Int × Int} {r : Ac4} (h : o.1 ≠ 12) (h' : o.1 ≠ 13) : cnt 0 (o :: r) = cnt 0 r := by
 simp only [cnt]; rw [if_neg h, show (o.1 == 13) = false by simpa using h']; rfl
theorem A9o {l : Ac4} {i : Nat} (h : i < l.length) : l.drop i = Aar l i :: l.drop (i + 1) := by
 rw [List.drop_eq_getElem_cons h]
 congr 1
 unfold Aar
 rw [List.getD_eq_getElem?_getD]; simp [h]
theorem Cuk {R : Type} (N : Nat) (l : Ac4) (hl : l.length ≤ 1000000) (i : Nat) (hi : i < l.length) (n : Int) (hn : n ≤ 1000) (a : Bool → Option R) (b : Ac4 → Int → Int → Int → Int → Option R) :
  ∀ (m k t : Nat), m < k → ((t + m : Nat) : Int) = n →
   Acq N k l 12 13 i n n t a b = if Bds m (l.drop (i + 1 + t)) = true then b l 12 13 i n else a false := by
 intro m
 induction m with
 | zero =>
  intro k t hk ht
  obtain ⟨k, rfl⟩ : ∃ q, k = q + 1 := ⟨k - 1, by omega⟩
  simp only [Acq, Asa]
  rw [if_neg (by simp only [decide_eq_true_eq]; omega), Bds, if_pos rfl]
 | succ m ih =>
  intro k t hk ht
  obtain ⟨k, rfl⟩ : ∃ q, k = q + 1 := ⟨k - 1, by omega⟩
  simp only [Acq, Asa, Acm (show i < 4611686018427387904 by omega), Acm (show t < 4611686018427387904 by omega), len]
  have e : wi (((i + 1 : Nat) : Int) + (t : Int)) = ((i + 1 + t : Nat) : Int) := by rw [Afv (by omega) (by omega)]; omega
  rw [if_pos (by simp only [decide_eq_true_eq]; omega), e]
  by_cases hv : i + 1 + t < l.length
  ·rw [if_neg (by simp only [decide_eq_true_eq, ge_iff_le]; omega), if_pos (by omega)]
   rw [show List.getD l ((i + 1 + t : Nat) : Int).toNat (0, 0, 0, 0, 0) = Aar l (i + 1 + t) from rfl, A9o hv, Bds]
   by_cases hc : (Aar l (i + 1 + t)).1 = 13
   ·rw [if_neg (by simpa using hc), ih k (t + 1) (by omega) (by omega)]
    rw [hc]
    rfl
   ·rw [if_pos (by simpa using hc), if_neg (by simp [hc])]
  ·rw [if_pos (by simp only [decide_eq_true_eq, ge_iff_le]; omega), List.drop_eq_nil_of_le (by omega), Bds, if_neg (by decide)]
theorem sw5 {R : Type} (N : Nat) (l : Ac4) (hl : l.length ≤ 1000000) (hN : 1000 < N) (hA : ∀ i, i < l.length → (Aar l i).1 = 12 → 0 ≤ (Aar l i).2.1 ∧ (Aar l i).2.1 ≤ 1000) (a : Bool → Option R) (d : Option R) :
  ∀ (k i : Nat), i ≤ l.length → l.length - i < k → Ac7 N k l 12 13 i a d = if cnt 0 (l.drop i) = true then d else a false := by
 intro k
 induction k with
 | zero => intro i hi hk; omega
 | succ k ih =>
  intro i hi hk
  simp only [Ac7, A1r, Afl, len]
  by_cases h : l.length ≤ i
  ·rw [if_neg (by simp only [decide_eq_true_eq]; omega), List.drop_eq_nil_of_le h]; rfl
  replace h : i < l.length := by omega
  rw [if_pos (by simp only [decide_eq_true_eq]; omega), if_pos (by omega)]
  rw [show List.getD l ((i : Nat) : Int).toNat (0, 0, 0, 0, 0) = Aar l i from rfl, A9o h]
  by_cases h12 : (Aar l i).1 = 12
  ·obtain ⟨a0, a1⟩ := hA i h h12
   obtain ⟨n, hn⟩ := Int.eq_ofNat_of_zero_le a0
   rw [Cs0 h12 hn, if_pos (by rw [h12]; rfl), if_pos (by omega), hn]
   have := Cuk N l hl i h (n : Int) (by omega) (fun j => a j) (fun c g f m o => let b := (wi ((wi (m + o)) + (1 : Int))); if ((decide ((b < ((List.length c : Nat) : Int)))) = true) then (if (((0 : Int) ≤ b) ∧ (b < ((List.length c : Nat) : Int))) then (if (((List.getD c (Int.toNat b) ((0 : Int), ((0 : Int), ((0 : Int), ((0 : Int), (0 : Int)))))).1 == f) = true) then (a false) else (Ac7 N k c g f b a d)) else none) else (Ac7 N k c g f b a d)) n N 0 (by omega) (by omega)
   rw [show ((0 : Nat) : Int) = 0 from rfl, Nat.add_zero] at this
   rw [this, Chi n (l.drop (i + 1))]
   cases hc : Bds n (l.drop (i + 1))
   ·rfl
   have hle := Chh hc
   simp only [List.length_drop] at hle
   have e : wi (wi ((i : Int) + (n : Int)) + 1) = ((i + n + 1 : Nat) : Int) := by
    rw [Afv (i := (i : Int) + (n : Int)) (by omega) (by omega), Afv (by omega) (by omega)]; omega
   rw [if_pos rfl]
   simp only [e, List.drop_drop]
   rw [show i + 1 + n = i + n + 1 by omega]
   by_cases hv : i + n + 1 < l.length
   ·rw [if_pos (by simp only [decide_eq_true_eq]; omega), if_pos (by omega)]
    rw [show List.getD l ((i + n + 1 : Nat) : Int).toNat (0, 0, 0, 0, 0) = Aar l (i + n + 1) from rfl]
    by_cases h13 : (Aar l (i + n + 1)).1 = 13
    ·rw [if_pos (by simpa using h13), A9o hv, Cl9 h13]; rfl
    ·rw [if_neg (by simpa using h13), ih (i + n + 1) (by omega) (by omega)]; rfl
   ·rw [if_neg (by simp only [decide_eq_true_eq]; omega), ih (i + n + 1) (by omega) (by omega)]; rfl
  ·rw [if_neg (by simpa using h12)]
   by_cases h13 : (Aar l i).1 = 13
   ·rw [if_pos (by simpa using h13), Cl9 h13]; rfl
   ·rw [if_neg (by simpa using h13), Acm (by omega), ih (i + 1) (by omega) (by omega), Ctw h12 h13]
theorem Bzy {R : Type} (N : Nat) (l : Ac4) (hl : l.length ≤ 1000000) (hN : 1000 < N) (hN2 : l.length < N) (hA : ∀ i, i < l.length → (Aar l i).1 = 12 → 0 ≤ (Aar l i).2.1 ∧ (Aar l i).2.1 ≤ 1000) (K : Bool → Option R) :
  Ae7 N l 12 13 K = K (cnt 0 l) := by
 simp only [Ae7, A62]
 have := sw5 N l hl hN hA (fun a => K a) (K true) N 0 (by omega) (by omega)
 rw [show ((0 : Nat) : Int) = 0 from rfl, List.drop_zero] at this
 rw [this]
 cases cnt 0 l <;> rfl
def Bek (l : Ac4) (i : Nat) : Bool :=
 if (Aar l i).1 = 7 ∨ (Aar l i).1 = 11 then true else if (Aar l i).1 = 12 then (Aar l i).2.1 == 0
 else if (Aar l i).1 = 13 then decide (i + 1 = l.length) || (Aar l (i + 1)).1 != 13 else false
theorem Bs7 {R : Type} (N : Nat) (l : Ac4) (i : Nat) (hi : i < l.length) (hl : l.length ≤ 1000000) (K : Bool → Option R) : Ama N l i K = K (Bek l i) := by
 simp only [Ama, Bkt, Ahd, len, Acm (show i < 4611686018427387904 by omega)]
 rw [if_pos (show (0 : Int) ≤ i ∧ (i : Int) < l.length by omega), if_pos (show (0 : Int) ≤ i ∧ (i : Int) < l.length by omega)]
 rw [show List.getD l ((i : Nat) : Int).toNat (0, 0, 0, 0, 0) = Aar l i from rfl, show List.getD l ((i + 1 : Nat) : Int).toNat (0, 0, 0, 0, 0) = Aar l (i + 1) from rfl]
 unfold Bek
 generalize (Aar l i).2.1 = a
 generalize hop : (Aar l i).1 = op
 by_cases h7 : op = 7
 ·subst h7; rfl
 by_cases h11 : op = 11
 ·subst h11; rfl
 by_cases h12 : op = 12
 ·subst h12; rfl
 by_cases h13 : op = 13
 ·subst h13
  by_cases h : i + 1 = l.length
  ·have e : (((i + 1 : Nat) : Int) == (l.length : Int)) = true := by simp; omega
   rw [e, decide_eq_true h]; rfl
  ·have e : (((i + 1 : Nat) : Int) == (l.length : Int)) = false := by simp; omega
   rw [e, decide_eq_false h]
   simp only [if_pos (show (0 : Int) ≤ ((i + 1 : Nat) : Int) ∧ ((i + 1 : Nat) : Int) < l.length by omega)]
   rfl
 simp [h7, h11, h12, h13]
def Bj8 (l : Ac4) (b : Int × Int × Int) : Bool :=
 inB b.1 0 ((l.length : Int) - 1) && ((Aar l b.1.toNat).1 != 13 && (inB b.2.1 0 8 && (inB b.2.2 2 4001 && (decide (b.1 ≤ 0) || Bek l (b.1.toNat - 1)))))
theorem Cqb {R : Type} (N : Nat) (d : Ahc) (l : Ac4) (hd : d.length ≤ 1000000) (hl : l.length ≤ 1000000) (a : List UInt8) (c : Aaz) (f : Abq) (g : Ahc) (n : List UInt8) (o : Aaz) (q : Abq) (s : Ahc)
  (j : Bool → Bool → List UInt8 → Aaz → Abq → Ahc → Ac4 → Option R) (m : List UInt8 → Aaz → Abq → Ahc → Ac4 → Option R) :
  ∀ (k i : Nat), i ≤ d.length → d.length - i < k → Ad2 N k d (d.length : Int) i a c f g l n o q s l j m =
   if (d.drop i).all (Bj8 l) = true then m a c f g l else j false false a c f g l := by
 intro k
 induction k with
 | zero => intro i hi hk; omega
 | succ k ih =>
  intro i hi hk
  simp only [Ad2, A6u, Afk, Adx, A06, len]
  by_cases h : d.length ≤ i
  ·rw [if_neg (by simp only [decide_eq_true_eq]; omega), List.drop_eq_nil_of_le h]; rfl
  replace h : i < d.length := by omega
  rw [if_pos (by simp only [decide_eq_true_eq]; omega), if_pos (by omega), Ahb d _ h, Acm (by omega), ih (i + 1) (by omega) (by omega), List.drop_eq_getElem_cons h, List.all_cons]
  obtain ⟨b, p, r⟩ := d[i]
  rw [show Bj8 l (b, p, r) = (inB b 0 ((l.length : Int) - 1) && ((Aar l b.toNat).1 != 13 && (inB p 0 8 && (inB r 2 4001 && (decide (b ≤ 0) || Bek l (b.toNat - 1)))))) from rfl]
  dsimp only
  by_cases h0 : b < 0
  ·rw [if_pos (by simpa using h0), show inB b 0 ((l.length : Int) - 1) = false by unfold inB; rw [decide_eq_false (by omega)]; rfl]; rfl
  rw [if_neg (by simpa using h0)]
  by_cases h1 : b ≥ (l.length : Int)
  ·rw [if_pos (by simpa using h1), show inB b 0 ((l.length : Int) - 1) = false by unfold inB; rw [decide_eq_false (p := b ≤ _) (by omega), Bool.and_false]]; rfl
  rw [if_neg (by simpa using h1), if_pos (show 0 ≤ b ∧ b < (l.length : Int) by omega)]
  rw [show inB b 0 ((l.length : Int) - 1) = true by unfold inB; rw [decide_eq_true (by omega), decide_eq_true (by omega)]; rfl]
  rw [show List.getD l b.toNat (0, 0, 0, 0, 0) = Aar l b.toNat from rfl]
  by_cases h2 : (Aar l b.toNat).1 = 13
  ·rw [h2]; rfl
  rw [if_neg (by simpa using h2), show ((Aar l b.toNat).1 != 13) = true by simpa using h2]
  by_cases h3 : p < 0
  ·rw [if_pos (by simpa using h3), show inB p 0 8 = false by unfold inB; rw [decide_eq_false (by omega)]; rfl]; rfl
  rw [if_neg (by simpa using h3)]
  by_cases h4 : p > 8
  ·rw [if_pos (by simpa using h4), show inB p 0 8 = false by unfold inB; rw [decide_eq_false (p := p ≤ _) (by omega), Bool.and_false]]; rfl
  rw [if_neg (by simpa using h4), show inB p 0 8 = true by unfold inB; rw [decide_eq_true (by omega), decide_eq_true (by omega)]; rfl]
  by_cases h5 : r < 2
  ·rw [if_pos (by simpa using h5), show inB r 2 4001 = false by unfold inB; rw [decide_eq_false (by omega)]; rfl]; rfl
  rw [if_neg (by simpa using h5)]
  by_cases h6 : r > 4001
  ·rw [if_pos (by simpa using h6), show inB r 2 4001 = false by unfold inB; rw [decide_eq_false (p := r ≤ _) (by omega), Bool.and_false]]; rfl
  rw [if_neg (by simpa using h6), show inB r 2 4001 = true by unfold inB; rw [decide_eq_true (by omega), decide_eq_true (by omega)]; rfl]
  by_cases h7 : b > 0
  ·have e : wi (b - 1) = ((b.toNat - 1 : Nat) : Int) := by rw [Afv (by omega) (by omega)]; omega
   rw [if_pos (by simpa using h7), e, Bs7 N l _ (by omega) hl, decide_eq_false (p := b ≤ 0) (by omega)]
   cases Bek l (b.toNat - 1) <;> rfl
  ·rw [if_neg (by simpa using h7), decide_eq_true (p := b ≤ 0) (by omega)]; rfl
def Btw (l : Ac4) (d : Ahc) : Bool := (decide (l.length = 0) || Bek l (l.length - 1)) && d.all (Bj8 l)
theorem Ca9 {R : Type} {N : Nat} {nm : List UInt8} {data : Aaz} {gl : Abq} (F : Bh4 N nm data gl) (d : Ahc) (l : Ac4) (K : Bool → Bool → List UInt8 → Aaz → Abq → Ahc → Ac4 → Option R) :
  Ah8 N nm data gl d l nm data gl d l K =
   if 32000 < l.length ∨ 200 < d.length then K true false nm data gl d l else if Aon nm data gl d.length = 2 then K true false nm data gl d l
   else if Aon nm data gl d.length = 60 then K false false nm data gl d l else K false (Btw l d) nm data gl d l := by
 have hN := F.N1
 simp only [Ah8, Bgg]
 by_cases h1 : 32000 < l.length
 ·rw [if_pos (by simp only [len, decide_eq_true_eq]; omega), if_pos (.inl h1)]
 rw [if_neg (by simp only [len, decide_eq_true_eq]; omega)]
 by_cases h2 : 200 < d.length
 ·rw [if_pos (by simp only [len, decide_eq_true_eq]; omega), if_pos (.inr h2)]
 rw [if_neg (by simp only [len, decide_eq_true_eq]; omega), if_neg (by omega)]
 have h35 := Cqb N d l (by omega) (by omega) nm data gl d nm data gl d (fun a b c f g h i => K a b c f g h i) (fun j m n o p => K false true j m n o p) N 0 (by omega) (by omega)
 rw [show ((0 : Nat) : Int) = 0 from rfl, List.drop_zero] at h35
 have := fun K' => Cp9 (R := R) N nm data gl d l nm data gl d l nm data gl (len d) 0 K' d.length N 0 [] (by omega) (by omega) rfl
 rw [show ((0 : Nat) : Int) = 0 from rfl, Nat.zero_add] at this
 simp only [len] at this ⊢
 rw [this]
 simp only [List.nil_append]
 rw [B60 F]
 change (if (Aon nm data gl d.length == 2) = true then _ else if (Aon nm data gl d.length == 60) = true then _ else _) = _
 by_cases h3 : Aon nm data gl d.length = 2
 ·rw [if_pos (by simpa using h3), if_pos h3]
 rw [if_neg (by simpa using h3), if_neg h3]
 by_cases h4 : Aon nm data gl d.length = 60
 ·rw [if_pos (by simpa using h4), if_pos h4]
 rw [if_neg (by simpa using h4), if_neg h4]
 unfold Btw
 by_cases h5 : l.length = 0
 ·rw [if_neg (by simp only [decide_eq_true_eq]; omega), decide_eq_true h5, h35]
  cases d.all (Bj8 l) <;> rfl
 ·rw [if_pos (by simp only [decide_eq_true_eq]; omega), decide_eq_false h5]
  have e : wi ((l.length : Int) - 1) = ((l.length - 1 : Nat) : Int) := by rw [Afv (by omega) (by omega)]; omega
  simp only [Adx, A06, e]
  rw [Bs7 N l _ (by omega) (by omega), h35]
  cases Bek l (l.length - 1)
  ·rfl
  ·cases d.all (Bj8 l) <;> rfl
def Axe (nd np : Nat) (l : Ac4) : Nat → Nat → Bool
 | _, 0 => true
 | i, m + 1 => A78 nd np l i && Axe nd np l (i + 1) m
theorem B7c {nd np : Nat} {l : Ac4} : ∀ (m i : Nat), Axe nd np l i m = true → ∀ j, i ≤ j → j < i + m → A78 nd np l j = true
 | 0, i, _, j, h1, h2 => by omega
 | m + 1, i, h, j, h1, h2 => by
  simp only [Axe, Bool.and_eq_true] at h
  by_cases e : j = i
  ·rw [e]; exact h.1
  ·exact B7c m (i + 1) h.2 j (by omega) (by omega)
theorem Ce5 {nd np : Nat} {l : Ac4} {i : Nat} (h : A78 nd np l i = true) (h12 : (Aar l i).1 = 12) : 0 ≤ (Aar l i).2.1 ∧ (Aar l i).2.1 ≤ 1000 := by
 unfold A78 A0r at h
 rw [h12] at h
 simp [inB] at h
 exact h.1
theorem Cqc {R : Type} (N : Nat) (c : Bool) (d : List UInt8) (a : Aaz) (e : Abq) (b : Ahc) (l : Ac4) (hl : l.length ≤ 1000000) (f : Int → Option R) (g : Bool → List UInt8 → Aaz → Abq → Ahc → Ac4 → Option R) :
  ∀ (m k i : Nat), m < k → i + m = l.length → Aey N k c (l.length : Int) i d a e b l f g =
   if Axe a.length b.length l i m = true then g c d a e b l else f 60 := by
 intro m
 induction m with
 | zero =>
  intro k i hk hi
  obtain ⟨k, rfl⟩ : ∃ q, k = q + 1 := ⟨k - 1, by omega⟩
  simp only [Aey, Ax9]
  rw [if_neg (by simp only [decide_eq_true_eq]; omega)]; rfl
 | succ m ih =>
  intro k i hk hi
  obtain ⟨k, rfl⟩ : ∃ q, k = q + 1 := ⟨k - 1, by omega⟩
  simp only [Aey, Ax9]
  rw [if_pos (by simp only [decide_eq_true_eq]; omega), Ce4 N _ _ _ _ l i (by omega) hl, Acm (by omega), ih k (i + 1) (by omega) (by omega)]
  rw [show Axe a.length b.length l i (m + 1) = (A78 a.length b.length l i && Axe a.length b.length l (i + 1) m) from rfl]
  cases A78 a.length b.length l i <;> rfl
def Cbz (nm : List UInt8) (data : Aaz) (gl : Abq) (d : Ahc) (l : Ac4) : Int :=
 if 32000 < l.length ∨ 200 < d.length then 2 else if Aon nm data gl d.length = 2 then 2 else if Aon nm data gl d.length = 60 then 60
 else if (Axe data.length d.length l 0 l.length && (Btw l d && cnt 0 l)) = true then 0 else 60
theorem Cba {R : Type} {N : Nat} {nm : List UInt8} {data : Aaz} {gl : Abq} (F : Bh4 N nm data gl) (d : Ahc) (l : Ac4) (K : Int → Option R) :
  Ak9 N nm data gl d l K = K (Cbz nm data gl d l) := by
 have hN := F.N1
 simp only [Ak9, Bgj, len]
 rw [Ca9 F]
 unfold Cbz
 by_cases h1 : 32000 < l.length ∨ 200 < d.length
 ·rw [if_pos h1, if_pos h1]; rfl
 rw [if_neg h1, if_neg h1]
 by_cases h2 : Aon nm data gl d.length = 2
 ·rw [if_pos h2, if_pos h2]; rfl
 rw [if_neg h2, if_neg h2]
 have hc := fun a => Cqc (R := R) N a nm data gl d l (by omega) (fun b => K b) (fun c g h j m e => if ((!c) = true) then (K 60) else (Ae7 N e 12 13 (fun f => if ((!f) = true) then (K 60) else (K 0)))) l.length N 0 (by omega) (by omega)
 simp only [show ((0 : Nat) : Int) = 0 from rfl] at hc
 by_cases h3 : Aon nm data gl d.length = 60
 ·rw [if_pos h3, if_pos h3, if_neg (by decide), hc]
  cases Axe data.length d.length l 0 l.length <;> rfl
 rw [if_neg h3, if_neg h3, if_neg (by decide), hc]
 cases h4 : Axe data.length d.length l 0 l.length
 ·rfl
 cases Btw l d
 ·rfl
 rw [if_pos rfl, if_neg (by decide), Bzy N l (by omega) (by omega) (by omega) (fun i hi h12 => Ce5 (B7c _ _ h4 i (by omega) (by omega)) h12)]
 cases cnt 0 l <;> rfl
def Ayw (op : Int) : Bool := op != 7 && (op != 11 && (op != 12 && op != 13))
theorem Bj9 {R : Type} (N : Nat) (op : Int) (K : Bool → Option R) : Adc N op K = K (Ayw op) := by
 simp only [Adc, ifT, Ayw]
def A98 (o : Int × Int × Int × Int × Int) (c : Int) : Int := if o.1 = 12 then o.2.1 else if 0 < c then c - 1 else c
def okI (nd np : Nat) (l : Ac4) (i : Nat) (c : Int) : Bool :=
 A0r nd np l (Aar l i).1 (Aar l i).2.1 (Aar l i).2.2.1 (Aar l i).2.2.2.1 (Aar l i).2.2.2.2 &&
 ((decide (0 < c) == ((Aar l i).1 == 13)) && ((!decide (i + 1 = l.length) || !Ayw (Aar l i).1) && ((Aar l i).1 != 5 || Bj7 l i)))
def rfB (nd np : Nat) (l : Ac4) : Nat → Nat → Int → Bool
 | _, 0, c => decide (c ≤ 0)
 | i, m + 1, c => okI nd np l i c && rfB nd np l (i + 1) m (A98 (Aar l i) c)
theorem Cgo {nd np : Nat} {l : Ac4} {i : Nat} {c : Int} (h : A0r nd np l (Aar l i).1 (Aar l i).2.1 (Aar l i).2.2.1 (Aar l i).2.2.2.1 (Aar l i).2.2.2.2 = true) (hc : 0 ≤ c ∧ c ≤ 1000) : 0 ≤ A98 (Aar l i) c ∧ A98 (Aar l i) c ≤ 1000 := by
 unfold A98
 by_cases h12 : (Aar l i).1 = 12
 ·rw [if_pos h12]
  unfold A0r at h
  rw [h12] at h
  simp [inB] at h
  exact h.1
 ·rw [if_neg h12]; split <;> omega
theorem Cqd {R : Type} (N : Nat) (c i : Int) (a : List UInt8) (b : Aaz) (d : Abq) (e : Ahc) (l : Ac4) (o : Int × Int × Int × Int × Int) (hc : 0 ≤ c ∧ c ≤ 1000) (K : Int → Int → List UInt8 → Aaz → Abq → Ahc → Ac4 → Option R) :
  (if decide (c > 0) = true then Abk N (wi (c - 1)) i a b d e l o.1 o.2.1 o.2.2.1 o.2.2.2.1 o.2.2.2.2 K else Abk N c i a b d e l o.1 o.2.1 o.2.2.1 o.2.2.2.1 o.2.2.2.2 K) = K (A98 o c) i a b d e l := by
 simp only [Abk, A98]
 by_cases h0 : c > 0
 ·rw [if_pos (by simpa using h0), Afv (by omega) (by omega), if_pos (show 0 < c from h0)]
  by_cases h12 : o.1 = 12
  ·rw [if_pos (by simpa using h12), if_pos h12]
  ·rw [if_neg (by simpa using h12), if_neg h12]
 ·rw [if_neg (by simpa using h0), if_neg (show ¬ 0 < c from h0)]
  by_cases h12 : o.1 = 12
  ·rw [if_pos (by simpa using h12), if_pos h12]
  ·rw [if_neg (by simpa using h12), if_neg h12]
theorem Ctx {R : Type} (N : Nat) (e : List UInt8) (a : Aaz) (f : Abq) (b : Ahc) (l : Ac4) (hl : l.length ≤ 1000000) (hd : a.length ≤ 1000000) (d : Int → Option R) (g : Int → List UInt8 → Aaz → Abq → Ahc → Ac4 → Option R) (G : Option R)
  (hK : ∀ c, g c e a f b l = if decide (c > 0) = true then d 60 else G) :
  ∀ (m k i : Nat) (c : Int), m < k → i + m = l.length → 0 ≤ c ∧ c ≤ 1000 → Acy N k c i e a f b l d g = if rfB a.length b.length l i m c = true then G else d 60 := by
 intro m
 induction m with
 | zero =>
  intro k i c hk hi hc
  obtain ⟨k, rfl⟩ : ∃ q, k = q + 1 := ⟨k - 1, by omega⟩
  simp only [Acy, Awc, len]
  rw [if_neg (by simp only [decide_eq_true_eq]; omega), hK]
  by_cases h : c > 0
  ·rw [if_pos (by simpa using h), rfB, if_neg (by simp only [decide_eq_true_eq]; omega)]
  ·rw [if_neg (by simpa using h), rfB, if_pos (by simp only [decide_eq_true_eq]; omega)]
 | succ m ih =>
  intro k i c hk hi hc
  obtain ⟨k, rfl⟩ : ∃ q, k = q + 1 := ⟨k - 1, by omega⟩
  simp only [Acy, Awc, len, Bj9]
  rw [if_pos (by simp only [decide_eq_true_eq]; omega), if_pos (by omega), Acm (by omega)]
  rw [show List.getD l ((i : Nat) : Int).toNat (0, 0, 0, 0, 0) = Aar l i from rfl, show List.getD l ((i + 1 : Nat) : Int).toNat (0, 0, 0, 0, 0) = Aar l (i + 1) from rfl]
  simp only [Cqd N c _ _ _ _ _ _ (Aar l i) hc]
  rw [B7b N _ _ _ _ l _ _ _ _ _ hd hl]
  rw [show rfB a.length b.length l i (m + 1) c = (okI a.length b.length l i c && rfB a.length b.length l (i + 1) m (A98 (Aar l i) c)) from rfl]
  unfold okI
  cases hr : A0r a.length b.length l (Aar l i).1 (Aar l i).2.1 (Aar l i).2.2.1 (Aar l i).2.2.2.1 (Aar l i).2.2.2.2
  ·rfl
  have hn := Cgo hr hc
  rw [Acm (by omega), ih k (i + 1) _ (by omega) (by omega) hn]
  rw [show (decide (c > 0)) = decide (0 < c) from rfl]
  cases (decide (0 < c) == ((Aar l i).1 == 13))
  ·rfl
  rw [if_neg (by decide), if_neg (by decide)]
  by_cases he : i + 1 = l.length
  ·rw [if_pos (by simp; omega), decide_eq_true he]
   cases hg : Ayw (Aar l i).1
   ·have h5 : ¬ (Aar l i).1 = 5 := by intro h5; rw [h5] at hg; cases hg
    rw [if_neg (by decide), if_neg (by simpa using h5), show ((Aar l i).1 != 5) = true by simpa using h5]
    rfl
   ·rfl
  ·rw [if_neg (by simp; omega), decide_eq_false he]
   by_cases h5 : (Aar l i).1 = 5
   ·rw [if_pos (by simpa using h5), if_pos (by omega), h5]
    unfold Bj7
    rw [decide_eq_true (show i + 1 < l.length by omega)]
    by_cases h6 : (Aar l (i + 1)).1 = 6
    ·rw [if_neg (by simpa using h6), h6]; rfl
    ·rw [if_pos (by simpa using h6), show ((Aar l (i + 1)).1 == 6) = false by simpa using h6]; rfl
   ·rw [if_neg (by simpa using h5), show ((Aar l i).1 != 5) = true by simpa using h5]; rfl
def A99 (l : Ac4) (b : Int × Int × Int) : Bool :=
 inB b.1 0 ((l.length : Int) - 1) && ((Aar l b.1.toNat).1 != 13 && (inB b.2.1 0 8 && (inB b.2.2 2 4001 && (decide (b.1 ≤ 0) || !Ayw (Aar l (b.1.toNat - 1)).1))))
theorem Cty {R : Type} (N : Nat) (f : List UInt8) (g : Aaz) (j : Abq) (d : Ahc) (l : Ac4) (hd : d.length ≤ 1000000) (hl : l.length ≤ 1000000) (a : Int → Option R) (c : Option R) :
  ∀ (k i : Nat), i ≤ d.length → d.length - i < k → Acz N k i f g j d l a c = if (d.drop i).all (A99 l) = true then c else a 60 := by
 intro k
 induction k with
 | zero => intro i hi hk; omega
 | succ k ih =>
  intro i hi hk
  have hw : wi ((l.length : Int) - 1) = (l.length : Int) - 1 := Afv (by omega) (by omega)
  simp only [Acz, A5b, A97, Bj9, len, hw]
  by_cases h : d.length ≤ i
  ·rw [if_neg (by simp only [decide_eq_true_eq]; omega), List.drop_eq_nil_of_le h]; rfl
  replace h : i < d.length := by omega
  rw [if_pos (by simp only [decide_eq_true_eq]; omega), if_pos (by omega), Ahb d _ h, Acm (by omega), ih (i + 1) (by omega) (by omega), List.drop_eq_getElem_cons h, List.all_cons]
  obtain ⟨b, p, r⟩ := d[i]
  rw [show A99 l (b, p, r) = (inB b 0 ((l.length : Int) - 1) && ((Aar l b.toNat).1 != 13 && (inB p 0 8 && (inB r 2 4001 && (decide (b ≤ 0) || !Ayw (Aar l (b.toNat - 1)).1))))) from rfl]
  dsimp only
  cases h0 : inB b 0 ((l.length : Int) - 1)
  ·rfl
  have hb : 0 ≤ b ∧ b < (l.length : Int) := by unfold inB at h0; simp at h0; omega
  rw [if_neg (by decide), if_pos hb]
  rw [show List.getD l b.toNat (0, 0, 0, 0, 0) = Aar l b.toNat from rfl]
  by_cases h2 : (Aar l b.toNat).1 = 13
  ·rw [h2]; rfl
  rw [if_neg (by simpa using h2), show ((Aar l b.toNat).1 != 13) = true by simpa using h2]
  cases inB p 0 8
  ·rfl
  cases inB r 2 4001
  ·rfl
  rw [if_neg (by decide), if_neg (by decide)]
  by_cases h7 : b > 0
  ·have e : wi (b - 1) = ((b.toNat - 1 : Nat) : Int) := by rw [Afv (by omega) (by omega)]; omega
   rw [if_pos (by simpa using h7), e, if_pos (by omega), decide_eq_false (p := b ≤ 0) (by omega)]
   rw [show List.getD l ((b.toNat - 1 : Nat) : Int).toNat (0, 0, 0, 0, 0) = Aar l (b.toNat - 1) from rfl]
   cases Ayw (Aar l (b.toNat - 1)).1 <;> rfl
  ·rw [if_neg (by simpa using h7), decide_eq_true (p := b ≤ 0) (by omega)]; rfl
def Bs8 (nm : List UInt8) (data : Aaz) (gl : Abq) (d : Ahc) (l : Ac4) : Int :=
 if 32000 < l.length ∨ 200 < d.length then 2 else if Aon nm data gl d.length = 2 then 2 else if Aon nm data gl d.length = 60 then 60
 else if (rfB data.length d.length l 0 l.length 0 && d.all (A99 l)) = true then 0 else 60
theorem Bnc {R : Type} {N : Nat} {nm : List UInt8} {data : Aaz} {gl : Abq} (F : Bh4 N nm data gl) (d : Ahc) (l : Ac4) (hdat : data.length ≤ 1000000) (K : Int → Option R) :
  Aeu N nm data gl d l K = K (Bs8 nm data gl d l) := by
 have hN := F.N1
 simp only [Aeu, Bdl]
 rw [B68 F]
 unfold Bs8
 by_cases h1 : 32000 < l.length ∨ 200 < d.length
 ·rw [if_pos h1, if_pos h1]; rfl
 rw [if_neg h1, if_neg h1]
 rcases Ce1 nm data gl d.length with h | h | h
 ·rw [h, if_neg (by decide), if_neg (by decide), if_neg (by decide)]
  have h39 := Cty N nm data gl d l (by omega) (by omega) (fun a => K a) (K 0) N 0 (by omega) (by omega)
  have h13 := Ctx N nm data gl d l (by omega) hdat (fun b => K b) (fun e f g i j m => if ((decide ((e > (0 : Int)))) = true) then (K 60) else (Acz N N 0 f g i j m (fun a => K a) (K 0))) _ (fun c => rfl) l.length N 0 0 (by omega) (by omega) ⟨by decide, by decide⟩
  rw [show ((0 : Nat) : Int) = 0 from rfl] at h39 h13
  rw [h13, h39, List.drop_zero]
  cases rfB data.length d.length l 0 l.length 0
  ·rfl
  cases d.all (A99 l) <;> rfl
 ·rw [h]; rfl
 ·rw [h]; rfl
theorem Cma : ∀ (i : Nat) (l : Ac4) (c : Int), cnt c l = true → i ≤ l.length → ∃ c', cnt c' (l.drop i) = true
 | 0, l, c, h, _ => ⟨c, h⟩
 | i + 1, [], c, h, hi => by simp at hi
 | i + 1, o :: r, c, h, hi => by
  simp only [cnt, Bool.and_eq_true] at h
  exact Cma i r _ h.2 (by simpa using hi)
theorem B8e {nd np : Nat} {l : Ac4} (h : Axe nd np l 0 l.length = true) (hc : cnt 0 l = true) {i : Nat} (hi : i < l.length) (hn : i + 1 = l.length ∨ (Aar l (i + 1)).1 ≠ 13) : Bek l i = !Ayw (Aar l i).1 := by
 unfold Bek
 by_cases h7 : (Aar l i).1 = 7
 ·rw [if_pos (.inl h7), h7]; rfl
 by_cases h11 : (Aar l i).1 = 11
 ·rw [if_pos (.inr h11), h11]; rfl
 rw [if_neg (by rintro (e | e) <;> contradiction)]
 by_cases h12 : (Aar l i).1 = 12
 ·rw [if_pos h12]
  obtain ⟨a0, a1⟩ := Ce5 (B7c _ _ h i (by omega) (by omega)) h12
  obtain ⟨c', hc'⟩ := Cma i l 0 hc (by omega)
  rw [A9o hi] at hc'
  simp only [cnt, Bool.and_eq_true, if_pos h12] at hc'
  have ha : (Aar l i).2.1 = 0 := by
   refine Classical.byContradiction fun ha => ?_
   have hp : 0 < (Aar l i).2.1 := by omega
   by_cases he : i + 1 = l.length
   ·rw [List.drop_eq_nil_of_le (by omega)] at hc'
    simp only [cnt, decide_eq_true_eq] at hc'
    omega
   ·rw [A9o (show i + 1 < l.length by omega)] at hc'
    simp only [cnt, Bool.and_eq_true, decide_eq_true hp] at hc'
    rcases hn with hn | hn
    ·exact he hn
    ·have := hc'.2.1
     simp at this
     exact hn this
  rw [ha, h12]; rfl
 rw [if_neg h12]
 by_cases h13 : (Aar l i).1 = 13
 ·rw [if_pos h13, h13]
  rcases hn with hn | hn
  ·rw [decide_eq_true hn]; rfl
  ·rw [show ((Aar l (i + 1)).1 != 13) = true by simpa using hn, Bool.or_true]; rfl
 ·rw [if_neg h13]
  simp [Ayw, h7, h11, h12, h13]
theorem Coj (c : Int) (o : Int × Int × Int × Int × Int) (r : Ac4) : cnt c (o :: r) = ((decide (0 < c) == (o.1 == 13)) && cnt (A98 o c) r) := rfl
theorem Cmb {nd np : Nat} {l : Ac4} : ∀ (m i : Nat) (c : Int), i + m = l.length → rfB nd np l i m c = (Axe nd np l i m && (cnt c (l.drop i) && (decide (m = 0) || !Ayw (Aar l (l.length - 1)).1)))
 | 0, i, c, hi => by
  rw [List.drop_eq_nil_of_le (by omega)]
  simp [rfB, Axe, cnt]
 | m + 1, i, c, hi => by
  rw [rfB, Cmb m (i + 1) _ (by omega), Axe, A9o (l := l) (i := i) (by omega), Coj]
  unfold okI A78
  by_cases he : i + 1 = l.length
  ·have hm : m = 0 := by omega
   subst hm
   have e : l.length - 1 = i := by omega
   rw [e, decide_eq_true he]
   generalize A0r nd np l (Aar l i).1 (Aar l i).2.1 (Aar l i).2.2.1 (Aar l i).2.2.2.1 (Aar l i).2.2.2.2 = A
   generalize (decide (0 < c) == ((Aar l i).1 == 13)) = B
   generalize Ayw (Aar l i).1 = G
   generalize ((Aar l i).1 != 5 || Bj7 l i) = D
   generalize cnt (A98 (Aar l i) c) (l.drop (i + 1)) = E
   generalize Axe nd np l (i + 1) 0 = H
   cases A <;> cases B <;> cases G <;> cases D <;> cases E <;> cases H <;> rfl
  ·rw [decide_eq_false he, decide_eq_false (show ¬ m = 0 by omega), decide_eq_false (show ¬ m + 1 = 0 by omega)]
   generalize A0r nd np l (Aar l i).1 (Aar l i).2.1 (Aar l i).2.2.1 (Aar l i).2.2.2.1 (Aar l i).2.2.2.2 = A
   generalize (decide (0 < c) == ((Aar l i).1 == 13)) = B
   generalize Ayw (Aar l (l.length - 1)).1 = G
   generalize Ayw (Aar l i).1 = G'
   generalize ((Aar l i).1 != 5 || Bj7 l i) = D
   generalize cnt (A98 (Aar l i) c) (l.drop (i + 1)) = E
   generalize Axe nd np l (i + 1) m = H
   cases A <;> cases B <;> cases G <;> cases D <;> cases E <;> cases H <;> rfl
theorem Cqe {nd np : Nat} {l : Ac4} (h : Axe nd np l 0 l.length = true) (hc : cnt 0 l = true) (b : Int × Int × Int) : Bj8 l b = A99 l b := by
 unfold Bj8 A99
 cases h0 : inB b.1 0 ((l.length : Int) - 1)
 ·rfl
 have hb : 0 ≤ b.1 ∧ b.1 < (l.length : Int) := by unfold inB at h0; simp at h0; omega
 by_cases h2 : (Aar l b.1.toNat).1 = 13
 ·rw [h2]; rfl
 by_cases h7 : b.1 ≤ 0
 ·rw [decide_eq_true h7]; rfl
 rw [decide_eq_false h7, B8e h hc (i := b.1.toNat - 1) (by omega) (.inr (by rw [show b.1.toNat - 1 + 1 = b.1.toNat by omega]; exact h2))]
theorem Cmc (nm : List UInt8) (data : Aaz) (gl : Abq) (d : Ahc) (l : Ac4) : Cbz nm data gl d l = Bs8 nm data gl d l := by
 unfold Cbz Bs8
 have e : (Axe data.length d.length l 0 l.length && (Btw l d && cnt 0 l)) = (rfB data.length d.length l 0 l.length 0 && d.all (A99 l)) := by
  rw [Cmb l.length 0 0 (by omega), List.drop_zero]
  cases h : Axe data.length d.length l 0 l.length
  ·rfl
  cases hc : cnt 0 l
  ·rw [Bool.and_false]; rfl
  have e1 : d.all (Bj8 l) = d.all (A99 l) := by
   congr 1; funext b; exact Cqe h hc b
  unfold Btw
  rw [e1]
  by_cases h0 : l.length = 0
  ·rw [decide_eq_true h0]; cases d.all (A99 l) <;> rfl
  ·rw [decide_eq_false h0, B8e h hc (i := l.length - 1) (by omega) (.inl (by omega))]
   cases Ayw (Aar l (l.length - 1)).1 <;> cases d.all (A99 l) <;> rfl
 rw [e]
def Bld : Aaz → Int
 | [] => 0
 | x :: r => (x.2.2.length : Int) + (x.1.length : Int) + Bld r
theorem Ce6 : ∀ l : Aaz, 0 ≤ Bld l
 | [] => by simp [Bld]
 | x :: r => by have := Ce6 r; simp only [Bld]; omega
theorem B7d {d : List UInt8 × Bool × List Int} : ∀ {l : Aaz}, d ∈ l → (d.2.2.length : Int) + (d.1.length : Int) ≤ Bld l
 | x :: r, h => by
  simp only [List.mem_cons] at h
  simp only [Bld]
  rcases h with rfl | h
  ·have := Ce6 r; omega
  ·have := B7d h; omega
theorem Cqf {R : Type} (N : Nat) (a : List UInt8) (data : Aaz) (b : Abq) (c : Ahc) (d : Ac4) (hl : data.length ≤ 2100) (hd : A76 data) (K : Int → Option R) :
  ∀ (m k i : Nat) (w : Int), m < k → i + m = data.length → 0 ≤ w → w ≤ i * 281474976710656 → Aef N k w i a data b c d K = K (w + Bld (data.drop i)) := by
 intro m
 induction m with
 | zero =>
  intro k i w hk hi hw hw2
  obtain ⟨k, rfl⟩ : ∃ q, k = q + 1 := ⟨k - 1, by omega⟩
  simp only [Aef, Au1, len]
  rw [if_neg (by simp only [decide_eq_true_eq]; omega), List.drop_eq_nil_of_le (by omega), Bld, Int.add_zero]
 | succ m ih =>
  intro k i w hk hi hw hw2
  obtain ⟨k, rfl⟩ : ∃ q, k = q + 1 := ⟨k - 1, by omega⟩
  simp only [Aef, Au1, len]
  have h : i < data.length := by omega
  have hdi := hd _ (List.getElem_mem h)
  rw [if_pos (by simp only [decide_eq_true_eq]; omega), if_pos (by omega), if_pos (by omega), Ahb data _ h, Acm (by omega), List.drop_eq_getElem_cons h, Bld]
  have hi2 : ((i + 1 : Nat) : Int) * 281474976710656 = (i : Int) * 281474976710656 + 281474976710656 := by omega
  have hi3 : (i : Int) * 281474976710656 ≤ 2100 * 281474976710656 := by omega
  rw [Afv (i := ((data[i].2.2.length : Nat) : Int) + (data[i].1.length : Int)) (by omega) (by omega), Afv (by omega) (by omega), ih k (i + 1) _ (by omega) (by omega) (by omega) (by omega)]
  congr 1
  omega
def B3i (nm : List UInt8) (data : Aaz) (gl : Abq) (d : Ahc) (l : Ac4) : Bool :=
 decide (33000 < l.length) || decide (300 < d.length) || decide (2100 < data.length) || decide (300 < gl.length) || decide (1000 < nm.length) || decide (20000 < Bld data)
theorem B7e {R : Type} {nm : List UInt8} {data : Aaz} {gl : Abq} (d : Ahc) (l : Ac4) (hd : A76 data) (K : Bool → Option R) :
  Ajm 50000 nm data gl d l K = K (B3i nm data gl d l) := by
 simp only [Ajm, Bbq, len, B3i]
 by_cases h1 : 33000 < l.length
 ·rw [if_pos (by simp only [decide_eq_true_eq]; omega), decide_eq_true h1]; rfl
 rw [if_neg (by simp only [decide_eq_true_eq]; omega), decide_eq_false h1]
 by_cases h2 : 300 < d.length
 ·rw [if_pos (by simp only [decide_eq_true_eq]; omega), decide_eq_true h2]; rfl
 rw [if_neg (by simp only [decide_eq_true_eq]; omega), decide_eq_false h2]
 by_cases h3 : 2100 < data.length
 ·rw [if_pos (by simp only [decide_eq_true_eq]; omega), decide_eq_true h3]; rfl
 rw [if_neg (by simp only [decide_eq_true_eq]; omega), decide_eq_false h3]
 by_cases h4 : 300 < gl.length
 ·rw [if_pos (by simp only [decide_eq_true_eq]; omega), decide_eq_true h4]; rfl
 rw [if_neg (by simp only [decide_eq_true_eq]; omega), decide_eq_false h4]
 by_cases h5 : 1000 < nm.length
 ·rw [if_pos (by simp only [decide_eq_true_eq]; omega), decide_eq_true h5]; rfl
 rw [if_neg (by simp only [decide_eq_true_eq]; omega), decide_eq_false h5]
 have := Cqf 50000 nm data gl d l (by omega) hd (fun a => K (decide (a > 20000))) data.length 50000 0 0 (by omega) (by omega) (by omega) (by omega)
 rw [show ((0 : Nat) : Int) = 0 from rfl] at this
 rw [this, Int.zero_add, List.drop_zero]
 rfl
abbrev Cb0 : Ty := .pair .str (.pair (.list (.pair .str (.pair .bool (.list (.int .i64))))) (.pair (.list (.pair (.int .i64) (.int .i64))) (.pair (.list (.pair (.int .i64) (.pair (.int .i64) (.int .i64)))) (.list (.pair (.int .i64) (.pair (.int .i64) (.pair (.int .i64) (.pair (.int .i64) (.int .i64)))))))))
theorem Ctz {nm : List UInt8} {data : Aaz} {gl : Abq} {d : Ahc} {l : Ac4} (h : Wf Cb0 (nm, data, gl, d, l)) : A76 data := by
 obtain ⟨_, h2, _⟩ := h
 intro d hd
 obtain ⟨i, hi, rfl⟩ := List.getElem_of_mem hd
 have h := h2.2 i hi
 have e : List.getD data i (Ty.dflt (.pair .str (.pair .bool (.list (.int .i64))))) = data[i] := by rw [List.getD_eq_getElem?_getD, List.getElem?_eq_getElem hi]; rfl
 rw [e] at h
 exact ⟨h.1, h.2.2.1⟩
def tx (s : List UInt8) : List Int := s.map fun b : UInt8 => (((UInt8.toNat b) : Nat) : Int)
def it (n : Int) : List Int := tx (Axj n)
def sit (n : Int) : List Int := 32 :: it n
def Ajk (o : Int × Int × Int × Int × Int) : List Int := [o.1, o.2.1, o.2.2.1, o.2.2.2.1, o.2.2.2.2]
def A24 (i : Nat) (vs : List Int) : List Int := it (i : Int) ++ (vs.flatMap sit ++ [10])
def Axf (c : Nat) (l : Ac4) : Nat → Nat → List Int
 | _, 0 => []
 | i, m + 1 => A24 i ((Ajk (Aar l i)).take c) ++ Axf c l (i + 1) m
theorem Bbd {n : Int} : Ajg n = true ↔ -9223372036854775808 ≤ n ∧ n ≤ 9223372036854775807 := by
 simp [Ajg]
theorem A5l {n : Int} (h : Ajg n = true) : (Axj n).length ≤ 21 := by
 obtain ⟨h0, h1⟩ := Bbd.1 h
 exact Lib.itoa_length_le n h0 h1
theorem Ce7 {n : Int} (h : Ajg n = true) : (it n).length ≤ 21 := by
 simpa [it, tx] using A5l h
theorem Bh5 : ∀ (vs : List Int), (∀ v ∈ vs, Ajg v = true) → (vs.flatMap sit).length ≤ 22 * vs.length
 | [], _ => by simp
 | v :: r, h => by
  have h1 := Ce7 (h v (by simp))
  have h2 := Bh5 r fun x hx => h x (by simp [hx])
  simp only [List.flatMap_cons, List.length_append, List.length_cons, sit] at *
  omega
theorem Boi {i : Nat} {vs : List Int} (hi : i ≤ 1000000) (h : ∀ v ∈ vs, Ajg v = true) (hl : vs.length ≤ 5) : (A24 i vs).length ≤ 132 := by
 have h1 := Ce7 (n := (i : Int)) (Bbd.2 (by omega))
 have h2 := Bh5 vs h
 simp only [A24, List.length_append, List.length_cons, List.length_nil]
 omega
theorem Cmd {R : Type} (N : Nat) (s : List UInt8) (y : List Int) (hy : y.length + s.length ≤ 70368744177664) (K : Int → List Int → Option R) : Aas N s y K = K (s.length : Int) (y ++ tx s) := by
 simp only [Aas, len]
 rw [if_pos (by simp; omega)]; rfl
theorem Cqg {R : Type} (N : Nat) (s : List UInt8) (y : List Int) (hy : y.length + s.length ≤ 70368744177664) (K : Int → List Int → Option R) : Aaw N s y K = K (s.length : Int) (y ++ tx s) := by
 simp only [Aaw, len]
 rw [if_pos (by simp; omega)]; rfl
theorem Cme {R : Type} (N : Nat) (x : Int) (y : List Int) (hy : y.length + 1 ≤ 70368744177664) (K : List Int → Option R) : Aad N x y K = K (y ++ [x]) := by
 simp only [Aad]
 rw [if_pos (by simp; omega)]
theorem Cmf {R : Type} (N : Nat) (a : Int) (b : Ac4) (c d : Int) (vs : List Int) (hvs : ∀ v ∈ vs, Ajg v = true) (hl : vs.length ≤ 6) (K : Int → Ac4 → Int → Int → List Int → Option R) :
  ∀ (m k j : Nat) (y : List Int), m < k → j + m = vs.length → y.length + 22 * m ≤ 200000000 → Ac3 N k a b c d vs (vs.length : Int) j y K = K a b c d (y ++ (vs.drop j).flatMap sit) := by
 intro m
 induction m with
 | zero =>
  intro k j y hk hj hy
  obtain ⟨k, rfl⟩ : ∃ q, k = q + 1 := ⟨k - 1, by omega⟩
  simp only [Ac3, A1c]
  rw [if_neg (by simp only [decide_eq_true_eq]; omega), List.drop_eq_nil_of_le (by omega)]; simp
 | succ m ih =>
  intro k j y hk hj hy
  obtain ⟨k, rfl⟩ : ∃ q, k = q + 1 := ⟨k - 1, by omega⟩
  have h : j < vs.length := by omega
  have hv := hvs _ (List.getElem_mem h)
  have hle := A5l hv
  have hd : vs.getD ((j : Nat) : Int).toNat 0 = vs[j] := by
   rw [show ((j : Nat) : Int).toNat = j from rfl, List.getD_eq_getElem?_getD, List.getElem?_eq_getElem h]; rfl
  simp only [Ac3, A1c, len]
  rw [if_pos (by simp only [decide_eq_true_eq]; omega), if_pos (by omega), hd, if_pos hv, if_pos (by omega), Cmd N _ _ (by simp; omega)]
  rw [Acm (by omega), ih k (j + 1) _ (by omega) (by omega) (by simp [tx]; omega), List.drop_eq_getElem_cons h, List.flatMap_cons]
  congr 1
  simp [sit, it, tx, List.append_assoc]
theorem Bs9 {c : Nat} {o : Int × Int × Int × Int × Int} (h : ∀ v ∈ Ajk o, Ajg v = true) : ∀ v ∈ (Ajk o).take c, Ajg v = true := fun v hv => h v (List.mem_of_mem_take hv)
theorem Cs1 {R : Type} (N : Nat) (a : Int) (c : Nat) (hx0 : wi (a + 1) = (c : Int)) (hc : c ≤ 5) (l : Ac4) (hl : l.length ≤ 40000) (hN : 10 < N) (hin : ∀ i, i < l.length → ∀ v ∈ Ajk (Aar l i), Ajg v = true) (K : List Int → Option R) :
  ∀ (m k i : Nat) (y : List Int), m < k → i + m = l.length → y.length ≤ 132 * i → Acg N k a l (l.length : Int) i y K = K (y ++ Axf c l i m) := by
 intro m
 induction m with
 | zero =>
  intro k i y hk hi hy
  obtain ⟨k, rfl⟩ : ∃ q, k = q + 1 := ⟨k - 1, by omega⟩
  simp only [Acg, Avg]
  rw [if_neg (by simp only [decide_eq_true_eq]; omega)]; simp [Axf]
 | succ m ih =>
  intro k i y hk hi hy
  obtain ⟨k, rfl⟩ : ∃ q, k = q + 1 := ⟨k - 1, by omega⟩
  have h : i < l.length := by omega
  have hii : Ajg (i : Int) = true := Bbd.2 (by omega)
  have hle := A5l hii
  have hv := Bs9 (c := c) (hin i h)
  have hvl : ((Ajk (Aar l i)).take c).length = c := by simp [Ajk]; omega
  have hln := Boi (i := i) (by omega) hv (by omega)
  simp only [Acg, Avg, len, hx0]
  rw [if_pos (by simp only [decide_eq_true_eq]; omega), if_pos (by omega), if_pos hii, Cmd N _ _ (by omega)]
  rw [if_pos (by simp; omega), if_pos (by omega)]
  rw [show List.getD l ((i : Nat) : Int).toNat (0, 0, 0, 0, 0) = Aar l i from rfl]
  have h15 := fun K => Cmf (R := R) N a l (l.length : Int) (i : Int) _ hv (by omega) K c N 0 (y ++ tx (Axj (i : Int))) (by omega) (by omega) (by simp [tx]; omega)
  rw [hvl] at h15
  have e : (((Int.toNat (c : Int)) - (0 : Nat) : Nat) : Int) = (c : Int) := by simp
  rw [e, show (Int.toNat (c : Int)) - (0 : Nat) = c by simp]
  rw [show ((Aar l i).1 :: (Aar l i).2.1 :: (Aar l i).2.2.1 :: (Aar l i).2.2.2.1 :: [(Aar l i).2.2.2.2]) = Ajk (Aar l i) from rfl]
  rw [show ((0 : Nat) : Int) = 0 from rfl] at h15
  rw [h15, List.drop_zero]
  have hfl := Bh5 _ hv
  rw [Cme N _ _ (by simp only [List.length_append, tx, List.length_map]; omega), Acm (by omega)]
  have ey : y ++ tx (Axj (i : Int)) ++ ((Ajk (Aar l i)).take c).flatMap sit ++ [10] = y ++ A24 i ((Ajk (Aar l i)).take c) := by simp [A24, it, List.append_assoc]
  rw [ey, ih k (i + 1) _ (by omega) (by omega) (by rw [List.length_append]; omega), Axf, List.append_assoc]
theorem Ct0 {R : Type} (N : Nat) (a : Int) (c : Nat) (hx0 : wi (a + 1) = (c : Int)) (hc : c ≤ 5) (l : Ac4) (hl : l.length ≤ 40000) (hN : 40001 < N) (hin : ∀ i, i < l.length → ∀ v ∈ Ajk (Aar l i), Ajg v = true) (K : List Int → Option R) (b : Option R) (k : Nat) :
  Aec N (k + 1) a l (l.length : Int) 0 K b = if l.length = 0 then b else K (Axf c l 0 l.length) := by
 by_cases h0 : l.length = 0
 ·simp only [Aec, A2u]
  rw [if_neg (by simp only [decide_eq_true_eq]; omega), if_pos h0]
 rw [if_neg h0]
 have h : 0 < l.length := by omega
 have hii : Ajg 0 = true := by decide
 have hle := A5l hii
 have hv := Bs9 (c := c) (hin 0 h)
 have hvl : ((Ajk (Aar l 0)).take c).length = c := by simp [Ajk]; omega
 have hln := Boi (i := 0) (by omega) hv (by omega)
 simp only [Aec, A2u, len, hx0]
 rw [if_pos (by simp only [decide_eq_true_eq]; omega), if_pos (by omega), if_pos hii, Cqg N _ _ (by simp; omega)]
 rw [if_pos (by simp; omega), if_pos (by omega)]
 rw [show List.getD l ((0 : Int)).toNat (0, 0, 0, 0, 0) = Aar l 0 from rfl]
 have h15 := fun K => Cmf (R := R) N a l (l.length : Int) 0 _ hv (by omega) K c N 0 ([] ++ tx (Axj 0)) (by omega) (by omega) (by simp [tx]; omega)
 rw [hvl] at h15
 have e : (((Int.toNat (c : Int)) - (0 : Nat) : Nat) : Int) = (c : Int) := by simp
 rw [e, show (Int.toNat (c : Int)) - (0 : Nat) = c by simp]
 rw [show ((Aar l 0).1 :: (Aar l 0).2.1 :: (Aar l 0).2.2.1 :: (Aar l 0).2.2.2.1 :: [(Aar l 0).2.2.2.2]) = Ajk (Aar l 0) from rfl]
 rw [show ((0 : Nat) : Int) = 0 from rfl] at h15
 rw [h15, List.drop_zero]
 have hfl := Bh5 _ hv
 rw [Cme N _ _ (by simp only [List.length_append, List.nil_append, tx, List.length_map]; omega)]
 have ey : [] ++ tx (Axj 0) ++ ((Ajk (Aar l 0)).take c).flatMap sit ++ [10] = [] ++ A24 0 ((Ajk (Aar l 0)).take c) := by simp [A24, it, List.append_assoc]
 obtain ⟨m, hm⟩ : ∃ m, l.length = m + 1 := ⟨l.length - 1, by omega⟩
 have hw := Cs1 N a c hx0 hc l hl (by omega) hin K m N 1 ([] ++ A24 0 ((Ajk (Aar l 0)).take c)) (by omega) (by omega) (by simp only [List.nil_append]; omega)
 rw [ey, show wi (0 + 1) = ((1 : Nat) : Int) from rfl, hw, hm, Axf, List.nil_append]
theorem Ce8 (c : Nat) (hc : c ≤ 5) (l : Ac4) (hl : l.length ≤ 40000) (hin : ∀ i, i < l.length → ∀ v ∈ Ajk (Aar l i), Ajg v = true) : ∀ (m i : Nat), i + m = l.length → (Axf c l i m).length ≤ 132 * m
 | 0, i, _ => by simp [Axf]
 | m + 1, i, hi => by
  have h1 := Ce8 c hc l hl hin m (i + 1) (by omega)
  have h2 := Boi (i := i) (by omega) (Bs9 (c := c) (hin i (by omega))) (by simp [Ajk]; omega)
  rw [Axf, List.length_append]; omega
theorem Chj {s : List UInt8} {x : Int} (h : x ∈ tx s) : 0 ≤ x ∧ x < 256 := by
 unfold tx at h
 obtain ⟨b, _, rfl⟩ := List.mem_map.1 h
 have := b.toNat_lt
 omega
theorem B8f (c : Nat) (l : Ac4) : ∀ (m i : Nat), ∀ x ∈ Axf c l i m, 0 ≤ x ∧ x < 256
 | 0, i, x, h => by simp [Axf] at h
 | m + 1, i, x, h => by
  rw [Axf, List.mem_append] at h
  rcases h with h | h
  ·simp only [A24, List.mem_append, List.mem_flatMap, List.mem_singleton, sit, List.mem_cons, it] at h
   rcases h with h | ⟨v, _, h | h⟩ | h
   ·exact Chj h
   ·omega
   ·exact Chj h
   ·have h : x = 10 := by simpa using h
    omega
  ·exact B8f c l m (i + 1) x h
theorem Ce9 {R : Type} (N : Nat) (b : Int) (c : Nat) (hx0 : wi (b + 1) = (c : Int)) (hc : c ≤ 5) (l : Ac4) (hl : l.length ≤ 40000) (hN : 40001 < N) (hin : ∀ i, i < l.length → ∀ v ∈ Ajk (Aar l i), Ajg v = true) (K : List UInt8 → Option R) :
  Ame N l b K = K (Axi (Axf c l 0 l.length)) := by
 obtain ⟨N', hN'⟩ : ∃ q, N = q + 1 := ⟨N - 1, by omega⟩
 simp only [Ame, Bk3, len]
 have h7 := Ct0 N b c hx0 hc l hl hN hin (fun a => if (((0 : Nat) < (List.length a)) ∧ (((List.length a) ≤ (70368744177664 : Nat)) ∧ ((Amp a) = true))) then (K ((Axi a))) else none) (K (([] : List UInt8))) N'
 rw [← hN'] at h7
 rw [h7]
 by_cases h0 : l.length = 0
 ·rw [if_pos h0, h0]; rfl
 rw [if_neg h0]
 refine if_pos ⟨?_, ?_, ?_⟩
 ·obtain ⟨m, hm⟩ : ∃ m, l.length = m + 1 := ⟨l.length - 1, by omega⟩
  rw [hm, Axf, A24]; simp only [List.length_append, List.length_cons]; omega
 ·have := Ce8 c hc l hl hin l.length 0 (by omega)
  omega
 ·unfold Amp
  rw [List.all_eq_true]
  intro x hx
  exact decide_eq_true (B8f c l _ _ x hx)
theorem Ct1 {R : Type} (N : Nat) (i : Int) (a : List UInt8) (b : Aaz) (c : Abq) (d : Ahc) (e : Ac4) (vs : List Int) (hvs : ∀ v ∈ vs, Ajg v = true) (hl : vs.length ≤ 6) (K : Int → List UInt8 → Aaz → Abq → Ahc → Ac4 → List Int → Option R) :
  ∀ (m k j : Nat) (y : List Int), m < k → 0 < j → j + m = vs.length → y.length + 22 * m ≤ 200000000 → Ace N k i j a b c d e y vs K = K i a b c d e (y ++ (vs.drop j).flatMap sit) := by
 intro m
 induction m with
 | zero =>
  intro k j y hk hj0 hj hy
  obtain ⟨k, rfl⟩ : ∃ q, k = q + 1 := ⟨k - 1, by omega⟩
  simp only [Ace, Asy, len]
  rw [if_neg (by simp only [decide_eq_true_eq]; omega), List.drop_eq_nil_of_le (by omega)]; simp
 | succ m ih =>
  intro k j y hk hj0 hj hy
  obtain ⟨k, rfl⟩ : ∃ q, k = q + 1 := ⟨k - 1, by omega⟩
  have h : j < vs.length := by omega
  have hv := hvs _ (List.getElem_mem h)
  have hle := A5l hv
  have hd : vs.getD ((j : Nat) : Int).toNat 0 = vs[j] := by
   rw [show ((j : Nat) : Int).toNat = j from rfl, List.getD_eq_getElem?_getD, List.getElem?_eq_getElem h]; rfl
  simp only [Ace, Asy, Adm, len]
  rw [if_pos (by simp only [decide_eq_true_eq]; omega), if_pos (by simp only [decide_eq_true_eq]; omega), if_pos (by omega), if_pos (by omega), hd, if_pos hv]
  rw [if_pos (by simp; omega), Acm (by omega), ih k (j + 1) _ (by omega) (by omega) (by omega) (by simp; omega), List.drop_eq_getElem_cons h, List.flatMap_cons]
  congr 1
  simp [sit, it, tx, List.append_assoc]
theorem Cqh {R : Type} (N : Nat) (hN : 10 < N) (i : Int) (a : List UInt8) (b : Aaz) (c : Abq) (d : Ahc) (e : Ac4) (v : Int) (vs : List Int) (hv : Ajg v = true) (hvs : ∀ v ∈ vs, Ajg v = true) (hl : vs.length ≤ 5) (K : Int → List UInt8 → Aaz → Abq → Ahc → Ac4 → List Int → Option R)
  (y : List Int) (hy : y.length ≤ 100000000) : Ace N N i 0 a b c d e y (v :: vs) K = K i a b c d e (y ++ (it v ++ vs.flatMap sit)) := by
 obtain ⟨k, hk⟩ : ∃ q, N = q + 1 := ⟨N - 1, by omega⟩
 have hle := A5l hv
 have hall : ∀ x ∈ v :: vs, Ajg x = true := by intro x hx; rcases List.mem_cons.1 hx with rfl | hx; exact hv; exact hvs x hx
 have h1 := Ct1 N i a b c d e (v :: vs) hall (by simp; omega) K vs.length k 1 (y ++ tx (Axj v)) (by omega) (by omega) (by simp; omega) (by simp [tx]; omega)
 rw [show Ace (R := R) N N = Ace N (k + 1) by rw [← hk]]
 simp only [Ace, Asy, Adm, len]
 rw [if_pos (by simp only [decide_eq_true_eq, List.length_cons]; omega), if_neg (by decide), if_pos (by simp), show List.getD (v :: vs) (Int.toNat 0) 0 = v from rfl, if_pos hv]
 rw [if_pos (by simp; omega), show wi (0 + 1) = ((1 : Nat) : Int) from rfl]
 refine h1.trans ?_
 congr 1
 simp [it, List.append_assoc]
theorem Cqi {R : Type} (N : Nat) (hN : 10 < N) (a : List UInt8) (b : Aaz) (c : Abq) (d : Ahc) (l : Ac4) (hl : l.length ≤ 40000) (hin : ∀ i, i < l.length → ∀ v ∈ Ajk (Aar l i), Ajg v = true) (K : List Int → Option R) :
  ∀ (m k i : Nat) (y : List Int), m < k → i + m = l.length → y.length ≤ 132 * i → Adb N k i a b c d l y K = K (y ++ Axf 5 l i m) := by
 intro m
 induction m with
 | zero =>
  intro k i y hk hi hy
  obtain ⟨k, rfl⟩ : ∃ q, k = q + 1 := ⟨k - 1, by omega⟩
  simp only [Adb, Ayt, len]
  rw [if_neg (by simp only [decide_eq_true_eq]; omega)]; simp [Axf]
 | succ m ih =>
  intro k i y hk hi hy
  obtain ⟨k, rfl⟩ : ∃ q, k = q + 1 := ⟨k - 1, by omega⟩
  have h : i < l.length := by omega
  have hii : Ajg (i : Int) = true := Bbd.2 (by omega)
  have hv := hin i h
  have hln := Boi (i := i) (by omega) hv (by simp [Ajk])
  simp only [Adb, Ayt, len]
  rw [if_pos (by simp only [decide_eq_true_eq]; omega), if_pos (by omega)]
  rw [show List.getD l ((i : Nat) : Int).toNat (0, 0, 0, 0, 0) = Aar l i from rfl]
  rw [show ((Aar l i).1 :: (Aar l i).2.1 :: (Aar l i).2.2.1 :: (Aar l i).2.2.2.1 :: [(Aar l i).2.2.2.2]) = Ajk (Aar l i) from rfl]
  rw [Cqh N hN (i : Int) a b c d l (i : Int) (Ajk (Aar l i)) hii hv (by simp [Ajk]) _ y (by omega)]
  have hfl := Bh5 _ hv
  have hit := Ce7 hii
  have hv5 : (Ajk (Aar l i)).length = 5 := rfl
  rw [if_pos (by simp only [List.length_append]; omega), Acm (by omega)]
  have ey : y ++ (it (i : Int) ++ (Ajk (Aar l i)).flatMap sit) ++ [10] = y ++ A24 i ((Ajk (Aar l i)).take 5) := by
   rw [List.take_of_length_le (by rw [hv5]; exact Nat.le_refl _)]; simp [A24, List.append_assoc]
  rw [ey, ih k (i + 1) _ (by omega) (by omega) (by rw [List.length_append, List.take_of_length_le (by rw [hv5]; exact Nat.le_refl _)]; omega), Axf, List.append_assoc]
theorem Ct2 {nm : List UInt8} {data : Aaz} {gl : Abq} {d : Ahc} {l : Ac4} (h : Wf Cb0 (nm, data, gl, d, l)) : ∀ i, i < l.length → ∀ v ∈ Ajk (Aar l i), Ajg v = true := by
 obtain ⟨_, _, _, _, h5⟩ := h
 intro i hi v hv
 have h := h5.2 i hi
 have e : List.getD l i (Ty.dflt (.pair (.int .i64) (.pair (.int .i64) (.pair (.int .i64) (.pair (.int .i64) (.int .i64)))))) = Aar l i := rfl
 rw [e] at h
 have w : ∀ n : Int, Wf (.int .i64) n → Ajg n = true := by
  intro n hn
  simp only [Wf, Lit.wf, Bool.and_eq_true, decide_eq_true_eq] at hn
  exact Bbd.2 hn
 obtain ⟨a1, a2, a3, a4, a5⟩ := h
 simp only [Ajk, List.mem_cons, List.not_mem_nil, or_false] at hv
 rcases hv with rfl | rfl | rfl | rfl | rfl
 ·exact w _ a1
 ·exact w _ a2
 ·exact w _ a3
 ·exact w _ a4
 ·exact w _ a5
theorem Bta {R : Type} {nm : List UInt8} {data : Aaz} {gl : Abq} {d : Ahc} {l : Ac4} (h : A76 data) (hin : ∀ i, i < l.length → ∀ v ∈ Ajk (Aar l i), Ajg v = true) (K : Bool → Option R) :
  Ao1 50000 nm data gl d l K = K true := by
 simp only [Ao1, A14]
 rw [B7e d l h]
 cases hh : B3i nm data gl d l
 case true => rfl
 simp only [B3i, Bool.or_eq_false_iff, decide_eq_false_iff_not] at hh
 have F : Bh4 50000 nm data gl := by
  refine ⟨by omega, by omega, h, fun d hd => ?_, fun d hd => ?_, by omega, by omega, by omega⟩
  ·have := B7d hd; omega
  ·have := B7d hd; omega
 rw [if_neg (by decide)]
 simp only [Am5, Bk5, Alw, Bhy]
 rw [Cba F, Cmc]
 by_cases h0 : Bs8 nm data gl d l = 0
 ·rw [h0, if_neg (by decide), Ce9 50000 4 5 rfl (by omega) l (by omega) (by omega) hin, Bnc F d l (by omega), h0, if_neg (by decide)]
  have h13 := Cqi 50000 (by omega) nm data gl d l (by omega) hin (fun a => if ((Axi (Axf 5 l 0 l.length) == ((List.map (fun n : Int => (UInt8.ofNat (Int.toNat n))) a))) = true) then (if ((((0 : Int) == 0)) = true) then (K true) else (K false)) else (K false)) l.length 50000 0 [] (by omega) (by omega) (by simp)
  rw [show ((0 : Nat) : Int) = 0 from rfl] at h13
  refine h13.trans ?_
  rw [List.nil_append, if_pos (by simp [Axi])]
  rfl
 ·rw [if_pos (by simpa using h0), Bnc F d l (by omega), if_pos (by simpa using h0)]
  simp
theorem B7f (a : Ty.den Cb0) (c : Wf _ a) :
  ∃ N, (Bd3 N).run AV [Cbl true Cb0 a] [] (fun v _ _ => some v) = some (vb true) :=
 ⟨50000, Bta (Ctz c) (Ct2 c) (fun b => some (vb b))⟩
end Q

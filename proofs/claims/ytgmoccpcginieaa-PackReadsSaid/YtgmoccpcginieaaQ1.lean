/- Part Q1 of the proof. -/
import Derived.Test.YtgmoccpcginieaaO
import Derived.Test.YtgmoccpcginieaaX7
open Go Go.AX Go.Proofs
namespace Q
def B2z (c : UInt8) : Bool := c == 10 || c == 9 || c == 42 || c == 34
def A0q (c : UInt8) : Bool := !B2z c && (decide (c.toNat < 32) || decide (126 < c.toNat))
def Brq (c : UInt8) : List Int := if c = 10 then [42, 110] else if c = 9 then [42, 116] else if c = 42 then [42, 42] else if c = 34 then [42, 34] else [(c.toNat : Int)]
def Bql (s : List UInt8) : List Int := s.flatMap Brq
def Ayc (s : List UInt8) : Int := if s.any A0q then 3 else if 100 < s.length then 2 else 0
theorem Dej (c : UInt8) : Bzm [10, 9, 42, 34] ((c.toNat : Nat) : Int) = if c = 10 then 0 else if c = 9 then 1 else if c = 42 then 2 else if c = 34 then 3 else -1 := by
 have e : (((c.toNat : Nat) : Int)).toNat.toUInt8 = c := by simp
 unfold Bzm
 rw [e]
 simp only [Lib.indexByte, beq_iff_eq]
 by_cases h1 : c = 10
 ·subst h1; rfl
 by_cases h2 : c = 9
 ·subst h2; rfl
 by_cases h3 : c = 42
 ·subst h3; rfl
 by_cases h4 : c = 34
 ·subst h4; rfl
 simp [h1, h2, h3, h4, Ne.symm h1, Ne.symm h2, Ne.symm h3, Ne.symm h4]
theorem C36 (c : UInt8) : (Brq c).length ≤ 2 ∧ Awh (Brq c) = true := by
 unfold Brq
 have : c.toNat < 256 := c.toNat_lt
 repeat' split
 all_goals (constructor <;> simp [Awh] <;> omega)
theorem Bix (a b : List Int) : Awh (a ++ b) = (Awh a && Awh b) := by simp [Awh]
theorem Bmb {R : Type} (N : Nat) (v : Int) (b : List Int) (K : List Int → Option R) (h : b.length + 1 ≤ 70368744177664) : Aa7 N v b K = K (b ++ [v]) := by
 unfold Aa7
 rw [if_pos (by simp; omega)]
theorem Dbv {R : Type} (N : Nat) (v : Int) (b : List Int) (K : List Int → Option R) (h : b.length + 1 ≤ 70368744177664) : Acq N v b K = K (b ++ [v]) := by
 unfold Acq
 rw [if_pos (by simp; omega)]
theorem Ckn {R : Type} (N : Nat) (s : List UInt8) (hs : s.length ≤ 1099511627776) (a : List UInt8 → Int → Option R) (d : List UInt8 → List Int → Option R) : ∀ (m k i : Nat) (b : List Int), m < k → i + m = s.length → b.length ≤ 1 + 2 * i →
  Ai2 N k s s.length i b a d = if (s.drop i).any A0q then a [] 3 else d s (b ++ Bql (s.drop i))
 | m, 0, _, _, hk, _, _ => by omega
 | 0, k + 1, i, b, _, hi, _ => by
  simp only [Ai2, Bc1]
  rw [if_neg (by simp; omega), List.drop_eq_nil_of_le (by omega)]
  simp [Bql]
 | m + 1, k + 1, i, b, hk, hi, hb => by
  simp only [Ai2, Bc1]
  have hin : (0 : Int) ≤ i ∧ (i : Int) < len s := by simp only [len]; omega
  rw [if_pos (by simp; omega), if_pos hin]
  have hlt : i < s.length := by omega
  have hd : s.drop i = s[i] :: s.drop (i + 1) := List.drop_eq_getElem_cons hlt
  have hg : s.getD (Int.toNat (i : Int)) 0 = s[i] := by
   rw [List.getD_eq_getElem?_getD]; simp [hlt]
  rw [hg, hd]
  generalize s[i] = c
  have hc := c.toNat_lt
  have hw : wi ((i : Int) + 1) = ((i + 1 : Nat) : Int) := by
   simp only [wi]; rw [w64 (by omega)]; rfl
  have ih := fun b' (hb' : b'.length ≤ 1 + 2 * (i + 1)) => Ckn N s hs a d m k (i + 1) b' (by omega) (by omega) hb'
  rw [Dej]
  by_cases h1 : c = 10
  ·subst h1
   rw [if_pos rfl, if_pos (by decide), Bmb _ _ _ _ (by omega), if_pos (by decide), Bmb _ _ _ _ (by simp; omega), hw, ih _ (by simp; omega)]
   simp [A0q, B2z, Bql, Brq]
  rw [if_neg h1]
  by_cases h2 : c = 9
  ·subst h2
   rw [if_pos rfl, if_pos (by decide), Bmb _ _ _ _ (by omega), if_pos (by decide), Bmb _ _ _ _ (by simp; omega), hw, ih _ (by simp; omega)]
   simp [A0q, B2z, Bql, Brq]
  rw [if_neg h2]
  by_cases h3 : c = 42
  ·subst h3
   rw [if_pos rfl, if_pos (by decide), Bmb _ _ _ _ (by omega), if_pos (by decide), Bmb _ _ _ _ (by simp; omega), hw, ih _ (by simp; omega)]
   simp [A0q, B2z, Bql, Brq]
  rw [if_neg h3]
  by_cases h4 : c = 34
  ·subst h4
   rw [if_pos rfl, if_pos (by decide), Bmb _ _ _ _ (by omega), if_pos (by decide), Bmb _ _ _ _ (by simp; omega), hw, ih _ (by simp; omega)]
   simp [A0q, B2z, Bql, Brq]
  rw [if_neg h4, if_neg (by decide)]
  have hq : B2z c = false := by simp [B2z, h1, h2, h3, h4]
  by_cases h5 : c.toNat < 32
  ·rw [if_pos (by simp; omega)]
   simp [A0q, hq, h5]
  rw [if_neg (by simp; omega)]
  by_cases h6 : 126 < c.toNat
  ·rw [if_pos (by simp; omega)]
   simp [A0q, hq, h6]
  rw [if_neg (by simp; omega), Bmb _ _ _ _ (by omega), hw, ih _ (by simp; omega)]
  simp [A0q, hq, h5, h6, Bql, Brq, h1, h2, h3, h4]
theorem C2j (s : List UInt8) : Awh (Bql s) = true ∧ (Bql s).length ≤ 2 * s.length := by
 induction s with
 | nil => simp [Bql, Awh]
 | cons c s ih =>
  have := C36 c
  simp only [Bql, List.flatMap_cons, Bix, List.length_append, List.length_cons] at ih ⊢
  rw [this.2, ih.1]
  exact ⟨rfl, by omega⟩
theorem B87 (N : Nat) (s : List UInt8) (hs : s.length ≤ 1099511627776) (hN : s.length < N) : ∃ r, ∀ {R : Type} (K : List UInt8 → Int → Option R), Aes N s K = K r (Ayc s) := by
 have key : ∀ {R : Type} (K : List UInt8 → Int → Option R), Aes N s K = K (if s.any A0q then [] else if 100 < s.length then [] else Brk (34 :: Bql s ++ [34])) (Ayc s) := by
  intro R K
  simp only [Aes, Byk]
  rw [Dbv _ _ _ _ (by simp)]
  simp only [len]
  have := Ckn N s hs (fun b c => K b c) (fun d e => if (decide ((d.length : Int) > 100)) = true then K [] 2 else Aa7 N 34 e fun a => if 0 < a.length ∧ a.length ≤ 70368744177664 ∧ Awh a = true then K (Brk a) 0 else none) s.length N 0 ([] ++ [34]) hN (by omega) (by simp)
  rw [show ((0 : Nat) : Int) = 0 from rfl] at this
  rw [this]
  simp only [List.drop_zero, Ayc]
  by_cases h1 : s.any A0q = true
  ·simp only [if_pos h1]
  simp only [if_neg h1]
  by_cases h2 : 100 < s.length
  ·rw [if_pos (by simp; omega), if_pos h2, if_pos h2]
  rw [if_neg (by simp; omega), if_neg h2, if_neg h2]
  have hq := C2j s
  rw [Bmb _ _ _ _ (by simp; omega), if_pos]
  ·rfl
  ·refine ⟨by simp, by simp; omega, ?_⟩
   rw [Bix, Bix, hq.1]; rfl
 exact ⟨_, fun K => key K⟩
def Amy (n : Int) : Bool := decide (-2147483648 ≤ n) && decide (n ≤ 2147483647)
def inB (v a b : Int) : Bool := decide (a ≤ v) && decide (v ≤ b)
def Arw : List (List UInt8 × Int × Int × Int) := [([], 0, 0, 0), ([110, 117, 109], 1, 0, 1), ([108, 111, 99, 97, 108], 2, 0, 1), ([112, 117, 116, 108], 2, 1, 0), ([97, 100, 100, 114, 108], 2, 0, 1),
 ([103, 108, 111, 98, 97, 108], 3, 0, 1), ([112, 117, 116, 103], 3, 1, 0), ([97, 100, 100, 114, 103], 3, 0, 1), ([115, 116, 97, 116, 105, 99], 4, 0, 1), ([112, 117, 116, 115], 4, 1, 0), ([97, 100, 100, 114, 115], 4, 0, 1),
 ([112, 114, 111, 99], 5, 0, 1), ([108, 111, 97, 100], 0, 1, 1), ([115, 116, 111, 114, 101], 0, 2, 0), ([103, 101, 116, 98], 0, 2, 1), ([112, 117, 116, 98], 0, 3, 0), ([98, 105, 110], 7, 2, 1), ([117, 110], 8, 1, 1),
 ([115, 116, 97, 99, 107], 2, 0, 0), ([108, 97, 98, 101, 108], 6, 0, 0), ([106, 117, 109, 112], 6, 0, 0), ([116, 114, 117, 101], 6, 1, 0), ([102, 97, 108, 115, 101], 6, 1, 0), ([99, 97, 108, 108], 2, 0, 0),
 ([101, 110, 116, 101, 114], 5, 0, 0), ([114, 101, 116, 117, 114, 110], 0, 1, 0), ([98, 97, 99, 107], 0, 0, 0), ([114, 101, 115, 117, 108, 116], 6, 1, 0), ([116, 97, 107, 101], 2, 0, 0), ([115, 119, 105, 116, 99, 104], 6, 1, 0), ([99, 97, 115, 101], 1, 0, 0)]
def kT (op : Int) : List UInt8 × Int × Int × Int := Arw.getD op.toNat ([], 0, 0, 0)
def Axf (op n m nd procs labels : Int) : Bool :=
 if op = 1 then Amy n && m == 0
 else if op = 2 ∨ op = 3 ∨ op = 4 ∨ op = 18 ∨ op = 23 ∨ op = 28 then inB n 0 4000 && m == 0
 else if op = 5 ∨ op = 6 ∨ op = 7 then inB n 0 199 && m == 0
 else if op = 8 ∨ op = 9 ∨ op = 10 then inB n 0 (nd - 1) && m == 0
 else if op = 11 then inB n 1 procs && m == 0
 else if op = 16 then inB n 1 17 && m == 0
 else if op = 17 then (n == 18 || n == 19) && m == 0
 else if op = 19 ∨ op = 20 ∨ op = 21 ∨ op = 22 ∨ op = 27 then inB n 1 labels && m == 0
 else if op = 24 then inB n 1 procs && inB m 0 8
 else if op = 29 then inB n 1 labels && inB m 0 1000
 else if op = 30 then Amy n && inB m 1 labels
 else n == 0 && m == 0
theorem A5s {R : Type} (N : Nat) (v a b : Int) (K : Bool → Option R) : Abv N v a b K = K (inB v a b) := by
 unfold Abv inB
 by_cases h : a ≤ v
 ·rw [if_pos (by simpa using h)]; simp [h]
 ·rw [if_neg (by simpa using h)]; simp [h]
theorem Atz {R : Type} (N : Nat) (v a b : Int) (K : Bool → Option R) : Aay N v a b K = K (inB v a b) := by
 unfold Aay inB
 by_cases h : a ≤ v
 ·rw [if_pos (by simpa using h)]; simp [h]
 ·rw [if_neg (by simpa using h)]; simp [h]
theorem B44 {R : Type} (N : Nat) (v : Int) (K : Bool → Option R) : Ahb N v K = K (Amy v) := by
 simp only [Ahb, Bs8, A5s]; rfl
theorem ifT {R : Type} (a b : Bool) (K : Bool → Option R) : (if a = true then K b else K false) = K (a && b) := by cases a <;> rfl
theorem Dd1 {R : Type} (N : Nat) (ok : Bool) (op n m : Int) (nm : List UInt8) (data : List (List UInt8 × Bool × List Int)) (ops : List (Int × Int × Int)) (gl : List (Int × Int)) (procs labels : Int) (K : Bool → Option R) :
  Ac0 N ok op n m nm data ops gl procs labels K = K (ok && (if op = 24 then inB m 0 8 else if op = 29 then inB m 0 1000 else if op = 30 then inB m 1 labels else m == 0)) := by
 simp only [Ac0, A8f, A5s, ifT, beq_iff_eq]
 repeat' split
 all_goals rfl
theorem Br0 {op : Int} (h : 1 ≤ op ∧ op ≤ 30) : op = 1 ∨ op = 2 ∨ op = 3 ∨ op = 4 ∨ op = 5 ∨ op = 6 ∨ op = 7 ∨ op = 8 ∨ op = 9 ∨ op = 10 ∨ op = 11 ∨ op = 12 ∨ op = 13 ∨ op = 14 ∨ op = 15 ∨ op = 16 ∨ op = 17 ∨ op = 18 ∨ op = 19 ∨ op = 20 ∨ op = 21 ∨ op = 22 ∨ op = 23 ∨ op = 24 ∨ op = 25 ∨ op = 26 ∨ op = 27 ∨ op = 28 ∨ op = 29 ∨ op = 30 := by omega
theorem Cgt {R : Type} (N : Nat) (op n m : Int) (nm : List UInt8) (data : List (List UInt8 × Bool × List Int)) (ops : List (Int × Int × Int)) (gl : List (Int × Int)) (procs labels : Int) (hd : data.length ≤ 1000000) (h : 1 ≤ op ∧ op ≤ 30) (K : Bool → Option R) :
  Afi N op n m nm data ops gl procs labels (kT op).1 (kT op).2.1 (kT op).2.2.1 (kT op).2.2.2 K = K (Axf op n m data.length procs labels) := by
 have hw : wi (len data - 1) = (data.length : Int) - 1 := by simp only [wi, len]; rw [w64 (by omega)]
 rcases Br0 h with rfl | rfl | rfl | rfl | rfl | rfl | rfl | rfl | rfl | rfl | rfl | rfl | rfl | rfl | rfl | rfl | rfl | rfl | rfl | rfl | rfl | rfl | rfl | rfl | rfl | rfl | rfl | rfl | rfl | rfl <;>
  simp only [Afi, Bg0, Dd1, A5s, B44, hw] <;> simp [kT, Arw, Axf]
 by_cases hn : n = 18
 ·simp [hn]
 ·have : (n == 18) = false := by simpa using hn
  simp [hn, this]
theorem C37 {op n m nd procs labels : Int} (hd : nd ≤ 2000) (hp : procs ≤ 200) (hl : labels ≤ 20000) (h : Axf op n m nd procs labels = true) : Amy n = true ∧ Amy m = true := by
 unfold Axf at h
 repeat' split at h
 all_goals
  simp only [inB, Amy, Bool.and_eq_true, Bool.or_eq_true, decide_eq_true_eq, beq_iff_eq] at h ⊢
  omega
theorem C2k {R : Type} (N : Nat) (op n m : Int) (nm : List UInt8) (data : List (List UInt8 × Bool × List Int)) (ops : List (Int × Int × Int)) (gl : List (Int × Int)) (procs labels : Int) (hd : data.length ≤ 1000000) (h : 1 ≤ op ∧ op ≤ 30) (hn : Amy n = true) (hm : Amy m = true) (K : Bool → Option R) :
  Agu N nm data ops gl procs labels op n m K = K (Axf op n m data.length procs labels) := by
 have hw : wi (len data - 1) = (data.length : Int) - 1 := by simp only [wi, len]; rw [w64 (by omega)]
 have h1 : inB n (-2147483648) 2147483647 = true := hn
 have h2 : inB m (-2147483648) 2147483647 = true := hm
 have h0 : inB op 1 30 = true := by simp [inB, h]
 simp only [Agu, Azx, Atz, h0, h1, h2, Bool.not_true, Bool.false_eq_true, if_false]
 clear h0 h1 h2
 rcases Br0 h with rfl | rfl | rfl | rfl | rfl | rfl | rfl | rfl | rfl | rfl | rfl | rfl | rfl | rfl | rfl | rfl | rfl | rfl | rfl | rfl | rfl | rfl | rfl | rfl | rfl | rfl | rfl | rfl | rfl | rfl <;>
  simp [Aa1, A9c, Acd, A9b, Acc, A9a, Abz, A89, Aaz, Atz, hw, Axf, hn, ifT]
 all_goals
  by_cases hz : m = 0
  ·(try simp [hz])
   try
    by_cases hy : n = 18
    ·simp [hy]
    ·have hy' : (n == 18) = false := by simpa using hy
     simp [hy, hy']
  ·have hz' : (m == 0) = false := by simpa using hz
   (try simp [hz, hz'])
theorem Cgu {R : Type} (N : Nat) (op n m : Int) (nm : List UInt8) (data : List (List UInt8 × Bool × List Int)) (ops : List (Int × Int × Int)) (gl : List (Int × Int)) (procs labels : Int) (hd : data.length ≤ 2000) (hp : procs ≤ 200) (hl : labels ≤ 20000) (K : Bool → Option R) :
  Agu N nm data ops gl procs labels op n m K = K (inB op 1 30 && Axf op n m data.length procs labels) := by
 by_cases h : 1 ≤ op ∧ op ≤ 30
 ·by_cases hw : Amy n = true ∧ Amy m = true
  ·rw [C2k N op n m nm data ops gl procs labels (by omega) h hw.1 hw.2]
   simp [inB, h]
  ·have hf : Axf op n m data.length procs labels = false := by
    cases e : Axf op n m data.length procs labels with
    | false => rfl
    | true => exact absurd (C37 (by omega) hp hl e) hw
   have h0 : inB op 1 30 = true := by simp [inB, h]
   have h1 : inB n (-2147483648) 2147483647 = Amy n := rfl
   have h2 : inB m (-2147483648) 2147483647 = Amy m := rfl
   rw [hf]
   simp only [Agu, Azx, Atz, h0, h1, h2]
   by_cases h3 : Amy n = true
   ·have h4 : Amy m = false := by
     cases e : Amy m with
     | false => rfl
     | true => exact absurd ⟨h3, e⟩ hw
    simp [h3, h4]
   ·have h3 : Amy n = false := by simpa using h3
    simp [h3]
 ·have h0 : inB op 1 30 = false := by
   simp only [inB, Bool.and_eq_false_iff, decide_eq_false_iff_not]; omega
  simp only [Agu, Azx, Atz, h0]
  simp
abbrev Aar := List (List UInt8 × Bool × List Int)
abbrev OpL := List (Int × Int × Int)
abbrev Aa5 := List (Int × Int)
def Bct (d : List UInt8 × Bool × List Int) : Int := d.2.2.length + (if d.2.1 = true then (d.1.length + 2) / 2 else 0)
def A2o (l : Aar) : Int := (l.map Bct).sum
def Avm (data : Aar) (ops : OpL) (procs labels : Int) : Bool :=
 decide (40000 < ops.length) || decide (2000 < data.length) || decide (200 < procs) || decide (20000 < labels) || decide (7800 < A2o data)
def B88 (l : Aar) : Prop := ∀ d, d ∈ l → d.1.length ≤ 140737488351232 ∧ d.2.2.length ≤ 140737488351232
theorem C2l {R : Type} (N : Nat) (data : Aar) (hd : B88 data) (hl : data.length ≤ 2000) (K : Int → Option R) : ∀ (m k i : Nat) (acc : Int), m < k → i + m = data.length → 0 ≤ acc → acc ≤ i * 281474976710656 →
  Age N k acc data data.length i K = K (acc + A2o (data.drop i)) := by
 intro m
 induction m with
 | zero =>
  intro k i acc hk hi _ _
  obtain ⟨k, rfl⟩ : ∃ j, k = j + 1 := ⟨k - 1, by omega⟩
  simp only [Age, A3e]
  rw [if_neg (by simp; omega), List.drop_eq_nil_of_le (by omega)]
  simp [A2o]
 | succ m ih0 =>
  intro k i acc hk hi h0 ha
  obtain ⟨k, rfl⟩ : ∃ j, k = j + 1 := ⟨k - 1, by omega⟩
  simp only [Age, A3e]
  have hin : (0 : Int) ≤ i ∧ (i : Int) < len data := by simp only [len]; omega
  rw [if_pos (by simp; omega), if_pos hin]
  have hlt : i < data.length := by omega
  have hdr : data.drop i = data[i] :: data.drop (i + 1) := List.drop_eq_getElem_cons hlt
  have hg : data.getD (Int.toNat (i : Int)) (([] : List UInt8), (false, ([] : List Int))) = data[i] := by
   rw [List.getD_eq_getElem?_getD]; simp [hlt]
  have hb := hd data[i] (List.getElem_mem hlt)
  rw [hg, hdr]
  generalize data[i] = d at hb
  have hw : wi ((i : Int) + 1) = ((i + 1 : Nat) : Int) := by simp only [wi]; rw [w64 (by omega)]; rfl
  have h1 : wi (acc + ((d.2.2.length : Nat) : Int)) = acc + d.2.2.length := by simp only [wi]; rw [w64 (by omega)]
  have h2 : wi (((d.1.length : Nat) : Int) + 2) = d.1.length + 2 := by simp only [wi]; rw [w64 (by omega)]
  have h3 : wi (Int.tdiv (((d.1.length : Nat) : Int) + 2) 2) = (d.1.length + 2) / 2 := by
   rw [Int.tdiv_eq_ediv_of_nonneg (by omega)]; simp only [wi]; rw [w64 (by omega)]
  have h4 : wi (acc + ((d.2.2.length : Nat) : Int) + ((d.1.length : Int) + 2) / 2) = acc + d.2.2.length + (d.1.length + 2) / 2 := by simp only [wi]; rw [w64 (by omega)]
  rw [hw, h1, h2, h3, h4]
  have ih := fun acc' h h' => ih0 k (i + 1) acc' (by omega) (by omega) h h'
  by_cases ht : d.2.1 = true
  ·rw [if_pos ht, ih _ (by omega) (by omega)]
   simp only [A2o, List.map_cons, List.sum_cons, Bct, if_pos ht]
   congr 1; omega
  ·rw [if_neg ht, ih _ (by omega) (by omega)]
   simp only [A2o, List.map_cons, List.sum_cons, Bct, if_neg ht]
   congr 1; omega
theorem Col {R : Type} (N : Nat) (nm : List UInt8) (data : Aar) (ops : OpL) (gl : Aa5) (procs labels : Int) (hd : B88 data) (hN : 2000 < N) (K : Bool → Option R) :
  Am9 N nm data ops gl procs labels K = K (Avm data ops procs labels) := by
 simp only [Am9, Bn8, Avm, len]
 by_cases h1 : (ops.length : Int) > 40000
 ·rw [if_pos (by simpa using h1)]; simp [show 40000 < ops.length by omega]
 rw [if_neg (by simpa using h1)]
 by_cases h2 : (data.length : Int) > 2000
 ·rw [if_pos (by simpa using h2)]; simp [show 2000 < data.length by omega]
 rw [if_neg (by simpa using h2)]
 by_cases h3 : procs > 200
 ·rw [if_pos (by simpa using h3)]; simp [show 200 < procs by omega]
 rw [if_neg (by simpa using h3)]
 by_cases h4 : labels > 20000
 ·rw [if_pos (by simpa using h4)]; simp [show 20000 < labels by omega]
 rw [if_neg (by simpa using h4)]
 have := C2l N data hd (by omega) (fun a => K (decide (a > 7800))) data.length N 0 0 (by omega) (by omega) (by omega) (by omega)
 rw [show ((0 : Nat) : Int) = 0 from rfl] at this
 rw [this]
 simp [show ¬ 40000 < ops.length by omega, show ¬ 2000 < data.length by omega, show ¬ 200 < procs by omega, show ¬ 20000 < labels by omega]
theorem Cw3 {R : Type} (N : Nat) (nm : List UInt8) (data : Aar) (ops : OpL) (gl : Aa5) (procs labels : Int) (hd : B88 data) (hl : data.length ≤ 2000) (K : Int → Option R) : ∀ (m k i : Nat) (acc : Int), m < k → i + m = data.length → 0 ≤ acc → acc ≤ i * 281474976710656 →
  Aff N k acc i nm data ops gl procs labels K = K (acc + A2o (data.drop i)) := by
 intro m
 induction m with
 | zero =>
  intro k i acc hk hi _ _
  obtain ⟨k, rfl⟩ : ∃ j, k = j + 1 := ⟨k - 1, by omega⟩
  simp only [Aff, Azq]
  rw [if_neg (by simp [len]; omega), List.drop_eq_nil_of_le (by omega)]
  simp [A2o]
 | succ m ih0 =>
  intro k i acc hk hi h0 ha
  obtain ⟨k, rfl⟩ : ∃ j, k = j + 1 := ⟨k - 1, by omega⟩
  simp only [Aff, Azq]
  have hin : (0 : Int) ≤ i ∧ (i : Int) < len data := by simp only [len]; omega
  rw [if_pos (by simp [len]; omega), if_pos hin, if_pos hin, if_pos hin]
  have hlt : i < data.length := by omega
  have hdr : data.drop i = data[i] :: data.drop (i + 1) := List.drop_eq_getElem_cons hlt
  have hg : data.getD (Int.toNat (i : Int)) (([] : List UInt8), (false, ([] : List Int))) = data[i] := by
   rw [List.getD_eq_getElem?_getD]; simp [hlt]
  have hb := hd data[i] (List.getElem_mem hlt)
  rw [hg, hdr]
  generalize data[i] = d at hb
  have hw : wi ((i : Int) + 1) = ((i + 1 : Nat) : Int) := by simp only [wi]; rw [w64 (by omega)]; rfl
  have h1 : wi (acc + ((d.2.2.length : Nat) : Int)) = acc + d.2.2.length := by simp only [wi]; rw [w64 (by omega)]
  have h2 : wi (((d.1.length : Nat) : Int) + 2) = d.1.length + 2 := by simp only [wi]; rw [w64 (by omega)]
  have h3 : wi (Int.tdiv (((d.1.length : Nat) : Int) + 2) 2) = (d.1.length + 2) / 2 := by
   rw [Int.tdiv_eq_ediv_of_nonneg (by omega)]; simp only [wi]; rw [w64 (by omega)]
  have h4 : wi (acc + ((d.2.2.length : Nat) : Int) + ((d.1.length : Int) + 2) / 2) = acc + d.2.2.length + (d.1.length + 2) / 2 := by simp only [wi]; rw [w64 (by omega)]
  rw [hw, h1, h2, h3, h4]
  have ih := fun acc' h h' => ih0 k (i + 1) acc' (by omega) (by omega) h h'
  by_cases ht : d.2.1 = true
  ·rw [if_pos ht, ih _ (by omega) (by omega)]
   simp only [A2o, List.map_cons, List.sum_cons, Bct, if_pos ht]
   congr 1; omega
  ·rw [if_neg ht, ih _ (by omega) (by omega)]
   simp only [A2o, List.map_cons, List.sum_cons, Bct, if_neg ht]
   congr 1; omega
theorem Cgv {R : Type} (N : Nat) (nm : List UInt8) (data : Aar) (ops : OpL) (gl : Aa5) (procs labels : Int) (hd : B88 data) (hN : 2000 < N) (K : Bool → Option R) :
  Aib N nm data ops gl procs labels K = K (Avm data ops procs labels) := by
 simp only [Aib, Bhq, Avm, len]
 by_cases h1 : (ops.length : Int) > 40000
 ·rw [if_pos (by simpa using h1)]; simp [show 40000 < ops.length by omega]
 rw [if_neg (by simpa using h1)]
 by_cases h2 : (data.length : Int) > 2000
 ·rw [if_pos (by simpa using h2)]; simp [show 2000 < data.length by omega]
 rw [if_neg (by simpa using h2)]
 by_cases h3 : procs > 200
 ·rw [if_pos (by simpa using h3)]; simp [show 200 < procs by omega]
 rw [if_neg (by simpa using h3)]
 by_cases h4 : labels > 20000
 ·rw [if_pos (by simpa using h4)]; simp [show 20000 < labels by omega]
 rw [if_neg (by simpa using h4)]
 have := Cw3 N nm data ops gl procs labels hd (by omega) (fun a => K (decide (a > 7800))) data.length N 0 0 (by omega) (by omega) (by omega) (by omega)
 rw [show ((0 : Nat) : Int) = 0 from rfl] at this
 rw [this]
 simp [show ¬ 40000 < ops.length by omega, show ¬ 2000 < data.length by omega, show ¬ 200 < procs by omega, show ¬ 20000 < labels by omega]
theorem Ad2 {α : Type} (l : List α) (d : α) {i : Nat} (h : i < l.length) : l.getD (Int.toNat (i : Int)) d = l[i] := by
 rw [List.getD_eq_getElem?_getD]; simp [h]
theorem Abh {i : Nat} (h : i < 4611686018427387904) : wi ((i : Int) + 1) = ((i + 1 : Nat) : Int) := by
 simp only [wi]; rw [w64 (by omega)]; rfl
theorem exk {k m : Nat} (h : m < k) : ∃ j, k = j + 1 := ⟨k - 1, by omega⟩
theorem Cyu {R : Type} (N : Nat) (s : List UInt8) (hs : s.length ≤ 1099511627776) (a : List UInt8 → Int → Option R) (d : List UInt8 → List UInt8 → Option R) : ∀ (m k i : Nat) (b : List UInt8), m < k → i + m = s.length → b.length ≤ 1 + 2 * i →
  ∃ b', b'.length ≤ 1 + 2 * s.length ∧ Agt N k s b i a d = if (s.drop i).any A0q then a [] 3 else d s b' := by
 intro m
 induction m with
 | zero =>
  intro k i b hk hi hb
  obtain ⟨k, rfl⟩ := exk hk
  refine ⟨b, by omega, ?_⟩
  simp only [Agt, A7e]
  rw [if_neg (by simp [len]; omega), List.drop_eq_nil_of_le (by omega)]
  simp
 | succ m ih =>
  intro k i b hk hi hb
  obtain ⟨k, rfl⟩ := exk hk
  have hlt : i < s.length := by omega
  have hin : (0 : Int) ≤ i ∧ (i : Int) < len s := by simp only [len]; omega
  have hd : s.drop i = s[i] :: s.drop (i + 1) := List.drop_eq_getElem_cons hlt
  have hany : (s.drop i).any A0q = (A0q s[i] || (s.drop (i + 1)).any A0q) := by rw [hd, List.any_cons]
  have hsub : List.drop (Int.toNat (i : Int)) (List.take (Int.toNat ((i + 1 : Nat) : Int)) s) = [s[i]] := by
   simp only [Int.toNat_natCast]
   rw [List.drop_take, show i + 1 - i = 1 by omega, hd]; rfl
  have hcut : ∀ {S : Type} (x y : S), (if (0 : Int) ≤ ((i + 1 : Nat) : Int) ∧ ((i + 1 : Nat) : Int) ≤ len s then x else y) = x := fun x y => if_pos (by simp only [len]; omega)
  have hcut2 : ∀ {S : Type} (x y : S), (if (0 : Int) ≤ (i : Int) ∧ (i : Int) ≤ ((i + 1 : Nat) : Int) then x else y) = x := fun x y => if_pos (by omega)
  have go : ∀ b2 : List UInt8, b2.length ≤ 1 + 2 * (i + 1) → A0q s[i] = false → (∃ b', b'.length ≤ 1 + 2 * s.length ∧ Agt N k s b2 ((i + 1 : Nat) : Int) a d = if (s.drop i).any A0q then a [] 3 else d s b') := by
   intro b2 h2 hq
   obtain ⟨b', h3, h4⟩ := ih k (i + 1) b2 (by omega) (by omega) h2
   exact ⟨b', h3, by rw [h4, hany, hq, Bool.false_or]⟩
  simp only [Agt, A7e]
  rw [if_pos (by simp [len]; omega), if_pos hin, Ad2 _ _ hlt, Abh (by omega), hsub]
  simp only [hcut, hcut2]
  generalize hc : s[i] = c at *
  have hcl := c.toNat_lt
  have toc : ∀ n : Nat, n < 256 → (((c.toNat : Int) == (n : Int)) = true ↔ c = UInt8.ofNat n) := by
   intro n hn
   rw [beq_iff_eq]
   constructor
   ·intro h
    have : c.toNat = n := by omega
    rw [← this]; simp
   ·intro h; subst h; simp [UInt8.toNat_ofNat']; omega
  have t10 : (((c.toNat : Nat) : Int) == 10) = true ↔ c = 10 := toc 10 (by decide)
  have t9 : (((c.toNat : Nat) : Int) == 9) = true ↔ c = 9 := toc 9 (by decide)
  have t42 : (((c.toNat : Nat) : Int) == 42) = true ↔ c = 42 := toc 42 (by decide)
  have t34 : (((c.toNat : Nat) : Int) == 34) = true ↔ c = 34 := toc 34 (by decide)
  by_cases h1 : c = 10
  ·rw [if_pos (t10.2 h1), if_pos (by omega)]
   exact go _ (by simp; omega) (by subst h1; rfl)
  rw [if_neg (fun h => h1 (t10.1 h))]
  by_cases h2 : c = 9
  ·rw [if_pos (t9.2 h2), if_pos (by omega)]
   exact go _ (by simp; omega) (by subst h2; rfl)
  rw [if_neg (fun h => h2 (t9.1 h))]
  by_cases h3 : c = 42
  ·rw [if_pos (t42.2 h3), if_pos (by simp), if_pos (by simp; omega)]
   exact go _ (by simp; omega) (by subst h3; rfl)
  rw [if_neg (fun h => h3 (t42.1 h))]
  by_cases h4 : c = 34
  ·rw [if_pos (t34.2 h4), if_pos (by simp), if_pos (by simp; omega)]
   exact go _ (by simp; omega) (by subst h4; rfl)
  rw [if_neg (fun h => h4 (t34.1 h))]
  have hq : B2z c = false := by simp [B2z, h1, h2, h3, h4]
  by_cases h5 : c.toNat < 32
  ·rw [if_pos (by simp; omega)]
   exact ⟨b, by omega, by rw [hany]; simp [A0q, hq, h5]⟩
  rw [if_neg (by simp; omega)]
  by_cases h6 : 126 < c.toNat
  ·rw [if_pos (by simp; omega)]
   exact ⟨b, by omega, by rw [hany]; simp [A0q, hq, h6]⟩
  rw [if_neg (by simp; omega), if_pos (by simp; omega)]
  exact go _ (by simp; omega) (by simp [A0q, hq, h5, h6])
theorem B1f (N : Nat) (s : List UInt8) (hs : s.length ≤ 1099511627776) (hN : s.length < N) {R : Type} (K : List UInt8 → Int → Option R) : ∃ r, Aec N s K = K r (Ayc s) := by
 simp only [Aec, Bpg]
 obtain ⟨b', h1, h2⟩ := Cyu N s hs (fun c d => K c d) (fun e a => if (decide (len e > 100)) = true then K [] 2 else if a.length + 1 ≤ 70368744177664 then K (a ++ [34]) 0 else none) s.length N 0 [34] hN (by omega) (by simp)
 rw [show ((0 : Nat) : Int) = 0 from rfl] at h2
 rw [h2]
 simp only [List.drop_zero, Ayc]
 by_cases h3 : s.any A0q = true
 ·exact ⟨[], by simp only [if_pos h3]⟩
 simp only [if_neg h3]
 by_cases h4 : 100 < s.length
 ·exact ⟨[], by rw [if_pos (by simp [len]; omega), if_pos h4]⟩
 ·exact ⟨b' ++ [34], by rw [if_neg (by simp [len]; omega), if_neg h4, if_pos (by omega)]⟩
def Brr (d : List UInt8 × Bool × List Int) : Bool :=
 if d.2.1 = true then Ayc d.1 == 0 && d.2.2.length == 0 else d.1 == ([] : List UInt8) && d.2.2.length != 0 && d.2.2.all Amy
def B1g (l : Aar) : Prop := ∀ d, d ∈ l → d.1.length ≤ 1099511627776 ∧ d.2.2.length ≤ 1099511627776
theorem C38 {R : Type} (N : Nat) (v : Int) (K : Bool → Option R) : Ah6 N v K = K (!Amy v) := by
 simp only [Ah6, Bg6, B44]
theorem C39 {R : Type} (N : Nat) (l : List Int) (hl : l.length ≤ 1099511627776) (a : Int → Option R) (b : Option R) : ∀ (m k i : Nat), m < k → i + m = l.length →
  ∃ j : Nat, Ab0 N k l l.length i a b = if (l.drop i).all Amy then b else a j := by
 intro m
 induction m with
 | zero =>
  intro k i hk hi
  obtain ⟨k, rfl⟩ := exk hk
  refine ⟨0, ?_⟩
  simp only [Ab0, Apd]
  rw [if_neg (by simp; omega), List.drop_eq_nil_of_le (by omega)]
  simp
 | succ m ih =>
  intro k i hk hi
  obtain ⟨k, rfl⟩ := exk hk
  have hlt : i < l.length := by omega
  have hin : (0 : Int) ≤ i ∧ (i : Int) < len l := by simp only [len]; omega
  have hd : l.drop i = l[i] :: l.drop (i + 1) := List.drop_eq_getElem_cons hlt
  simp only [Ab0, Apd]
  rw [if_pos (by simp; omega), if_pos hin, Ad2 _ _ hlt, C38, Abh (by omega)]
  obtain ⟨j, hj⟩ := ih k (i + 1) (by omega) (by omega)
  rw [hj, hd, List.all_cons]
  by_cases h : Amy l[i] = true
  ·exact ⟨j, by simp [h]⟩
  ·exact ⟨i, by simp [h]⟩
theorem Cyv {R : Type} (N : Nat) (l : List Int) (hl : l.length ≤ 1099511627776) (hN : l.length < N) (K : Bool → Option R) : Abo N l K = K (!l.all Amy) := by
 simp only [Abo, Aso, Ae6, Au5, len]
 obtain ⟨j, hj⟩ := C39 N l hl (fun a => K (decide (a ≥ 0))) (K (decide ((-1 : Int) ≥ 0))) l.length N 0 hN (by omega)
 rw [show ((0 : Nat) : Int) = 0 from rfl] at hj
 rw [hj, List.drop_zero]
 by_cases h : l.all Amy = true
 ·simp [h]
 ·have h' : l.all Amy = false := by simpa using h
  simp only [h', Bool.false_eq_true, if_false, Bool.not_false]
  congr 1
theorem Cyw {R : Type} (N : Nat) (data : Aar) (hd : B1g data) (hl : data.length ≤ 2000) (hN : ∀ d, d ∈ data → d.1.length < N ∧ d.2.2.length < N) (nm : List UInt8) (dat : Aar) (ops : OpL) (gl : Aa5) (procs labels : Int) (a : Bool → Option R) (b : List UInt8 → Aar → OpL → Aa5 → Int → Int → Option R) :
  ∀ (m k i : Nat), m < k → i + m = data.length →
  Afu N k data data.length i nm dat ops gl procs labels a b = if (data.drop i).all Brr then b nm dat ops gl procs labels else a false := by
 intro m
 induction m with
 | zero =>
  intro k i hk hi
  obtain ⟨k, rfl⟩ := exk hk
  simp only [Afu, A6w]
  rw [if_neg (by simp; omega), List.drop_eq_nil_of_le (by omega)]
  simp
 | succ m ih =>
  intro k i hk hi
  obtain ⟨k, rfl⟩ := exk hk
  have hlt : i < data.length := by omega
  have hin : (0 : Int) ≤ i ∧ (i : Int) < len data := by simp only [len]; omega
  have hdr : data.drop i = data[i] :: data.drop (i + 1) := List.drop_eq_getElem_cons hlt
  simp only [Afu, A6w]
  rw [if_pos (by simp; omega), if_pos hin, Ad2 _ _ hlt, Abh (by omega), ih k (i + 1) (by omega) (by omega), hdr, List.all_cons]
  have h1 := hd data[i] (List.getElem_mem hlt)
  have h2 := hN data[i] (List.getElem_mem hlt)
  generalize data[i] = d at h1 h2
  by_cases ht : d.2.1 = true
  ·rw [if_pos ht]
   obtain ⟨r, hr⟩ := B87 N d.1 h1.1 h2.1
   rw [hr]
   simp only [Brr, if_pos ht, len]
   by_cases hq : Ayc d.1 = 0
   ·have hq' : (Ayc d.1 != 0) = false := by simp [hq]
    have hq2 : (Ayc d.1 == 0) = true := by simp [hq]
    rw [hq', hq2]
    by_cases hw : d.2.2.length = 0
    ·have e1 : (d.2.2.length == 0) = true := by simp [hw]
     have e2 : decide (((d.2.2.length : Nat) : Int) > 0) = false := by simp [hw]
     simp only [e1, e2, Bool.false_eq_true, if_false, if_true, Bool.true_and, Bool.and_true, Bool.false_and, Bool.and_false, Bool.not_true, Bool.not_false]
    ·have e1 : (d.2.2.length == 0) = false := by simp [hw]
     have e2 : decide (((d.2.2.length : Nat) : Int) > 0) = true := by simp; omega
     simp only [e1, e2, Bool.false_eq_true, if_false, if_true, Bool.true_and, Bool.and_true, Bool.false_and, Bool.and_false, Bool.not_true, Bool.not_false]
   ·have hq' : (Ayc d.1 != 0) = true := by simp [hq]
    have hq2 : (Ayc d.1 == 0) = false := by simp [hq]
    rw [hq', hq2]
    simp only [Bool.false_eq_true, if_false, if_true, Bool.true_and, Bool.and_true, Bool.false_and, Bool.and_false, Bool.not_true, Bool.not_false]
  ·rw [if_neg ht]
   simp only [Brr, if_neg ht, len]
   by_cases hq : (d.1 == ([] : List UInt8)) = true
   ·rw [hq]
    by_cases hw : d.2.2.length = 0
    ·have e1 : (((d.2.2.length : Nat) : Int) == 0) = true := by simp [hw]
     have e2 : (d.2.2.length != 0) = false := by simp [hw]
     simp only [e1, e2, Bool.false_eq_true, if_false, if_true, Bool.true_and, Bool.and_true, Bool.false_and, Bool.and_false, Bool.not_true, Bool.not_false]
    ·have hw' : (((d.2.2.length : Nat) : Int) == 0) = false := by
      rw [beq_eq_false_iff_ne]; omega
     have hw2 : (d.2.2.length != 0) = true := by simp [hw]
     rw [hw', hw2, Cyv N d.2.2 h1.2 h2.2]
     by_cases ha : d.2.2.all Amy = true
     ·simp only [ha, Bool.false_eq_true, if_false, if_true, Bool.true_and, Bool.and_true, Bool.false_and, Bool.and_false, Bool.not_true, Bool.not_false]
     ·have ha' : d.2.2.all Amy = false := by simpa using ha
      simp only [ha', Bool.false_eq_true, if_false, if_true, Bool.true_and, Bool.and_true, Bool.false_and, Bool.and_false, Bool.not_true, Bool.not_false]
   ·have hq' : (d.1 == ([] : List UInt8)) = false := by simpa using hq
    rw [hq']; simp only [Bool.false_eq_true, if_false, if_true, Bool.true_and, Bool.and_true, Bool.false_and, Bool.and_false, Bool.not_true, Bool.not_false]
theorem C2m {R : Type} (N : Nat) (i0 : Int) (nm : List UInt8) (dat : Aar) (ops : OpL) (gl : Aa5) (procs labels : Int) (tx : List UInt8) (is : Bool) (l : List Int) (hl : l.length ≤ 1099511627776) (a : Bool → Option R) (b : Int → List UInt8 → Aar → OpL → Aa5 → Int → Int → Option R) : ∀ (m k i : Nat), m < k → i + m = l.length →
  Adh N k i0 i nm dat ops gl procs labels tx is l a b = if (l.drop i).all Amy then b i0 nm dat ops gl procs labels else a false := by
 intro m
 induction m with
 | zero =>
  intro k i hk hi
  obtain ⟨k, rfl⟩ := exk hk
  simp only [Adh, A34]
  rw [if_neg (by simp [len]; omega), List.drop_eq_nil_of_le (by omega)]
  simp
 | succ m ih =>
  intro k i hk hi
  obtain ⟨k, rfl⟩ := exk hk
  have hlt : i < l.length := by omega
  have hin : (0 : Int) ≤ i ∧ (i : Int) < len l := by simp only [len]; omega
  have hd : l.drop i = l[i] :: l.drop (i + 1) := List.drop_eq_getElem_cons hlt
  simp only [Adh, A34]
  rw [if_pos (by simp [len]; omega), if_pos hin, Ad2 _ _ hlt, Atz, Abh (by omega), ih k (i + 1) (by omega) (by omega), hd, List.all_cons]
  have hw : inB l[i] (-2147483648) 2147483647 = Amy l[i] := rfl
  rw [hw]
  by_cases h : Amy l[i] = true
  ·simp only [h, Bool.not_true, Bool.false_eq_true, if_false, Bool.true_and]
  ·have h' : Amy l[i] = false := by simpa using h
   simp only [h', Bool.not_false, if_true, Bool.false_and, Bool.false_eq_true, if_false]
theorem Cyx {R : Type} (N : Nat) (data : Aar) (hd : B1g data) (hl : data.length ≤ 2000) (hN : ∀ d, d ∈ data → d.1.length < N ∧ d.2.2.length < N) (nm : List UInt8) (ops : OpL) (gl : Aa5) (procs labels : Int) (a : Bool → Option R) (b : List UInt8 → Aar → OpL → Aa5 → Int → Int → Option R) :
  ∀ (m k i : Nat), m < k → i + m = data.length →
  Adn N k i nm data ops gl procs labels a b = if (data.drop i).all Brr then b nm data ops gl procs labels else a false := by
 intro m
 induction m with
 | zero =>
  intro k i hk hi
  obtain ⟨k, rfl⟩ := exk hk
  simp only [Adn, A7g]
  rw [if_neg (by simp [len]; omega), List.drop_eq_nil_of_le (by omega)]
  simp
 | succ m ih =>
  intro k i hk hi
  obtain ⟨k, rfl⟩ := exk hk
  have hlt : i < data.length := by omega
  have hin : (0 : Int) ≤ i ∧ (i : Int) < len data := by simp only [len]; omega
  have hdr : data.drop i = data[i] :: data.drop (i + 1) := List.drop_eq_getElem_cons hlt
  simp only [Adn, A7g]
  rw [if_pos (by simp [len]; omega), if_pos hin, Ad2 _ _ hlt, hdr, List.all_cons]
  have h1 := hd data[i] (List.getElem_mem hlt)
  have h2 := hN data[i] (List.getElem_mem hlt)
  generalize data[i] = d at h1 h2
  by_cases ht : d.2.1 = true
  ·rw [if_pos ht]
   obtain ⟨r, hr⟩ := B1f N d.1 h1.1 h2.1 (fun p c => if (c != 0) = true then a false else if (decide (len d.2.2 > 0)) = true then a false else Adn N k (wi ((i : Int) + 1)) nm data ops gl procs labels a b)
   rw [hr, Abh (by omega), ih k (i + 1) (by omega) (by omega)]
   simp only [Brr, if_pos ht, len]
   by_cases hq : Ayc d.1 = 0
   ·have hq' : (Ayc d.1 != 0) = false := by simp [hq]
    have hq2 : (Ayc d.1 == 0) = true := by simp [hq]
    rw [hq', hq2]
    by_cases hw : d.2.2.length = 0
    ·have e1 : (d.2.2.length == 0) = true := by simp [hw]
     have e2 : decide (((d.2.2.length : Nat) : Int) > 0) = false := by simp [hw]
     simp only [e1, e2, Bool.false_eq_true, if_false, Bool.true_and]
    ·have e1 : (d.2.2.length == 0) = false := by simp [hw]
     have e2 : decide (((d.2.2.length : Nat) : Int) > 0) = true := by simp; omega
     simp only [e1, e2, Bool.false_eq_true, if_false, if_true, Bool.and_false, Bool.false_and]
   ·have hq' : (Ayc d.1 != 0) = true := by simp [hq]
    have hq2 : (Ayc d.1 == 0) = false := by simp [hq]
    rw [hq', hq2]
    simp only [if_true, Bool.false_and, Bool.false_eq_true, if_false]
  ·rw [if_neg ht]
   simp only [Brr, if_neg ht, len]
   by_cases hq : (d.1 == ([] : List UInt8)) = true
   ·rw [hq]
    by_cases hw : d.2.2.length = 0
    ·have e1 : (((d.2.2.length : Nat) : Int) == 0) = true := by simp [hw]
     have e2 : (d.2.2.length != 0) = false := by simp [hw]
     simp only [e1, e2, Bool.not_true, Bool.false_eq_true, if_false, if_true, Bool.and_false, Bool.false_and]
    ·have hw' : (((d.2.2.length : Nat) : Int) == 0) = false := by rw [beq_eq_false_iff_ne]; omega
     have hw2 : (d.2.2.length != 0) = true := by simp [hw]
     have hr := C2m N i nm data ops gl procs labels d.1 d.2.1 d.2.2 h1.2 (fun e => a e) (fun f g h j l n o => Adn N k (wi (f + 1)) g h j l n o a b) d.2.2.length N 0 h2.2 (by omega)
     rw [show ((0 : Nat) : Int) = 0 from rfl] at hr
     rw [hw', hw2, hr, List.drop_zero, Abh (by omega), ih k (i + 1) (by omega) (by omega)]
     by_cases ha : d.2.2.all Amy = true
     ·simp only [ha, Bool.not_true, Bool.false_eq_true, if_false, if_true, Bool.true_and]
     ·have ha' : d.2.2.all Amy = false := by simpa using ha
      simp only [ha', Bool.not_true, Bool.false_eq_true, if_false, Bool.and_false, Bool.false_and]
   ·have hq' : (d.1 == ([] : List UInt8)) = false := by simpa using hq
    rw [hq']; simp only [Bool.not_false, if_true, Bool.false_and, Bool.false_eq_true, if_false]
theorem Dbw {S : Type} (a b c d : Bool) (x y : S) : (if (!a) = true then y else if b = true then y else if (!c) = true then y else if d = true then x else y) = if (a && !b && c && d) = true then x else y := by
 cases a <;> cases b <;> cases c <;> cases d <;> rfl
def By9 (procs : Int) : List Int → Aa5 → Bool
 | _, [] => true
 | seen, e :: r => inB e.1 1 199 && !seen.contains e.1 && inB e.2 1 procs && By9 procs (e.1 :: seen) r
theorem C4a (k k' : Int) (l : List (Int × Bool)) : (Al3 (kt := .int .i64) (et := .bool) k (Asx (kt := .int .i64) (et := .bool) k' true l)).getD false = (k == k' || (Al3 (kt := .int .i64) (et := .bool) k l).getD false) := by
 induction l with
 | nil =>
  simp only [Asx, Al3, Ty.beq]
  cases h : (k == k') <;> simp
 | cons x l ih =>
  obtain ⟨a, b⟩ := x
  simp only [Asx, Ty.beq]
  cases h1 : (k' == a) with
  | true =>
   have := beq_iff_eq.1 h1
   subst this
   simp only [Al3, Ty.beq]
   cases h : (k == k') <;> simp
  | false =>
   simp only [Al3, Ty.beq]
   cases h2 : (k == a) with
   | true =>
    have := beq_iff_eq.1 h2
    subst this
    have : (k == k') = false := by
     rw [beq_eq_false_iff_ne] at h1 ⊢
     exact fun h => h1 h.symm
    simp [this]
   | false => simpa using ih
theorem C6x {R : Type} (N : Nat) (gl : Aa5) (hl : gl.length ≤ 1099511627776) (nm : List UInt8) (dat : Aar) (ops : OpL) (gl2 : Aa5) (procs labels : Int) (a : Bool → Option R) (b : Option R) :
  ∀ (m k i : Nat) (seen : List Int) (mp : List (Int × Bool)), m < k → i + m = gl.length → (∀ x, (Al3 (kt := .int .i64) (et := .bool) x mp).getD false = seen.contains x) →
  Aey N k gl gl.length i nm dat ops gl2 procs labels mp a b = if By9 procs seen (gl.drop i) then b else a false := by
 intro m
 induction m with
 | zero =>
  intro k i seen mp hk hi hm
  obtain ⟨k, rfl⟩ := exk hk
  simp only [Aey, A3j]
  rw [if_neg (by simp; omega), List.drop_eq_nil_of_le (by omega)]
  simp [By9]
 | succ m ih =>
  intro k i seen mp hk hi hm
  obtain ⟨k, rfl⟩ := exk hk
  have hlt : i < gl.length := by omega
  have hin : (0 : Int) ≤ i ∧ (i : Int) < len gl := by simp only [len]; omega
  have hd : gl.drop i = gl[i] :: gl.drop (i + 1) := List.drop_eq_getElem_cons hlt
  simp only [Aey, A3j]
  rw [if_pos (by simp; omega), if_pos hin, Ad2 _ _ hlt, A5s, A5s, Abh (by omega), hd]
  rw [ih k (i + 1) (gl[i].1 :: seen) _ (by omega) (by omega) (fun x => by rw [C4a, hm, List.contains_cons])]
  rw [hm]
  simp only [By9]
  exact Dbw _ _ _ _ _ _
theorem C6y {R : Type} (N : Nat) (i : Nat) (nm : List UInt8) (dat : Aar) (ops : OpL) (gl : Aa5) (procs labels g1 g2 : Int) (hl : gl.length ≤ 1099511627776) (hi : i ≤ gl.length) (a : Bool → Option R) (b : Int → List UInt8 → Aar → OpL → Aa5 → Int → Int → Option R) :
  ∀ (m k j : Nat), m < k → j + m = i →
  Adi N k i j nm dat ops gl procs labels g1 g2 a b = if ((gl.take i).drop j).any (fun e => e.1 == g1) then a false else b i nm dat ops gl procs labels := by
 intro m
 induction m with
 | zero =>
  intro k j hk hj
  obtain ⟨k, rfl⟩ := exk hk
  simp only [Adi, A35]
  rw [if_neg (by simp; omega), List.drop_eq_nil_of_le (by simp; omega)]
  simp
 | succ m ih =>
  intro k j hk hj
  obtain ⟨k, rfl⟩ := exk hk
  have hlt : j < gl.length := by omega
  have hin : (0 : Int) ≤ j ∧ (j : Int) < len gl := by simp only [len]; omega
  have hlt2 : j < (gl.take i).length := by simp; omega
  have hd : (gl.take i).drop j = gl[j] :: (gl.take i).drop (j + 1) := by
   rw [List.drop_eq_getElem_cons hlt2]; simp
  simp only [Adi, A35]
  rw [if_pos (by simp; omega), if_pos hin, Ad2 _ _ hlt, Abh (by omega), ih k (j + 1) (by omega) (by omega), hd, List.any_cons]
  by_cases h : (gl[j].1 == g1) = true
  ·simp only [h, if_true, Bool.true_or]
  ·have h' : (gl[j].1 == g1) = false := by simpa using h
   simp only [h', Bool.false_eq_true, if_false, Bool.false_or]
theorem C88 {S : Type} (a b c d : Bool) (x y : S) : (if (!a) = true then y else if (!c) = true then y else if b = true then y else if d = true then x else y) = if (a && !b && c && d) = true then x else y := by
 cases a <;> cases b <;> cases c <;> cases d <;> rfl
theorem C4b {R : Type} (N : Nat) (gl : Aa5) (hl : gl.length < N) (hl2 : gl.length ≤ 1099511627776) (nm : List UInt8) (dat : Aar) (ops : OpL) (procs labels : Int) (a : Bool → Option R) (b : List UInt8 → Aar → OpL → Aa5 → Int → Int → Option R) :
  ∀ (m k i : Nat) (seen : List Int), m < k → i + m = gl.length → (∀ x, (gl.take i).any (fun e => e.1 == x) = seen.contains x) →
  Acw N k i nm dat ops gl procs labels a b = if By9 procs seen (gl.drop i) then b nm dat ops gl procs labels else a false := by
 intro m
 induction m with
 | zero =>
  intro k i seen hk hi hm
  obtain ⟨k, rfl⟩ := exk hk
  simp only [Acw, A36]
  rw [if_neg (by simp [len]; omega), List.drop_eq_nil_of_le (by omega)]
  simp [By9]
 | succ m ih =>
  intro k i seen hk hi hm
  obtain ⟨k, rfl⟩ := exk hk
  have hlt : i < gl.length := by omega
  have hin : (0 : Int) ≤ i ∧ (i : Int) < len gl := by simp only [len]; omega
  have hd : gl.drop i = gl[i] :: gl.drop (i + 1) := List.drop_eq_getElem_cons hlt
  simp only [Acw, A36]
  rw [if_pos (by simp [len]; omega), if_pos hin, Ad2 _ _ hlt, Atz, Atz]
  have hdup := C6y N i nm dat ops gl procs labels gl[i].1 gl[i].2 hl2 (by omega) (fun c => a c) (fun d f g h j l n => Acw N k (wi (d + 1)) f g h j l n a b) i N 0 (by omega) (by omega)
  rw [show ((0 : Nat) : Int) = 0 from rfl] at hdup
  rw [hdup, List.drop_zero, Abh (by omega), hm, hd]
  rw [ih k (i + 1) (gl[i].1 :: seen) (by omega) (by omega) (fun x => by
   rw [List.take_succ_eq_append_getElem hlt, List.any_append, hm, List.contains_cons]
   simp only [List.any_cons, List.any_nil, Bool.or_false]
   rw [Bool.or_comm]
   congr 1
   exact BEq.comm)]
  simp only [By9]
  exact C88 _ _ _ _ _ _
def Bvp (data : Aar) (gl : Aa5) (procs : Int) : Bool := data.all Brr && By9 procs [] gl
theorem Com {R : Type} (N : Nat) (nm : List UInt8) (data : Aar) (ops : OpL) (gl : Aa5) (procs labels : Int) (hd : B1g data) (hl : data.length ≤ 2000) (hN : ∀ d, d ∈ data → d.1.length < N ∧ d.2.2.length < N) (hN2 : 2000 < N) (hg : gl.length < N) (hg2 : gl.length ≤ 1099511627776) (K : Bool → Option R) :
  Agk N nm data ops gl procs labels K = K (Bvp data gl procs) := by
 simp only [Agk, Boj, len]
 have h1 := Cyw N data hd hl hN nm data ops gl procs labels (fun c => K c) (fun e f g a h i => Aey N N a ((a.length : Nat) : Int) 0 e f g a h i [] (fun b => K b) (K true)) data.length N 0 (by omega) (by omega)
 have h2 := C6x N gl hg2 nm data ops gl procs labels (fun b => K b) (K true) gl.length N 0 [] [] hg (by omega) (fun x => rfl)
 rw [show ((0 : Nat) : Int) = 0 from rfl] at h1 h2
 rw [h1, List.drop_zero]
 simp only [h2, List.drop_zero, Bvp]
 cases data.all Brr <;> cases By9 procs [] gl <;> rfl
theorem Con {R : Type} (N : Nat) (nm : List UInt8) (data : Aar) (ops : OpL) (gl : Aa5) (procs labels : Int) (hd : B1g data) (hl : data.length ≤ 2000) (hN : ∀ d, d ∈ data → d.1.length < N ∧ d.2.2.length < N) (hN2 : 2000 < N) (hg : gl.length < N) (hg2 : gl.length ≤ 1099511627776) (hn : nm.length < N) (hn2 : nm.length ≤ 1099511627776) (K : Bool → Option R) :
  Akl N nm data ops gl procs labels K = K (Bvp data gl procs && Ayc nm == 0) := by
 simp only [Akl, Bpi]
 have h1 := Cyx N data hd hl hN nm ops gl procs labels (fun f => K f) (fun g h i j l m => Acw N N 0 g h i j l m (fun b => K b) fun c n o p q s => Aec N c fun e a => K (a == 0)) data.length N 0 (by omega) (by omega)
 have h2 := C4b N gl hg hg2 nm data ops procs labels (fun b => K b) (fun c n o p q s => Aec N c fun e a => K (a == 0)) gl.length N 0 [] hg (by omega) (fun x => rfl)
 obtain ⟨r, h3⟩ := B1f N nm hn2 hn (fun e a => K (a == 0))
 rw [show ((0 : Nat) : Int) = 0 from rfl] at h1 h2
 rw [h1, List.drop_zero]
 simp only [h2, List.drop_zero, Bvp, h3]
 cases data.all Brr <;> cases By9 procs [] gl <;> rfl
def Ab8 (l : OpL) (i : Nat) : Int × Int × Int := l.getD i (0, 0, 0)
def Akb (op : Int) : Bool := op != 20 && op != 25 && op != 26 && op != 27 && op != 29 && op != 30
def Afp : OpL → Option Int
 | [] => none
 | o :: _ => some o.1
def A9z (o : Int × Int × Int) (r : OpL) : Bool :=
 (o.1 != 19 || (Afp r == some 18 || Afp r == some 28 || Afp r == some 19)) && (!Akb o.1 || (Afp r != none && Afp r != some 24))
def Ag1 : Nat → OpL → Bool
 | c, [] => c == 0
 | c + 1, o :: r => o.1 == 30 && Ag1 c r
 | 0, o :: r => o.1 != 30 && (if o.1 = 29 then Ag1 o.2.2.toNat r else A9z o r && Ag1 0 r)
def Asv (c : Nat) (s : OpL) : Bool := decide (c ≤ s.length) && (s.take c).all fun o => o.1 == 30
theorem Cko : ∀ (c : Nat) (s : OpL), Ag1 c s = (Asv c s && Ag1 0 (s.drop c))
 | 0, s => by simp [Asv]
 | c + 1, [] => by simp [Asv, Ag1]
 | c + 1, o :: r => by
  have h : Asv (c + 1) (o :: r) = (o.1 == 30 && Asv c r) := by
   simp only [Asv, List.length_cons, List.take_succ_cons, List.all_cons]
   have : decide (c + 1 ≤ r.length + 1) = decide (c ≤ r.length) := by simp
   rw [this]
   cases decide (c ≤ r.length) <;> cases (o.1 == 30) <;> simp
  rw [Ag1, Cko c r, h, List.drop_succ_cons, Bool.and_assoc]
theorem Cpo {α : Type} (l : List α) (i j : Nat) (d : α) : (l.drop i).getD j d = l.getD (i + j) d := by
 simp [List.getD_eq_getElem?_getD]
theorem Cyy (l : OpL) (i : Nat) : Afp (l.drop i) = if i < l.length then some (l.getD i (0, 0, 0)).1 else none := by
 by_cases h : i < l.length
 ·rw [if_pos h, List.drop_eq_getElem_cons h]
  simp [Afp, h]
 ·rw [if_neg h, List.drop_eq_nil_of_le (by omega)]; rfl
theorem C4c {R : Type} (N : Nat) (l : OpL) (i M : Nat) (hl : l.length ≤ 1099511627776) (hM : M ≤ 1000) (hi : i < l.length) (a : Bool → Option R) (b : OpL → Int → Option R) :
  ∀ (m k j : Nat), m < k → j + m = M →
  Aed N k l i M j a b = if Asv (M - j) (l.drop (i + 1 + j)) then b l i else a false := by
 intro m
 induction m with
 | zero =>
  intro k j hk hj
  obtain ⟨k, rfl⟩ := exk hk
  simp only [Aed, A3i]
  rw [if_neg (by simp; omega), show M - j = 0 by omega]
  simp [Asv]
 | succ m ih =>
  intro k j hk hj
  obtain ⟨k, rfl⟩ := exk hk
  simp only [Aed, A3i]
  rw [if_pos (by simp; omega), Abh (by omega)]
  have e1 : wi (((i + 1 : Nat) : Int) + (j : Int)) = ((i + 1 + j : Nat) : Int) := by simp only [wi]; rw [w64 (by omega)]; omega
  rw [e1, Abh (by omega)]
  simp only [len]
  by_cases h : i + 1 + j < l.length
  ·rw [if_neg (by simp; omega), if_pos (by omega), Ad2 _ _ h, ih k (j + 1) (by omega) (by omega)]
   have hd : l.drop (i + 1 + j) = l[i + 1 + j] :: l.drop (i + 1 + (j + 1)) := List.drop_eq_getElem_cons h
   have hc : Asv (M - j) (l.drop (i + 1 + j)) = (l[i + 1 + j].1 == 30 && Asv (M - (j + 1)) (l.drop (i + 1 + (j + 1)))) := by
    rw [hd, show M - j = (M - (j + 1)) + 1 by omega]
    simp only [Asv, List.length_cons, List.take_succ_cons, List.all_cons]
    have : decide (M - (j + 1) + 1 ≤ (l.drop (i + 1 + (j + 1))).length + 1) = decide (M - (j + 1) ≤ (l.drop (i + 1 + (j + 1))).length) := by simp
    rw [this]
    cases decide (M - (j + 1) ≤ (l.drop (i + 1 + (j + 1))).length) <;> cases (l[i + 1 + j].1 == 30) <;> simp
   rw [hc]
   by_cases h30 : l[i + 1 + j].1 = 30
   ·simp [h30]
   ·have h2 : (l[i + 1 + j].1 == 30) = false := by simpa using h30
    have h3 : (l[i + 1 + j].1 != 30) = true := by simpa using h30
    simp only [h2, h3, if_true, Bool.false_and, Bool.false_eq_true, if_false]
  ·rw [if_pos (by simp; omega)]
   have hc : Asv (M - j) (l.drop (i + 1 + j)) = false := by
    simp only [Asv, Bool.and_eq_false_iff]
    left; simp; omega
   rw [hc]; simp
def A0b (l : OpL) (i : Nat) : Bool :=
 let o := Ab8 l i
 if o.1 = 20 ∨ o.1 = 25 ∨ o.1 = 26 ∨ o.1 = 27 then true
 else if o.1 = 29 then o.2.2 == 0
 else if o.1 = 30 then decide (i + 1 = l.length) || (Ab8 l (i + 1)).1 != 30
 else false
theorem B45 {R : Type} (N : Nat) (l : OpL) (i : Nat) (hl : l.length ≤ 1099511627776) (hi : i < l.length) (K : Bool → Option R) : Ac2 N l i K = K (A0b l i) := by
 simp only [Ac2, Bth, Ag2, A0b, Ab8]
 have hin : (0 : Int) ≤ i ∧ (i : Int) < len l := by simp only [len]; omega
 rw [if_pos hin, show Int.toNat (i : Int) = i from by simp]
 obtain ⟨o, ho⟩ : ∃ o, l.getD i (0, 0, 0) = o := ⟨_, rfl⟩
 simp only [ho, if_pos hin]
 by_cases h1 : o.1 = 20
 ·simp [h1]
 by_cases h2 : o.1 = 25
 ·simp [h2]
 by_cases h3 : o.1 = 26
 ·simp [h3]
 by_cases h4 : o.1 = 27
 ·simp [h4]
 rw [if_neg (by simpa using h1), if_neg (by simpa using h2), if_neg (by simpa using h3), if_neg (by simpa using h4), if_neg (show ¬ (o.1 = 20 ∨ o.1 = 25 ∨ o.1 = 26 ∨ o.1 = 27) by omega)]
 by_cases h5 : o.1 = 29
 ·rw [if_pos (by simpa using h5), if_pos h5]
 rw [if_neg (by simpa using h5), if_neg h5]
 by_cases h6 : o.1 = 30
 ·rw [if_pos (by simpa using h6), if_pos h6, Abh (by omega)]
  by_cases h7 : i + 1 = l.length
  ·rw [if_pos (by simp only [len, beq_iff_eq]; omega)]; simp [h7]
  ·rw [if_neg (by simp only [len, beq_iff_eq]; omega), if_pos (by simp only [len]; omega)]
   simp [h7]
 ·rw [if_neg (by simpa using h6), if_neg h6]
theorem Ckp {R : Type} (N : Nat) (l : OpL) (i : Nat) (last : Bool) (hl : l.length ≤ 1099511627776) (hi : i < l.length) (hlast : last = decide (i + 1 = l.length)) (a : Bool → Option R) (b : OpL → Int → Option R) :
  Acn N l i last a b = if (last || (Ab8 l (i + 1)).1 == 24) && !A0b l i then a false else b l i := by
 simp only [Acn, Bef, B45 N l i hl hi]
 cases last with
 | true =>
  simp only [if_true, Bool.true_or, Bool.true_and]
 | false =>
  have hne : i + 1 ≠ l.length := by simpa using hlast.symm
  simp only [Bool.false_eq_true, if_false, Bool.false_or]
  rw [Abh (by omega), if_pos (by simp only [len]; omega)]
  have : l.getD (Int.toNat ((i + 1 : Nat) : Int)) (0, 0, 0) = Ab8 l (i + 1) := by simp [Ab8]
  rw [this]
  cases h : ((Ab8 l (i + 1)).1 == 24) with
  | true => simp only [if_true, Bool.true_and]
  | false => simp only [Bool.false_eq_true, if_false, Bool.false_and]
theorem A5t {l : OpL} {i : Nat} (h : i < l.length) : Ab8 l i = l[i] := by simp [Ab8, List.getD_eq_getElem?_getD, h]
theorem B89 {l : OpL} {i : Nat} : Afp (l.drop i) = if i < l.length then some (Ab8 l i).1 else none := by
 rw [Cyy]; rfl
theorem C4d {c : Nat} {s : OpL} (h : Asv c s = true) : c ≤ s.length ∧ ∀ j, j < c → (Ab8 s j).1 = 30 := by
 simp only [Asv, Bool.and_eq_true, decide_eq_true_eq, List.all_eq_true, beq_iff_eq] at h
 refine ⟨h.1, fun j hj => ?_⟩
 have hjl : j < s.length := by omega
 rw [A5t hjl]
 exact h.2 _ (by
  rw [List.mem_take_iff_getElem]
  exact ⟨j, by omega, rfl⟩)
theorem C2n {R : Type} (N : Nat) (l : OpL) (hl : l.length ≤ 1099511627776) (hN : 1000 < N) (hM : ∀ o, o ∈ l → o.1 = 29 → 0 ≤ o.2.2 ∧ o.2.2 ≤ 1000) (d : Bool → Option R) (e : OpL → Option R) :
  ∀ (k i : Nat), i ≤ l.length → l.length - i < k → Ad6 N k l i d e = if Ag1 0 (l.drop i) then e l else d false := by
 intro k
 induction k with
 | zero => intro i _ h; omega
 | succ k ih =>
  intro i hi hk
  simp only [Ad6, Bg3]
  by_cases hlt : i < l.length
  case neg =>
   rw [if_neg (by simp [len]; omega), List.drop_eq_nil_of_le (by omega)]
   simp [Ag1]
  have hin : (0 : Int) ≤ i ∧ (i : Int) < len l := by simp only [len]; omega
  have hd : l.drop i = l[i] :: l.drop (i + 1) := List.drop_eq_getElem_cons hlt
  have hM' := hM l[i] (List.getElem_mem hlt)
  have hoi : Ab8 l i = l[i] := A5t hlt
  rw [if_pos (by simp [len]; omega), if_pos hin, Ad2 _ _ hlt, Abh (by omega), hd]
  simp only [if_pos hin]
  obtain ⟨o, ho⟩ : ∃ o, l[i] = o := ⟨_, rfl⟩
  simp only [ho] at hM' hoi ⊢
  by_cases h29 : o.1 = 29
  ·-- a switch
   rw [if_pos (by simpa using h29)]
   obtain ⟨M, hMe⟩ := Int.eq_ofNat_of_zero_le (hM' h29).1
   have hMle : M ≤ 1000 := by have := (hM' h29).2; omega
   have hcl := C4c N l i M hl hMle hlt (fun m => d m) (fun c b =>
    if 0 ≤ b ∧ b < len c then
     if (!wi (wi (b + (List.getD c (Int.toNat b) (0, 0, 0)).2.2) + 1) == len c) = true then
      if 0 ≤ wi (wi (b + (List.getD c (Int.toNat b) (0, 0, 0)).2.2) + 1) ∧ wi (wi (b + (List.getD c (Int.toNat b) (0, 0, 0)).2.2) + 1) < len c then
       if ((List.getD c (Int.toNat (wi (wi (b + (List.getD c (Int.toNat b) (0, 0, 0)).2.2) + 1))) (0, 0, 0)).1 == 30) = true then d false
       else Acn N c (wi (b + (List.getD c (Int.toNat b) (0, 0, 0)).2.2)) (wi (wi (b + (List.getD c (Int.toNat b) (0, 0, 0)).2.2) + 1) == len c) (fun f => d f) fun g j => Ad6 N k g (wi (j + 1)) d e
      else none
     else Acn N c (wi (b + (List.getD c (Int.toNat b) (0, 0, 0)).2.2)) (wi (wi (b + (List.getD c (Int.toNat b) (0, 0, 0)).2.2) + 1) == len c) (fun n => d n) fun p q => Ad6 N k p (wi (q + 1)) d e
    else none) M N 0 (by omega) (by omega)
   rw [show ((0 : Nat) : Int) = 0 from rfl] at hcl
   rw [hMe, hcl, Nat.sub_zero, Nat.add_zero]
   have hord : Ag1 0 (o :: l.drop (i + 1)) = (Asv M (l.drop (i + 1)) && Ag1 0 (l.drop (i + 1 + M))) := by
    rw [Ag1, if_pos h29, hMe, Int.toNat_natCast, Cko, List.drop_drop]
    simp [h29]
   rw [hord]
   by_cases hc : Asv M (l.drop (i + 1)) = true
   case neg =>
    have hc' : Asv M (l.drop (i + 1)) = false := by simpa using hc
    simp only [hc', Bool.false_eq_true, if_false, Bool.false_and]
   obtain ⟨c1, c2⟩ := C4d hc
   have c1 : M ≤ l.length - (i + 1) := by simpa using c1
   simp only [hc, if_true, Bool.true_and, if_pos hin, Ad2 _ _ hlt, ho, hMe]
   have e1 : wi ((i : Int) + (M : Int)) = ((i + M : Nat) : Int) := by simp only [wi]; rw [w64 (by omega)]; omega
   rw [e1, Abh (by omega)]
   have hends : (¬ i + M + 1 < l.length ∨ (Ab8 l (i + M + 1)).1 ≠ 30) → A0b l (i + M) = true := by
    intro hh
    unfold A0b
    cases M with
    | zero =>
     rw [Nat.add_zero] at hh ⊢
     simp only [hoi, h29, hMe]
     simp
    | succ M =>
     have h30 : (Ab8 l (i + (M + 1))).1 = 30 := by
      have := c2 M (by omega)
      unfold Ab8 at this ⊢
      rw [Cpo] at this
      rw [show i + (M + 1) = i + 1 + M by omega]; exact this
     simp only [h30]
     rcases hh with hh | hh
     ·simp; omega
     ·simp; omega
   have fin : ∀ last : Bool, last = decide (i + M + 1 = l.length) → (¬ i + M + 1 < l.length ∨ (Ab8 l (i + M + 1)).1 ≠ 30) → Acn N l ((i + M : Nat) : Int) last (fun f => d f) (fun g j => Ad6 N k g (wi (j + 1)) d e) = if Ag1 0 (l.drop (i + 1 + M)) = true then e l else d false := by
    intro last hlast hh
    rw [Ckp N l (i + M) last hl (by omega) hlast, hends hh]
    simp only [Bool.not_true, Bool.and_false, Bool.false_eq_true, if_false]
    rw [Abh (by omega), ih (i + M + 1) (by omega) (by omega), show i + M + 1 = i + 1 + M by omega]
   by_cases hlast : i + M + 1 = l.length
   ·have hb : ((((i + M + 1 : Nat) : Int)) == len l) = true := by simp only [len, beq_iff_eq]; omega
    rw [hb]
    simp only [Bool.not_true, Bool.false_eq_true, if_false]
    exact fin true (by simp [hlast]) (.inl (by omega))
   ·have hb : ((((i + M + 1 : Nat) : Int)) == len l) = false := by
     rw [beq_eq_false_iff_ne]; simp only [len]; omega
    rw [hb]
    simp only [Bool.not_false, if_true]
    rw [if_pos (by simp only [len]; omega)]
    have hg : l.getD (Int.toNat ((i + M + 1 : Nat) : Int)) (0, 0, 0) = Ab8 l (i + M + 1) := by
     unfold Ab8; rw [Int.toNat_natCast]
    rw [hg]
    by_cases h30 : (Ab8 l (i + M + 1)).1 = 30
    ·rw [if_pos (by simpa using h30)]
     have hlt2 : i + 1 + M < l.length := by omega
     have : Ag1 0 (l.drop (i + 1 + M)) = false := by
      rw [List.drop_eq_getElem_cons hlt2, Ag1, ← A5t hlt2, show i + 1 + M = i + M + 1 by omega]
      simp [h30]
     rw [this]; simp
    ·rw [if_neg (by simpa using h30)]
     exact fin false (by simp [hlast]) (.inr h30)
  rw [if_neg (by simpa using h29)]
  by_cases h30 : o.1 = 30
  ·rw [if_pos (by simpa using h30)]
   simp [Ag1, h30]
  rw [if_neg (by simpa using h30)]
  have hord : Ag1 0 (o :: l.drop (i + 1)) = (A9z o (l.drop (i + 1)) && Ag1 0 (l.drop (i + 1))) := by
   rw [Ag1, if_neg h29]; simp [h30]
  rw [hord]
  have hhead : Afp (l.drop (i + 1)) = if i + 1 < l.length then some (Ab8 l (i + 1)).1 else none := B89
  have hlb : ((((i + 1 : Nat) : Int)) == len l) = decide (i + 1 = l.length) := by
   rw [Bool.eq_iff_iff]; simp only [len, beq_iff_eq, decide_eq_true_eq]; omega
  have hends : A0b l i = !Akb o.1 := by
   unfold A0b Akb
   rw [hoi]
   by_cases a1 : o.1 = 20
   ·simp [a1]
   by_cases a2 : o.1 = 25
   ·simp [a2]
   by_cases a3 : o.1 = 26
   ·simp [a3]
   by_cases a4 : o.1 = 27
   ·simp [a4]
   have b1 : (o.1 != 20) = true := by simpa using a1
   have b2 : (o.1 != 25) = true := by simpa using a2
   have b3 : (o.1 != 26) = true := by simpa using a3
   have b4 : (o.1 != 27) = true := by simpa using a4
   have b5 : (o.1 != 29) = true := by simpa using h29
   have b6 : (o.1 != 30) = true := by simpa using h30
   rw [if_neg (by omega), if_neg h29, if_neg h30, b1, b2, b3, b4, b5, b6]; rfl
  have fin : o.1 ≠ 19 ∨ (i + 1 < l.length ∧ ((Ab8 l (i + 1)).1 = 18 ∨ (Ab8 l (i + 1)).1 = 28 ∨ (Ab8 l (i + 1)).1 = 19)) →
    Acn N l (i : Int) (decide (i + 1 = l.length)) (fun r => d r) (fun s t => Ad6 N k s (wi (t + 1)) d e) = if (A9z o (l.drop (i + 1)) && Ag1 0 (l.drop (i + 1))) = true then e l else d false := by
   intro hh
   rw [Ckp N l i _ hl hlt rfl, Abh (by omega), ih (i + 1) (by omega) (by omega), hends, Bool.not_not]
   have hs : A9z o (l.drop (i + 1)) = !((decide (i + 1 = l.length) || (Ab8 l (i + 1)).1 == 24) && Akb o.1) := by
    unfold A9z
    rw [hhead]
    have h19 : (o.1 != 19 || ((if i + 1 < l.length then some (Ab8 l (i + 1)).1 else none) == some 18 || (if i + 1 < l.length then some (Ab8 l (i + 1)).1 else none) == some 28 || (if i + 1 < l.length then some (Ab8 l (i + 1)).1 else none) == some 19)) = true := by
     rcases hh with hh | ⟨hh, h2⟩
     ·simp [hh]
     ·rw [if_pos hh]
      rcases h2 with h2 | h2 | h2 <;> simp [h2]
    rw [h19, Bool.true_and]
    by_cases hl1 : i + 1 < l.length
    ·have : decide (i + 1 = l.length) = false := by simp; omega
     rw [this, if_pos hl1]
     by_cases h24 : (Ab8 l (i + 1)).1 = 24
     ·simp [h24]
     ·have h24' : ((Ab8 l (i + 1)).1 == 24) = false := by simpa using h24
      simp [h24, h24']
    ·have : decide (i + 1 = l.length) = true := by simp; omega
     rw [this, if_neg hl1]
     simp
   rw [hs]
   cases (decide (i + 1 = l.length) || (Ab8 l (i + 1)).1 == 24) && Akb o.1 <;> simp
  simp only [hlb]
  by_cases h19 : o.1 = 19
  ·rw [if_pos (by simpa using h19)]
   by_cases hl1 : i + 1 = l.length
   ·have hx : decide (i + 1 = l.length) = true := by simp [hl1]
    have hs : A9z o (l.drop (i + 1)) = false := by
     unfold A9z
     rw [hhead, if_neg (by omega), h19]; rfl
    rw [hx, hs]; simp
   ·have hx : decide (i + 1 = l.length) = false := by simp [hl1]
    have hlt1 : i + 1 < l.length := by omega
    have hg : l.getD (Int.toNat ((i + 1 : Nat) : Int)) (0, 0, 0) = Ab8 l (i + 1) := by
     unfold Ab8; rw [Int.toNat_natCast]
    have hin1 : (0 : Int) ≤ ((i + 1 : Nat) : Int) ∧ ((i + 1 : Nat) : Int) < len l := by simp only [len]; omega
    rw [hx] at fin ⊢
    simp only [Bool.false_eq_true, if_false, if_pos hin1, hg]
    have hs : ((Ab8 l (i + 1)).1 ≠ 18 ∧ (Ab8 l (i + 1)).1 ≠ 28 ∧ (Ab8 l (i + 1)).1 ≠ 19) → A9z o (l.drop (i + 1)) = false := by
     intro ⟨a1, a2, a3⟩
     unfold A9z
     rw [hhead, if_pos hlt1, h19]
     have b1 : (some (Ab8 l (i + 1)).1 == some 18) = false := by simpa using a1
     have b2 : (some (Ab8 l (i + 1)).1 == some 28) = false := by simpa using a2
     have b3 : (some (Ab8 l (i + 1)).1 == some 19) = false := by simpa using a3
     rw [b1, b2, b3]; rfl
    by_cases a1 : (Ab8 l (i + 1)).1 = 18
    ·rw [if_neg (by simpa using a1)]; exact fin (.inr ⟨hlt1, .inl a1⟩)
    rw [if_pos (by simpa using a1)]
    by_cases a2 : (Ab8 l (i + 1)).1 = 28
    ·rw [if_neg (by simpa using a2)]; exact fin (.inr ⟨hlt1, .inr (.inl a2)⟩)
    rw [if_pos (by simpa using a2)]
    by_cases a3 : (Ab8 l (i + 1)).1 = 19
    ·rw [if_neg (by simpa using a3)]; exact fin (.inr ⟨hlt1, .inr (.inr a3)⟩)
    rw [if_pos (by simpa using a3), hs ⟨a1, a2, a3⟩]
    simp
  ·rw [if_neg (by simpa using h19)]
   exact fin (.inl h19)
def An5 (l : OpL) : Bool := Afp l == none || Afp l == some 24
theorem Coo {R : Type} (N : Nat) (l : OpL) (hl : l.length < N) (hl2 : l.length ≤ 1099511627776) (hN : 1000 < N) (hM : ∀ o, o ∈ l → o.1 = 29 → 0 ≤ o.2.2 ∧ o.2.2 ≤ 1000) (K : Bool → Option R) :
  Agj N l K = K (Ag1 0 l && An5 l) := by
 simp only [Agj, Bof]
 have h := C2n N l hl2 hN hM (fun b => K b) (fun a => if (len a == 0) = true then K true else if (0 : Int) ≤ 0 ∧ 0 < len a then K ((List.getD a 0 (0, 0, 0)).1 == 24) else none) N 0 (by omega) (by omega)
 rw [show ((0 : Nat) : Int) = 0 from rfl] at h
 rw [h, List.drop_zero]
 cases Ag1 0 l with
 | false => simp
 | true =>
  simp only [if_true, Bool.true_and]
  cases l with
  | nil => simp [len, An5, Afp]
  | cons o r =>
   rw [if_neg (by simp only [len, List.length_cons, beq_iff_eq]; omega), if_pos (by simp only [len, List.length_cons]; omega)]
   simp [An5, Afp]
theorem Ac8 {i : Int} (h1 : -4611686018427387904 < i) (h2 : i < 4611686018427387904) : wi i = i := by
 simp only [wi]; exact w64 (by omega)
def plF : Nat → OpL → Int → Int → List Int → List Int → Option (Int × Int × List Int × List Int)
 | _, [], p, m, o, a => some (p, m, o, a)
 | i, x :: r, p, m, o, a =>
  if x.1 = 24 then (if x.2.1 = p + 1 then plF (i + 1) r (p + 1) m o a else none)
  else if x.1 = 19 then
   (if a.getD x.2.1.toNat 0 ≠ 0 ∨ p = 0 then none
    else plF (i + 1) r p (if x.2.1 > m then x.2.1 else m) (o.set x.2.1.toNat i) (a.set x.2.1.toNat p))
  else plF (i + 1) r p m o a
theorem Cyz {R : Type} (N : Nat) (nm : List UInt8) (dat : Aar) (l : OpL) (gl : Aa5) (procs labels : Int) (hl : l.length ≤ 1099511627776)
  (hL : ∀ o, o ∈ l → o.1 = 19 → 1 ≤ o.2.1 ∧ o.2.1 ≤ labels) (b : Bool → List Int → List Int → Option R)
  (c : Int → Int → List UInt8 → Aar → OpL → Aa5 → Int → Int → List Int → List Int → Option R) :
  ∀ (k i : Nat) (p m : Int) (o a : List Int), i ≤ l.length → l.length - i < k → 0 ≤ p → p ≤ i → (o.length : Int) = labels + 1 → (a.length : Int) = labels + 1 →
   Agw N k p m l (len l) i nm dat l gl procs labels o a b c =
    match plF i (l.drop i) p m o a with
    | none => b false [] []
    | some (p', m', o', a') => c p' m' nm dat l gl procs labels o' a' := by
 intro k
 induction k with
 | zero => intro i _ _ _ _ _ h; omega
 | succ k ih =>
  intro i p m o a hi hk hp hpi ho ha
  simp only [Agw, Bea]
  by_cases hlt : i < l.length
  case neg =>
   rw [if_neg (by simp [len]; omega), List.drop_eq_nil_of_le (by omega)]
   simp [plF]
  have hin : (0 : Int) ≤ i ∧ (i : Int) < len l := by simp only [len]; omega
  have hd : l.drop i = l[i] :: l.drop (i + 1) := List.drop_eq_getElem_cons hlt
  have hL' := hL l[i] (List.getElem_mem hlt)
  rw [if_pos (by simp [len]; omega), if_pos hin, Ad2 _ _ hlt, Abh (by omega), hd]
  obtain ⟨x, hx⟩ : ∃ x, l[i] = x := ⟨_, rfl⟩
  simp only [hx] at hL' ⊢
  have hw : wi (p + 1) = p + 1 := Ac8 (by omega) (by omega)
  by_cases h24 : x.1 = 24
  ·rw [if_pos (by simpa using h24), hw, plF, if_pos h24]
   by_cases he : x.2.1 = p + 1
   ·rw [if_neg (by simp [he]), if_pos he]
    exact ih (i + 1) (p + 1) m o a (by omega) (by omega) (by omega) (by omega) ho ha
   ·rw [if_pos (by simpa using he), if_neg he]
  rw [if_neg (by simpa using h24), plF, if_neg h24]
  by_cases h19 : x.1 = 19
  ·have hv := hL' h19
   have hia : 0 ≤ x.2.1 ∧ x.2.1 < len a := by simp only [len]; omega
   have hio : 0 ≤ x.2.1 ∧ x.2.1 < len o := by simp only [len]; omega
   rw [if_pos (by simpa using h19), if_pos h19, if_pos hia]
   by_cases ha0 : a.getD x.2.1.toNat 0 = 0
   ·rw [if_neg (by simpa using ha0)]
    by_cases hp0 : p = 0
    ·rw [if_pos (by simpa using hp0), if_pos (.inr hp0)]
    ·rw [if_neg (by simpa using hp0), if_pos hio, if_pos hia, if_neg (show ¬(a.getD x.2.1.toNat 0 ≠ 0 ∨ p = 0) by intro h; rcases h with h | h; exact h ha0; exact hp0 h)]
     exact ih (i + 1) p _ _ _ (by omega) (by omega) hp (by omega) (by rw [List.length_set]; exact ho) (by rw [List.length_set]; exact ha)
   ·rw [if_pos (by simpa using ha0), if_pos (.inl ha0)]
  ·rw [if_neg (by simpa using h19), if_neg h19]
   exact ih (i + 1) p m o a (by omega) (by omega) hp (by omega) ho ha
def Apq (l : OpL) (procs labels : Int) : Option (Bool × List Int × List Int) :=
 match plF 0 l 0 0 (List.replicate (labels + 1).toNat 0) (List.replicate (labels + 1).toNat 0) with
 | none => none
 | some (p, m, o, a) => some (p == procs && m == labels, o, a)
theorem Bxw {R : Type} (N : Nat) (nm : List UInt8) (dat : Aar) (l : OpL) (gl : Aa5) (procs labels : Int) (hl : l.length < N) (hl2 : l.length ≤ 1099511627776)
  (hb : 0 ≤ labels ∧ labels ≤ 1000000) (hL : ∀ o, o ∈ l → o.1 = 19 → 1 ≤ o.2.1 ∧ o.2.1 ≤ labels) (K : Bool → List Int → List Int → Option R) :
  Ac3 N nm dat l gl procs labels K = match Apq l procs labels with
   | none => K false [] []
   | some (b, o, a) => K b o a := by
 have hw : wi (labels + 1) = labels + 1 := Ac8 (by omega) (by omega)
 have hg : (0 : Int) ≤ labels + 1 ∧ labels + 1 ≤ labels + 1 ∧ (labels + 1) * 8 ≤ 70368744177664 := by omega
 simp only [Ac3, Bj2, hw, if_pos hg]
 have h := Cyz N nm dat l gl procs labels hl2 hL (fun e f g => K e f g) (fun i j s t u v n q c d => if (i == n) = true then K (j == q) c d else K false c d) N 0 0 0
  (List.replicate (labels + 1).toNat 0) (List.replicate (labels + 1).toNat 0) (by omega) (by omega) (by omega) (by omega) (by simp; omega) (by simp; omega)
 rw [show ((0 : Nat) : Int) = 0 from rfl, List.drop_zero] at h
 rw [h]
 unfold Apq
 cases plF 0 l 0 0 (List.replicate (labels + 1).toNat 0) (List.replicate (labels + 1).toNat 0) with
 | none => rfl
 | some r =>
  obtain ⟨p, m, o, a⟩ := r
  dsimp only
  cases hpp : p == procs <;> simp [hpp]
def Ais (nd procs labels : Int) (x : Int × Int × Int) : Bool := decide (1 ≤ x.1) && decide (x.1 ≤ 30) && Axf x.1 x.2.1 x.2.2 nd procs labels
theorem C4e {R : Type} (N : Nat) (nm : List UInt8) (data : Aar) (l : OpL) (gl : Aa5) (procs labels : Int) (hl : l.length ≤ 1099511627776) (hd : data.length ≤ 1000000)
  (a : Bool → Option R) (b : List UInt8 → Aar → OpL → Aa5 → Int → Int → Option R) :
  ∀ (k i : Nat), i ≤ l.length → l.length - i < k →
   Aep N k l (len l) i nm data l gl procs labels Arw a b = if (l.drop i).all (Ais data.length procs labels) then b nm data l gl procs labels else a false := by
 intro k
 induction k with
 | zero => intro i _ h; omega
 | succ k ih =>
  intro i hi hk
  simp only [Aep, Bd7]
  by_cases hlt : i < l.length
  case neg =>
   rw [if_neg (by simp [len]; omega), List.drop_eq_nil_of_le (by omega)]
   simp
  have hin : (0 : Int) ≤ i ∧ (i : Int) < len l := by simp only [len]; omega
  have hd' : l.drop i = l[i] :: l.drop (i + 1) := List.drop_eq_getElem_cons hlt
  rw [if_pos (by simp [len]; omega), if_pos hin, Ad2 _ _ hlt, Abh (by omega), hd', List.all_cons]
  obtain ⟨x, hx⟩ : ∃ x, l[i] = x := ⟨_, rfl⟩
  simp only [hx]
  by_cases h1 : x.1 < 1
  ·rw [if_pos (by simpa using h1)]
   have : Ais data.length procs labels x = false := by unfold Ais; simp; omega
   rw [this]; simp
  rw [if_neg (by simpa using h1)]
  by_cases h2 : x.1 ≥ 31
  ·rw [if_pos (by simpa using h2)]
   have : Ais data.length procs labels x = false := by unfold Ais; simp; omega
   rw [this]; simp
  rw [if_neg (by simpa using h2), if_pos (by omega), if_pos (show x.1 < len Arw from by simp only [len, Arw, List.length_cons, List.length_nil]; omega),
   show List.getD Arw (Int.toNat x.1) (([] : List UInt8), ((0 : Int), ((0 : Int), (0 : Int)))) = kT x.1 from rfl,
   Cgt N _ _ _ _ _ _ _ _ _ hd (by omega)]
  have : Ais data.length procs labels x = Axf x.1 x.2.1 x.2.2 data.length procs labels := by
   unfold Ais
   rw [show decide (1 ≤ x.1) = true by simp; omega, show decide (x.1 ≤ 30) = true by simp; omega]; rfl
  rw [this, ih (i + 1) (by omega) (by omega)]
  cases Axf x.1 x.2.1 x.2.2 data.length procs labels <;> rfl
def Aak (x : Int × Int × Int) : Int := if x.1 = 20 ∨ x.1 = 21 ∨ x.1 = 22 ∨ x.1 = 27 ∨ x.1 = 29 then x.2.1 else if x.1 = 30 then x.2.2 else 0
theorem A2p {R : Type} (N : Nat) (a b c : Int) (K : Int → Option R) : Aa3 N a b c K = K (Aak (a, b, c)) := by
 simp only [Aa3, Bol, Af0, Aak]
 by_cases h1 : a = 20
 ·simp [h1]
 by_cases h2 : a = 21
 ·simp [h2]
 by_cases h3 : a = 22
 ·simp [h3]
 by_cases h4 : a = 27
 ·simp [h4]
 by_cases h5 : a = 29
 ·simp [h5]
 by_cases h6 : a = 30
 ·simp [h6]
 simp [h1, h2, h3, h4, h5, h6]
theorem Bmc {nd procs labels : Int} {x : Int × Int × Int} (h : Ais nd procs labels x = true) : Aak x = 0 ∨ (1 ≤ Aak x ∧ Aak x ≤ labels) := by
 obtain ⟨op, n, m⟩ := x
 simp only [Ais, Bool.and_eq_true, decide_eq_true_eq] at h
 obtain ⟨⟨h1, h2⟩, h3⟩ := h
 rcases Br0 ⟨h1, h2⟩ with rfl | rfl | rfl | rfl | rfl | rfl | rfl | rfl | rfl | rfl | rfl | rfl | rfl | rfl | rfl | rfl | rfl | rfl | rfl | rfl | rfl | rfl | rfl | rfl | rfl | rfl | rfl | rfl | rfl | rfl <;>
  simp [Aak] <;> simp [Axf, inB] at h3 <;> omega
def A1r : Int → OpL → List Int → List Int → Bool
 | _, [], _, _ => true
 | p, x :: r, o, a =>
  let p' := if x.1 = 24 then x.2.1 else p
  (decide (Aak x ≤ 0) || (a.getD (Aak x).toNat 0 == p' && o.getD (Aak x).toNat 0 != 0)) && A1r p' r o a
theorem C4f {R : Type} (N : Nat) (p : Int) (l : OpL) (ll i : Int) (o a : List Int) (x : Int × Int × Int) (h : Aak x = 0 ∨ (1 ≤ Aak x ∧ Aak x < a.length)) (hoa : o.length = a.length) (b : Bool → Option R) (c : Int → OpL → Int → Int → List Int → List Int → Option R) :
  Aez N p l ll i o a x.1 x.2.1 x.2.2 b c = if (decide (Aak x ≤ 0) || (a.getD (Aak x).toNat 0 == p && o.getD (Aak x).toNat 0 != 0)) = true then c p l ll i o a else b false := by
 simp only [Aez, Bej, A2p]
 rw [show (x.1, x.2.1, x.2.2) = x from rfl]
 by_cases h0 : Aak x > 0
 ·have ha : 0 ≤ Aak x ∧ Aak x < len a := by simp only [len]; omega
  have ho : 0 ≤ Aak x ∧ Aak x < len o := by simp only [len]; omega
  rw [if_pos (by simpa using h0), if_pos ha, if_pos ho, show decide (Aak x ≤ 0) = false by simp; omega, Bool.false_or]
  generalize a.getD (Aak x).toNat 0 = u
  generalize o.getD (Aak x).toNat 0 = v
  by_cases h1 : u = p
  ·by_cases h2 : v = 0
   ·simp [h1, h2]
   ·simp [h1, h2]
  ·simp [h1]
 ·rw [if_neg (by simpa using h0), show decide (Aak x ≤ 0) = true by simp; omega, Bool.true_or, if_pos rfl]
theorem C4g {R : Type} (N : Nat) (l : OpL) (o a : List Int) (hl : l.length ≤ 1099511627776) (hoa : o.length = a.length) (hn : ∀ x, x ∈ l → Aak x = 0 ∨ (1 ≤ Aak x ∧ Aak x < a.length))
  (b : Bool → Option R) (c : Option R) :
  ∀ (k i : Nat) (p : Int), i ≤ l.length → l.length - i < k →
   Aee N k p l (len l) i o a b c = if A1r p (l.drop i) o a then c else b false := by
 intro k
 induction k with
 | zero => intro i _ _ h; omega
 | succ k ih =>
  intro i p hi hk
  simp only [Aee, Bel]
  by_cases hlt : i < l.length
  case neg =>
   rw [if_neg (by simp [len]; omega), List.drop_eq_nil_of_le (by omega)]
   simp [A1r]
  have hin : (0 : Int) ≤ i ∧ (i : Int) < len l := by simp only [len]; omega
  have hd' : l.drop i = l[i] :: l.drop (i + 1) := List.drop_eq_getElem_cons hlt
  have hx' := hn l[i] (List.getElem_mem hlt)
  rw [if_pos (by simp [len]; omega), if_pos hin, Ad2 _ _ hlt, hd', A1r]
  obtain ⟨x, hx⟩ : ∃ x, l[i] = x := ⟨_, rfl⟩
  simp only [hx] at hx' ⊢
  by_cases h24 : x.1 = 24
  ·rw [if_pos (by simpa using h24), if_pos h24, C4f N _ l _ _ o a x hx' hoa, Abh (by omega), ih (i + 1) _ (by omega) (by omega)]
   cases (decide (Aak x ≤ 0) || (a.getD (Aak x).toNat 0 == x.2.1 && o.getD (Aak x).toNat 0 != 0)) <;> rfl
  ·rw [if_neg (by simpa using h24), if_neg h24, C4f N _ l _ _ o a x hx' hoa, Abh (by omega), ih (i + 1) _ (by omega) (by omega)]
   cases (decide (Aak x ≤ 0) || (a.getD (Aak x).toNat 0 == p && o.getD (Aak x).toNat 0 != 0)) <;> rfl
theorem Czo : ∀ (l : OpL) (i : Nat) (p m : Int) (o a : List Int) (r : Int × Int × List Int × List Int), plF i l p m o a = some r → r.2.2.1.length = o.length ∧ r.2.2.2.length = a.length := by
 intro l
 induction l with
 | nil => intro i p m o a r h; simp only [plF, Option.some.injEq] at h; subst h; exact ⟨rfl, rfl⟩
 | cons x l ih =>
  intro i p m o a r h
  rw [plF] at h
  split at h
  ·split at h
   ·exact ih _ _ _ _ _ _ h
   ·cases h
  ·split at h
   ·split at h
    ·cases h
    ·have := ih _ _ _ _ _ _ h
     simpa using this
   ·exact ih _ _ _ _ _ _ h
theorem Bza {l : OpL} {procs labels : Int} {r : Bool × List Int × List Int} (h : Apq l procs labels = some r) : r.2.1.length = (labels + 1).toNat ∧ r.2.2.length = (labels + 1).toNat := by
 unfold Apq at h
 split at h
 ·cases h
 ·rename_i p m o a he
  have := Czo _ _ _ _ _ _ _ he
  simp only [Option.some.injEq] at h
  subst h
  simpa using this
def A90 (nm : List UInt8) (data : Aar) (l : OpL) (gl : Aa5) (procs labels : Int) : Bool :=
 Ayc nm == 0 && decide (0 ≤ procs) && decide (0 ≤ labels) && l.all (Ais data.length procs labels) &&
 (match Apq l procs labels with
  | none => false
  | some (b, o, a) => b && (Ag1 0 l && An5 l) && Bvp data gl procs && A1r 0 l o a)
theorem Cgw {nd procs labels : Int} {x : Int × Int × Int} (h : Ais nd procs labels x = true) (h29 : x.1 = 29) : 0 ≤ x.2.2 ∧ x.2.2 ≤ 1000 := by
 obtain ⟨op, n, m⟩ := x
 simp only at h29; subst h29
 simp [Ais, Axf, inB] at h
 exact h.2
theorem Bvq {nd procs labels : Int} {x : Int × Int × Int} (h : Ais nd procs labels x = true) (h19 : x.1 = 19) : 1 ≤ x.2.1 ∧ x.2.1 ≤ labels := by
 obtain ⟨op, n, m⟩ := x
 simp only at h19; subst h19
 simp [Ais, Axf, inB] at h
 exact h.1
structure Cop (N : Nat) (nm : List UInt8) (data : Aar) (l : OpL) (gl : Aa5) (procs labels : Int) : Prop where
 n1 : nm.length ≤ 1099511627776
 n2 : nm.length < N
 l1 : l.length < N
 l2 : l.length ≤ 1099511627776
 d1 : B1g data
 d2 : data.length ≤ 2000
 d3 : ∀ d, d ∈ data → d.1.length < N ∧ d.2.2.length < N
 N1 : 2000 < N
 g1 : gl.length < N
 g2 : gl.length ≤ 1099511627776
 lb : labels ≤ 20000
 pb : procs ≤ 200
theorem Coq {R : Type} {N : Nat} {nm : List UInt8} {data : Aar} {l : OpL} {gl : Aa5} {procs labels : Int} (F : Cop N nm data l gl procs labels) (K : Bool → Option R) :
  Ana N nm data l gl procs labels K = K (A90 nm data l gl procs labels) := by
 simp only [Ana, Bon]
 obtain ⟨r, hq⟩ := B87 N nm F.n1 F.n2
 rw [hq]
 unfold A90
 by_cases h1 : Ayc nm = 0
 case neg =>
  rw [if_pos (by simpa using h1), show (Ayc nm == 0) = false by simpa using h1]; rfl
 rw [if_neg (by simpa using h1), show (Ayc nm == 0) = true by simpa using h1, Bool.true_and]
 by_cases h2 : procs < 0
 ·rw [if_pos (by simpa using h2), show decide (0 ≤ procs) = false by simp; omega]; rfl
 rw [if_neg (by simpa using h2), show decide (0 ≤ procs) = true by simp; omega, Bool.true_and]
 by_cases h3 : labels < 0
 ·rw [if_pos (by simpa using h3), show decide (0 ≤ labels) = false by simp; omega]; rfl
 rw [if_neg (by simpa using h3), show decide (0 ≤ labels) = true by simp; omega, Bool.true_and]
 simp only [Ad7]
 have hloop := C4e (R := R) N nm data l gl procs labels F.l2 (by have := F.d2; omega) (fun m => K m) (fun e f c g i j => Ac3 N e f c g i j (fun n p q => if ((!n) = true) then (K false) else (Agj N c (fun s => if ((!s) = true) then (K false) else (Agk N e f c g i j (fun t => if ((!t) = true) then (K false) else (Aee N N 0 c ((len c)) 0 p q (fun d => K d) (K true)))))))) N 0 (by omega) (by have := F.l1; omega)
 rw [List.drop_zero] at hloop
 refine Eq.trans hloop ?_
 by_cases hn : l.all (Ais data.length procs labels) = true
 case neg =>
  rw [if_neg hn, show l.all (Ais data.length procs labels) = false by simpa using hn]; rfl
 rw [if_pos hn, hn, Bool.true_and]
 have hall : ∀ o, o ∈ l → Ais data.length procs labels o = true := List.all_eq_true.mp hn
 rw [Bxw N _ _ _ _ _ _ F.l1 F.l2 ⟨by omega, by have := F.lb; omega⟩ (fun o ho h => Bvq (hall o ho) h)]
 cases hp : Apq l procs labels with
 | none => rfl
 | some r =>
  obtain ⟨b, o, a⟩ := r
  have hlen := Bza hp
  simp only at hlen
  dsimp only
  cases b
  ·rfl
  rw [if_neg (by decide), Coo N _ F.l1 F.l2 (by have := F.N1; omega) (fun o ho h => Cgw (hall o ho) h), Bool.true_and]
  cases Ag1 0 l && An5 l
  ·rfl
  rw [if_neg (by decide), Com N _ _ _ _ _ _ F.d1 F.d2 F.d3 F.N1 F.g1 F.g2, Bool.true_and]
  cases Bvp data gl procs
  ·rfl
  rw [if_neg (by decide), Bool.true_and]
  have hu := C4g (R := R) N l o a F.l2 (by omega) (fun x hx => by
   rcases Bmc (hall x hx) with h | h
   ·exact .inl h
   ·exact .inr ⟨h.1, by omega⟩) (fun d => K d) (K true) N 0 0 (by omega) (by have := F.l1; omega)
  rw [List.drop_zero] at hu
  refine Eq.trans hu ?_
  cases A1r 0 l o a <;> rfl
def A0c : OpL → Nat
 | [] => 0
 | x :: r => if x.1 = 19 then A0c r + 1 else 0
def Aef (l : OpL) (j : Nat) : Nat := j + A0c (l.drop j)
theorem C6z : ∀ l : OpL, l ≠ [] → (∀ o, l.getLast? = some o → o.1 ≠ 19) → A0c l < l.length := by
 intro l
 induction l with
 | nil => intro h; exact absurd rfl h
 | cons x r ih =>
  intro _ h
  rw [A0c]
  by_cases h19 : x.1 = 19
  ·rw [if_pos h19]
   cases r with
   | nil => exact absurd h19 (h x rfl)
   | cons y r =>
    have := ih (by simp) (fun o ho => h o (by rw [List.getLast?_cons_cons]; exact ho))
    simp only [List.length_cons] at this ⊢; omega
  ·rw [if_neg h19]; simp
theorem C4h : ∀ (l : OpL) (c : Nat), Ag1 c l = true → ∀ o, l.getLast? = some o → o.1 ≠ 19 := by
 intro l
 induction l with
 | nil => intro c _ o h; cases h
 | cons x r ih =>
  intro c h o ho
  cases r with
  | nil =>
   simp only [List.getLast?_singleton, Option.some.injEq] at ho
   subst ho
   cases c with
   | zero =>
    intro h19
    rw [Ag1, h19] at h
    simp [A9z, Afp, h19] at h
   | succ c =>
    simp only [Ag1, Bool.and_eq_true, beq_iff_eq] at h
    omega
  | cons y r =>
   rw [List.getLast?_cons_cons] at ho
   cases c with
   | zero =>
    rw [Ag1] at h
    simp only [Bool.and_eq_true] at h
    obtain ⟨_, h⟩ := h
    split at h
    ·exact ih _ h o ho
    ·simp only [Bool.and_eq_true] at h
     exact ih _ h.2 o ho
   | succ c =>
    simp only [Ag1, Bool.and_eq_true] at h
    exact ih c (by simpa [Ag1] using h.2) o ho
theorem A2t {l : OpL} (h : Ag1 0 l = true) {j : Nat} (hj : j < l.length) : Aef l j < l.length := by
 have := C6z (l.drop j) (by intro h0; have := congrArg List.length h0; simp at this; omega) (fun o ho => by
  rw [List.getLast?_drop, if_neg (by omega)] at ho
  exact C4h l 0 h o ho)
 rw [List.length_drop] at this
 unfold Aef; omega
theorem C2o {R : Type} (N : Nat) (l : OpL) (hl : l.length ≤ 1099511627776) (K : Int → Option R) : ∀ (k j : Nat), Aef l j < l.length → l.length - j < k →
  Ahh N k l j K = K (Aef l j : Nat) := by
 intro k
 induction k with
 | zero => intro j _ h; omega
 | succ k ih =>
  intro j hj hk
  have hjl : j < l.length := by unfold Aef at hj; omega
  have hin : (0 : Int) ≤ j ∧ (j : Int) < len l := by simp only [len]; omega
  have hd' : l.drop j = l[j] :: l.drop (j + 1) := List.drop_eq_getElem_cons hjl
  simp only [Ahh, Bhb]
  rw [if_pos hin, Ad2 _ _ hjl, Abh (by omega)]
  by_cases h19 : l[j].1 = 19
  ·have : Aef l j = Aef l (j + 1) := by unfold Aef; rw [hd', A0c, if_pos h19]; omega
   rw [if_pos (by simpa using h19), ih (j + 1) (by omega) (by omega), this]
  ·have : Aef l j = j := by unfold Aef; rw [hd', A0c, if_neg h19]; rfl
   rw [if_neg (by simpa using h19), this]
theorem B1h {R : Type} (N : Nat) (l : OpL) (j : Int) (hl : l.length ≤ 1099511627776) (hN : l.length < N) (ho : Ag1 0 l = true) (h0 : 0 ≤ j) (hj : j < l.length) (K : Int → Option R) :
  Afk N l j K = K (Aef l j.toNat : Nat) := by
 obtain ⟨n, rfl⟩ := Int.eq_ofNat_of_zero_le h0
 simp only [Afk, Bos]
 exact C2o N l hl K N n (A2t ho (by omega)) (by omega)
def Bqm (x : Int × Int × Int) (d : Int) (flag : Bool) : Bool :=
 (if x.1 = 2 ∨ x.1 = 3 then inB x.2.1 2 (d - 1) else if x.1 = 4 then decide (2 ≤ x.2.1) else if x.1 = 23 then inB x.2.1 2 (d - 3)
  else if x.1 = 18 then flag || decide (x.2.1 ≤ d + 2000 + 2) else true) && (x.1 == 24 || decide (2 ≤ d - (kT x.1).2.2.1))
theorem Cor (op : Int) : 0 ≤ (kT op).2.2.1 ∧ (kT op).2.2.1 ≤ 3 ∧ 0 ≤ (kT op).2.2.2 ∧ (kT op).2.2.2 ≤ 1 := by
 unfold kT
 generalize op.toNat = n
 by_cases h : n < 31
 ·revert n; decide
 ·rw [List.getD_eq_getElem?_getD, List.getElem?_eq_none (by simp only [Arw, List.length_cons, List.length_nil]; omega)]
  decide
theorem B46 {R : Type} (N : Nat) (x : Int × Int × Int) (d : Int) (flag : Bool) (hd : 0 ≤ d ∧ d ≤ 4000) (K : Bool → Option R) :
  Aiu N x.1 x.2.1 x.2.2 d (kT x.1).1 (kT x.1).2.1 (kT x.1).2.2.1 (kT x.1).2.2.2 flag K = K (Bqm x d flag) := by
 obtain ⟨op, n, m⟩ := x
 have hp := Cor op
 unfold Bqm
 simp only
 generalize kT op = kk at hp ⊢
 have w1 : wi (d - 1) = d - 1 := Ac8 (by omega) (by omega)
 have w3 : wi (d - 3) = d - 3 := Ac8 (by omega) (by omega)
 have w2 : wi (wi (d + 2000) + 2) = d + 2000 + 2 := by rw [Ac8 (i := d + 2000) (by omega) (by omega), Ac8 (by omega) (by omega)]
 have wp : wi (d - kk.2.2.1) = d - kk.2.2.1 := Ac8 (by omega) (by omega)
 simp only [Aiu, Btu, Ahx, Bj4, Agq, A5s, w1, w2, w3, wp]
 by_cases h2 : op = 2
 ·subst h2; cases inB n 2 (d - 1) <;> simp
 by_cases h3 : op = 3
 ·subst h3; cases inB n 2 (d - 1) <;> simp
 by_cases h4 : op = 4
 ·subst h4
  by_cases hn : n < 2
  ·simp [hn, show ¬ 2 ≤ n by omega]
  ·simp [hn, show 2 ≤ n by omega]
 by_cases h23 : op = 23
 ·subst h23; cases inB n 2 (d - 3) <;> simp
 by_cases h18 : op = 18
 ·subst h18
  cases flag
  ·by_cases hn : n ≤ d + 2000 + 2
   ·simp [hn, show ¬ (d + 2000 + 2 < n) by omega]
   ·simp [hn, show d + 2000 + 2 < n by omega]
  ·simp
 by_cases h24 : op = 24
 ·subst h24; simp
 have b24 : (op == 24) = false := by simpa using h24
 simp [h2, h3, h4, h23, h18, h24, b24]
def Alg (x : Int × Int × Int) (d : Int) : Int :=
 if x.1 = 18 then x.2.1 else if x.1 = 24 then 2 + x.2.2 else if x.1 = 23 ∨ x.1 = 28 then x.2.1 + 1 else d - (kT x.1).2.2.1 + (kT x.1).2.2.2
theorem Cos {R : Type} (N : Nat) (x : Int × Int × Int) (d : Int) (hd : 0 ≤ d ∧ d ≤ 4000) (hx : x.1 = 24 ∨ x.1 = 23 ∨ x.1 = 28 → 0 ≤ x.2.1 ∧ x.2.1 ≤ 4000 ∧ 0 ≤ x.2.2 ∧ x.2.2 ≤ 4000) (K : Int → Option R) :
  Aie N x.1 x.2.1 x.2.2 d (kT x.1).1 (kT x.1).2.1 (kT x.1).2.2.1 (kT x.1).2.2.2 K = K (Alg x d) := by
 obtain ⟨op, n, m⟩ := x
 have hp := Cor op
 simp only at hx
 unfold Alg
 simp only
 generalize kT op = kk at hp ⊢
 simp only [Aie, Bop, Af1, Agf]
 by_cases h18 : op = 18
 ·simp [h18]
 by_cases h24 : op = 24
 ·rw [show wi (2 + m) = 2 + m from Ac8 (by have := hx (.inl h24); omega) (by have := hx (.inl h24); omega)]
  simp [h24]
 by_cases h23 : op = 23
 ·rw [show wi (n + 1) = n + 1 from Ac8 (by have := hx (.inr (.inl h23)); omega) (by have := hx (.inr (.inl h23)); omega)]
  simp [h23]
 by_cases h28 : op = 28
 ·rw [show wi (n + 1) = n + 1 from Ac8 (by have := hx (.inr (.inr h28)); omega) (by have := hx (.inr (.inr h28)); omega)]
  simp [h28]
 rw [show wi (wi (d - kk.2.2.1) + kk.2.2.2) = d - kk.2.2.1 + kk.2.2.2 by
  rw [Ac8 (i := d - kk.2.2.1) (by omega) (by omega), Ac8 (by omega) (by omega)]]
 simp [h18, h24, h23, h28]
noncomputable def B9a {R : Type} (N : Nat) (rc : At6 R) (x : Int) (e : OpL) (f g : Int) (h : List UInt8) (i : Aar) (a : OpL) (j : Aa5) (l m : Int) (b : List Int) (d : List (List UInt8 × Int × Int × Int)) (o : Bool → Option R)
  (n v w : Int) (y : List UInt8) (z A B : Int) : Option R :=
 (if (((0 : Int) ≤ n) ∧ (n < (31 : Int))) then (if (n < (len d)) then (Aie N n v w x y z A B (fun c => if ((decide ((c < (2 : Int)))) = true) then (o false) else (if ((decide ((c > (4000 : Int)))) = true) then (o false) else (Aa3 N n v w (fun p => if ((decide ((p > (0 : Int)))) = true) then (if (((0 : Int) ≤ p) ∧ (p < (len b))) then (Afk N a ((List.getD b (Int.toNat p) (0 : Int))) (fun s => if (((0 : Int) ≤ s) ∧ (s < (len a))) then (if ((!(((List.getD a (Int.toNat s) ((0 : Int), ((0 : Int), (0 : Int)))).1 == (28 : Int)) == (n == (27 : Int)))) = true) then (o false) else (if ((n != (19 : Int)) = true) then (Ac2 N a g (fun C => if ((!C) = true) then (let q := (wi (g + (1 : Int))); if ((decide ((q < (len a)))) = true) then (Afk N a q (fun t => if (((0 : Int) ≤ t) ∧ (t < (len a))) then (if (((List.getD a (Int.toNat t) ((0 : Int), ((0 : Int), (0 : Int)))).1 == (28 : Int)) = true) then (o false) else (rc c e f q h i a j l m b d)) else none)) else (rc c e f q h i a j l m b d)) else (rc c e f ((wi (g + (1 : Int)))) h i a j l m b d))) else (rc c e f ((wi (g + (1 : Int)))) h i a j l m b d))) else none)) else none) else (if ((n != (19 : Int)) = true) then (Ac2 N a g (fun D => if ((!D) = true) then (let r := (wi (g + (1 : Int))); if ((decide ((r < (len a)))) = true) then (Afk N a r (fun u => if (((0 : Int) ≤ u) ∧ (u < (len a))) then (if (((List.getD a (Int.toNat u) ((0 : Int), ((0 : Int), (0 : Int)))).1 == (28 : Int)) = true) then (o false) else (rc c e f r h i a j l m b d)) else none)) else (rc c e f r h i a j l m b d)) else (rc c e f ((wi (g + (1 : Int)))) h i a j l m b d))) else (rc c e f ((wi (g + (1 : Int)))) h i a j l m b d))))))) else none) else none)
theorem Cw4 {R : Type} (N : Nat) (rc : At6 R) (e : Int) (d : OpL) (h a : Int) (p : List UInt8) (q : Aar) (f : OpL) (r : Aa5) (s t : Int) (u : List Int) (c : List (List UInt8 × Int × Int × Int)) (g : Bool → Option R) (w : Option R) :
  A8r @Aiu @Aie @Aa3 @Afk @Ac2 N rc e d h a p q f r s t u c g w =
  if ((decide ((a < h))) = true) then (if (((0 : Int) ≤ a) ∧ (a < (len d))) then (let b := (List.getD d (Int.toNat a) ((0 : Int), ((0 : Int), (0 : Int)))).1; let i := (List.getD d (Int.toNat a) ((0 : Int), ((0 : Int), (0 : Int)))).2.1; let j := (List.getD d (Int.toNat a) ((0 : Int), ((0 : Int), (0 : Int)))).2.2; if (((0 : Int) ≤ b) ∧ (b < (31 : Int))) then (if (b < (len c)) then (let l := (List.getD c (Int.toNat b) (([] : List UInt8), ((0 : Int), ((0 : Int), (0 : Int))))).1; let m := (List.getD c (Int.toNat b) (([] : List UInt8), ((0 : Int), ((0 : Int), (0 : Int))))).2.1; let n := (List.getD c (Int.toNat b) (([] : List UInt8), ((0 : Int), ((0 : Int), (0 : Int))))).2.2.1; let o := (List.getD c (Int.toNat b) (([] : List UInt8), ((0 : Int), ((0 : Int), (0 : Int))))).2.2.2; if ((decide ((a > (0 : Int)))) = true) then (let v := (wi (a - (1 : Int))); if (((0 : Int) ≤ v) ∧ (v < (len f))) then (Aiu N b i j e l m n o (((List.getD f (Int.toNat v) ((0 : Int), ((0 : Int), (0 : Int)))).1 == (19 : Int))) (fun x => if ((!x) = true) then (g false) else B9a N rc e d h a p q f r s t u c g b i j l m n o)) else none)
   else (Aiu N b i j e l m n o false (fun y => if ((!y) = true) then (g false) else B9a N rc e d h a p q f r s t u c g b i j l m n o))) else none) else none) else none) else w := rfl
def B20 (l : OpL) (o : List Int) (i : Nat) (x : Int × Int × Int) (d : Int) : Bool :=
 decide (2 ≤ Alg x d) && decide (Alg x d ≤ 4000) &&
 (decide (Aak x ≤ 0) || (((Ab8 l (Aef l (o.getD (Aak x).toNat 0).toNat)).1 == 28) == (x.1 == 27))) &&
 (x.1 == 19 || A0b l i || decide (l.length ≤ i + 1) || (Ab8 l (Aef l (i + 1))).1 != 28)
theorem C2p {R : Type} (N : Nat) (l : OpL) (i : Nat) (op : Int) (hl : l.length ≤ 1099511627776) (hN : l.length < N) (ho : Ag1 0 l = true) (hi : i < l.length) (F : Option R) (G : Int → Option R) :
  (if ((op != (19 : Int)) = true) then (Ac2 N l (i : Int) (fun c => if ((!c) = true) then (let a := (wi ((i : Int) + (1 : Int))); if ((decide ((a < (len l)))) = true) then (Afk N l a (fun b => if (((0 : Int) ≤ b) ∧ (b < (len l))) then (if (((List.getD l (Int.toNat b) ((0 : Int), ((0 : Int), (0 : Int)))).1 == (28 : Int)) = true) then F else (G a)) else none)) else (G a)) else (G (wi ((i : Int) + (1 : Int)))))) else (G (wi ((i : Int) + (1 : Int)))))
   = if (op == 19 || A0b l i || decide (l.length ≤ i + 1) || (Ab8 l (Aef l (i + 1))).1 != 28) = true then G ((i + 1 : Nat) : Int) else F := by
 rw [B45 N l i hl hi, Abh (by omega)]
 by_cases h19 : op = 19
 ·simp [h19]
 rw [if_pos (by simpa using h19), show (op == 19) = false by simpa using h19, Bool.false_or]
 cases A0b l i
 case true => rfl
 rw [if_pos (by decide), Bool.false_or]
 dsimp only
 by_cases hlt : i + 1 < l.length
 ·rw [if_pos (by simp only [len, decide_eq_true_eq]; omega), B1h N l _ hl hN ho (by omega) (by omega), Int.toNat_natCast]
  have h1 := A2t ho hlt
  rw [if_pos (by simp only [len]; omega), show decide (l.length ≤ i + 1) = false by simp; omega, Bool.false_or]
  show (if ((Ab8 l (Aef l (i + 1))).1 == 28) = true then F else _) = _
  unfold bne
  cases (Ab8 l (Aef l (i + 1))).1 == 28 <;> rfl
 ·rw [if_neg (by simp only [len, decide_eq_true_eq]; omega), show decide (l.length ≤ i + 1) = true by simp; omega]; rfl
theorem C4i {R : Type} (N : Nat) (rc : At6 R) (d : Int) (nm : List UInt8) (data : Aar) (l : OpL) (gl : Aa5) (procs labels : Int) (o : List Int) (i : Nat) (a : Bool → Option R) (x : Int × Int × Int)
  (hd : 0 ≤ d ∧ d ≤ 4000) (hx : 1 ≤ x.1 ∧ x.1 ≤ 30) (hx2 : x.1 = 24 ∨ x.1 = 23 ∨ x.1 = 28 → 0 ≤ x.2.1 ∧ x.2.1 ≤ 4000 ∧ 0 ≤ x.2.2 ∧ x.2.2 ≤ 4000)
  (hn : Aak x = 0 ∨ (1 ≤ Aak x ∧ Aak x < o.length)) (hl : l.length ≤ 1099511627776) (hN : l.length < N) (ho : Ag1 0 l = true) (hi : i < l.length)
  (hov : ∀ n, 0 ≤ o.getD n 0 ∧ o.getD n 0 < l.length) :
  B9a N rc d l (len l) i nm data l gl procs labels o Arw a x.1 x.2.1 x.2.2 (kT x.1).1 (kT x.1).2.1 (kT x.1).2.2.1 (kT x.1).2.2.2 =
   if B20 l o i x d = true then rc (Alg x d) l (len l) ((i + 1 : Nat) : Int) nm data l gl procs labels o Arw else a false := by
 unfold B9a B20
 rw [if_pos (by omega), if_pos (show x.1 < len Arw from by simp only [len, Arw, List.length_cons, List.length_nil]; omega), Cos N x d hd hx2]
 by_cases h1 : Alg x d < 2
 ·rw [if_pos (by simpa using h1), show decide (2 ≤ Alg x d) = false by simp; omega]; rfl
 rw [if_neg (by simpa using h1), show decide (2 ≤ Alg x d) = true by simp; omega, Bool.true_and]
 by_cases h2 : Alg x d > 4000
 ·rw [if_pos (by simpa using h2), show decide (Alg x d ≤ 4000) = false by simp; omega]; rfl
 rw [if_neg (by simpa using h2), show decide (Alg x d ≤ 4000) = true by simp; omega, Bool.true_and, A2p, show (x.1, x.2.1, x.2.2) = x from rfl]
 have he := C2p (R := R) N l i x.1 hl hN ho hi (a false) (fun v => rc (Alg x d) l (len l) v nm data l gl procs labels o Arw)
 by_cases h3 : Aak x > 0
 ·have hv := hov (Aak x).toNat
  have h4 := A2t ho (j := (o.getD (Aak x).toNat 0).toNat) (by omega)
  rw [if_pos (by simpa using h3), if_pos (by simp only [len]; omega), B1h N l _ hl hN ho hv.1 hv.2, if_pos (by simp only [len]; omega), show decide (Aak x ≤ 0) = false by simp; omega, Bool.false_or]
  show (if (!((Ab8 l (Aef l (o.getD (Aak x).toNat 0).toNat)).1 == 28) == (x.1 == 27)) = true then _ else _) = _
  cases (((Ab8 l (Aef l (o.getD (Aak x).toNat 0).toNat)).1 == 28) == (x.1 == 27))
  ·rfl
  ·rw [if_neg (by decide), Bool.true_and]; exact he
 ·rw [if_neg (by simpa using h3), show decide (Aak x ≤ 0) = true by simp; omega, Bool.true_or, Bool.true_and]; exact he
def Bdo (l : OpL) (i : Nat) : Bool := decide (0 < i) && (Ab8 l (i - 1)).1 == 19
def Bzb (l : OpL) (o : List Int) : Nat → Int → OpL → Bool
 | _, _, [] => true
 | i, d, x :: r => Bqm x d (Bdo l i) && B20 l o i x d && Bzb l o (i + 1) (Alg x d) r
theorem Cgx {nd procs labels : Int} (hp : procs ≤ 200) {x : Int × Int × Int} (h : Ais nd procs labels x = true) (hc : x.1 = 24 ∨ x.1 = 23 ∨ x.1 = 28) : 0 ≤ x.2.1 ∧ x.2.1 ≤ 4000 ∧ 0 ≤ x.2.2 ∧ x.2.2 ≤ 4000 := by
 obtain ⟨op, n, m⟩ := x
 simp only at hc
 rcases hc with rfl | rfl | rfl <;> simp [Ais, Axf, inB] at h <;> simp only <;> omega
theorem Bfs {nd procs labels : Int} {x : Int × Int × Int} (h : Ais nd procs labels x = true) : 1 ≤ x.1 ∧ x.1 ≤ 30 := by
 simp only [Ais, Bool.and_eq_true, decide_eq_true_eq] at h; exact h.1
theorem Cw5 {R : Type} (N : Nat) (nm : List UInt8) (data : Aar) (l : OpL) (gl : Aa5) (procs labels : Int) (o : List Int) (nd : Int) (hp : procs ≤ 200) (hl : l.length ≤ 1099511627776) (hN : l.length < N) (ho : Ag1 0 l = true)
  (hall : ∀ x, x ∈ l → Ais nd procs labels x = true) (hlen : (o.length : Int) = labels + 1) (hov : ∀ n, 0 ≤ o.getD n 0 ∧ (0 < l.length → o.getD n 0 < l.length)) (a : Bool → Option R) (c : Option R) :
  ∀ (k i : Nat) (d : Int), i ≤ l.length → l.length - i < k → 0 ≤ d ∧ d ≤ 4000 →
   Ae2 N k d l (len l) i nm data l gl procs labels o Arw a c = if Bzb l o i d (l.drop i) then c else a false := by
 intro k
 induction k with
 | zero => intro i _ _ h; omega
 | succ k ih =>
  intro i d hi hk hd
  simp only [Ae2, Cw4]
  by_cases hlt : i < l.length
  case neg =>
   rw [if_neg (by simp [len]; omega), List.drop_eq_nil_of_le (by omega)]
   simp [Bzb]
  have hin : (0 : Int) ≤ i ∧ (i : Int) < len l := by simp only [len]; omega
  have hd' : l.drop i = l[i] :: l.drop (i + 1) := List.drop_eq_getElem_cons hlt
  have hx' := hall l[i] (List.getElem_mem hlt)
  rw [if_pos (by simp [len]; omega), if_pos hin, Ad2 _ _ hlt, hd', Bzb]
  obtain ⟨x, hx⟩ : ∃ x, l[i] = x := ⟨_, rfl⟩
  simp only [hx] at hx' ⊢
  have hop := Bfs hx'
  have hnm : Aak x = 0 ∨ (1 ≤ Aak x ∧ Aak x < o.length) := by
   rcases Bmc hx' with h | h
   ·exact .inl h
   ·exact .inr ⟨h.1, by omega⟩
  rw [if_pos (by omega), if_pos (show x.1 < len Arw from by simp only [len, Arw, List.length_cons, List.length_nil]; omega),
   show List.getD Arw (Int.toNat x.1) (([] : List UInt8), ((0 : Int), ((0 : Int), (0 : Int)))) = kT x.1 from rfl]
  have tail := C4i N (fun e f g j m p q r s t u v => Ae2 N k e f g j m p q r s t u v a c) d nm data l gl procs labels o i a x hd hop (Cgx hp hx') hnm hl hN ho hlt (fun n => ⟨(hov n).1, (hov n).2 (by omega)⟩)
  have fin : ∀ b, b = Bdo l i → (if (!Bqm x d b) = true then a false else B9a N (fun e f g j m p q r s t u v => Ae2 N k e f g j m p q r s t u v a c) d l (len l) i nm data l gl procs labels o Arw a x.1 x.2.1 x.2.2 (kT x.1).1 (kT x.1).2.1 (kT x.1).2.2.1 (kT x.1).2.2.2)
    = if (Bqm x d (Bdo l i) && B20 l o i x d && Bzb l o (i + 1) (Alg x d) (l.drop (i + 1))) = true then c else a false := by
   intro b hb
   subst hb
   cases Bqm x d (Bdo l i)
   ·rfl
   rw [if_neg (by decide), tail, Bool.true_and]
   cases ht : B20 l o i x d
   ·rfl
   have hy : 0 ≤ Alg x d ∧ Alg x d ≤ 4000 := by
    simp only [B20, Bool.and_eq_true, decide_eq_true_eq] at ht; omega
   rw [if_pos rfl, ih (i + 1) _ (by omega) (by omega) hy, Bool.true_and]
  by_cases h0 : 0 < i
  ·have hw : wi ((i : Int) - 1) = ((i - 1 : Nat) : Int) := by rw [Ac8 (by omega) (by omega)]; omega
   rw [if_pos (by simp; omega), hw, if_pos (by simp only [len]; omega), B46 N x d _ hd]
   exact fin _ (by unfold Bdo Ab8; rw [show decide (0 < i) = true by simp; omega, Bool.true_and, Int.toNat_natCast])
  ·rw [if_neg (by simp; omega), B46 N x d _ hd]
   exact fin _ (by unfold Bdo; rw [show decide (0 < i) = false by simp; omega, Bool.false_and])
theorem C89 : ∀ (l : OpL) (i : Nat) (p m : Int) (o a : List Int) (r : Int × Int × List Int × List Int), plF i l p m o a = some r → ∀ (L : Nat), i + l.length ≤ L → (∀ n, 0 ≤ o.getD n 0 ∧ (0 < L → o.getD n 0 < L)) → ∀ n, 0 ≤ r.2.2.1.getD n 0 ∧ (0 < L → r.2.2.1.getD n 0 < L) := by
 intro l
 induction l with
 | nil => intro i p m o a r h L _ ho; simp only [plF, Option.some.injEq] at h; subst h; exact ho
 | cons x l ih =>
  intro i p m o a r h L hL ho
  rw [List.length_cons] at hL
  rw [plF] at h
  split at h
  ·split at h
   ·exact ih _ _ _ _ _ _ h L (by omega) ho
   ·cases h
  ·split at h
   ·split at h
    ·cases h
    ·refine ih _ _ _ _ _ _ h L (by omega) (fun n => ?_)
     rw [List.getD_eq_getElem?_getD, List.getElem?_set]
     split
     ·split
      ·simp only [Option.getD_some]; omega
      ·simp only [Option.getD_none]; omega
     ·rw [← List.getD_eq_getElem?_getD]; exact ho n
   ·exact ih _ _ _ _ _ _ h L (by omega) ho
theorem Cdj {l : OpL} {procs labels : Int} {r : Bool × List Int × List Int} (h : Apq l procs labels = some r) : ∀ n, 0 ≤ r.2.1.getD n 0 ∧ (0 < l.length → r.2.1.getD n 0 < l.length) := by
 unfold Apq at h
 split at h
 ·cases h
 ·rename_i p m o a he
  have := C89 _ _ _ _ _ _ _ he l.length (by omega) (fun n => by
   rw [List.getD_eq_getElem?_getD, List.getElem?_replicate]
   split <;> simp <;> omega)
  simp only [Option.some.injEq] at h
  subst h
  exact this
def A91 (l : OpL) (procs labels : Int) : Bool :=
 match Apq l procs labels with
 | none => false
 | some (_, o, _) => Bzb l o 0 0 l
theorem Cgy {R : Type} {N : Nat} {nm : List UInt8} {data : Aar} {l : OpL} {gl : Aa5} {procs labels : Int} (F : Cop N nm data l gl procs labels) (hc : A90 nm data l gl procs labels = true) (K : Bool → Option R) :
  Aks N nm data l gl procs labels K = K (A91 l procs labels) := by
 simp only [A90, Bool.and_eq_true, decide_eq_true_eq] at hc
 obtain ⟨⟨⟨⟨_, hp0⟩, hl0⟩, hn⟩, hc⟩ := hc
 have hall : ∀ o, o ∈ l → Ais data.length procs labels o = true := List.all_eq_true.mp hn
 simp only [Aks, Bhf, Ad7]
 rw [Bxw N _ _ _ _ _ _ F.l1 F.l2 ⟨by omega, by have := F.lb; omega⟩ (fun o ho h => Bvq (hall o ho) h)]
 unfold A91
 cases hp : Apq l procs labels with
 | none => rw [hp] at hc; cases hc
 | some r =>
  obtain ⟨b, o, a⟩ := r
  rw [hp] at hc
  simp only [Bool.and_eq_true] at hc
  have hlen := Bza hp
  have hval := Cdj hp
  simp only at hlen hval
  dsimp only
  have hs := Cw5 (R := R) N nm data l gl procs labels o data.length F.pb F.l2 F.l1 hc.1.1.2.1 hall (by omega) hval (fun c => K c) (K true) N 0 0 (by omega) (by have := F.l1; omega) (by omega)
  rw [List.drop_zero] at hs
  refine Eq.trans hs ?_
  cases Bzb l o 0 0 l <;> rfl
def Aub (nm : List UInt8) (data : Aar) (l : OpL) (gl : Aa5) (procs labels : Int) : Int :=
 if Avm data l procs labels then 2 else if A90 nm data l gl procs labels then (if A91 l procs labels then 0 else 61) else 60
structure Bcu (N : Nat) (nm : List UInt8) (data : Aar) (gl : Aa5) : Prop where
 n1 : nm.length ≤ 1099511627776
 n2 : nm.length < N
 d0 : B88 data
 d1 : B1g data
 d3 : ∀ d, d ∈ data → d.1.length < N ∧ d.2.2.length < N
 N1 : 40000 < N
 g1 : gl.length < N
 g2 : gl.length ≤ 1099511627776
theorem B1i {R : Type} {N : Nat} {nm : List UInt8} {data : Aar} {gl : Aa5} (F : Bcu N nm data gl) (l : OpL) (procs labels : Int) (K : Int → Option R) :
  Agl N nm data l gl procs labels K = K (Aub nm data l gl procs labels) := by
 simp only [Agl, Bov]
 rw [Col N _ _ _ _ _ _ F.d0 (by have := F.N1; omega)]
 unfold Aub
 cases h : Avm data l procs labels
 case true => rfl
 simp only [Avm, Bool.or_eq_false_iff, decide_eq_false_iff_not] at h
 have G : Cop N nm data l gl procs labels := ⟨F.n1, F.n2, by have := F.N1; omega, by omega, F.d1, by omega, F.d3, by have := F.N1; omega, F.g1, F.g2, by omega, by omega⟩
 rw [if_neg (by decide), Coq G]
 cases hc : A90 nm data l gl procs labels
 ·rfl
 rw [if_neg (by decide), Cgy G hc]
 cases A91 l procs labels <;> rfl
def Aln (x : Int) : Int := IntKind.wrap .u8 x
def beB (x : Int) : Nat → List Int
 | 0 => []
 | j + 1 => Aln (Ax8 .i64 x (8 * (j : Int))) :: beB x j
theorem Agi (x : Int) : ∀ k, (beB x k).length = k
 | 0 => rfl
 | k + 1 => by rw [beB, List.length_cons, Agi x k]
theorem A0r {R : Type} (N : Nat) (x : Int) (b : List Int) (hb : b.length + 1 ≤ 70368744177664) (K : List Int → Option R) : Aam N x b K = K (b ++ [Aln x]) := by
 unfold Aam Aln
 rw [if_pos (by simp only [List.length_cons, List.length_nil]; omega)]
theorem C4j {R : Type} (N : Nat) (x : Int) (K : List Int → Option R) : ∀ (j k : Nat) (b : List Int), j < k → j ≤ 8 → b.length + j ≤ 70368744177664 → Aex N k x ((j : Int) - 1) b K = K (b ++ beB x j) := by
 intro j
 induction j with
 | zero =>
  intro k b hk _ _
  obtain ⟨k, rfl⟩ := exk hk
  simp only [Aex, Axo]
  rw [if_neg (by simp), beB, List.append_nil]
 | succ j ih =>
  intro k b hk h8 hb
  obtain ⟨k, rfl⟩ := exk hk
  simp only [Aex, Axo]
  have h1 : ((j + 1 : Nat) : Int) - 1 = (j : Int) := by omega
  have hw : wi (8 * (j : Int)) = 8 * (j : Int) := Ac8 (by omega) (by omega)
  rw [h1, if_pos (by simp), hw, if_neg (by omega), A0r _ _ _ (by omega), Ac8 (by omega) (by omega), ih k _ (by omega) (by omega) (by rw [List.length_append]; simp only [List.length_cons, List.length_nil]; omega),
   List.append_assoc]
  rfl
theorem Bf3 {R : Type} (N : Nat) (x : Int) (j : Nat) (b : List Int) (hN : 8 < N) (h8 : j ≤ 8) (hb : b.length + j ≤ 70368744177664) (K : List Int → Option R) : Aau N x (j : Int) b K = K (b ++ beB x j) := by
 simp only [Aau, Bbn]
 rw [Ac8 (by omega) (by omega)]
 exact C4j N x K j N b (by omega) h8 hb
def bytesOf (s : List UInt8) : List Int := s.map fun b => ((b.toNat : Nat) : Int)
theorem Cw6 {R : Type} (N : Nat) (s : List UInt8) (b : List Int) (hb : b.length + 1 + s.length ≤ 70368744177664) (K : List Int → Option R) : Ach N s b K = K (b ++ (Aln s.length :: bytesOf s)) := by
 simp only [Ach, A8x]
 rw [A0r _ _ _ (by omega), if_pos (by simp only [List.length_append, List.length_map, List.length_cons, List.length_nil]; omega), List.append_assoc]
 rfl
def Ahr (op : Int) : Int := if op = 24 then 1 else if op = 29 then 2 else if op = 30 then 4 else 0
def Ahg (c : Int) : Int := List.getD [(0 : Int), 1, 2, 4] c.toNat 0
def Anj (x : Int) : Int := if x = 0 then 0 else if -128 ≤ x ∧ x ≤ 127 then 1 else if -32768 ≤ x ∧ x ≤ 32767 then 2 else 3
theorem B9b {R : Type} (N : Nat) (op : Int) (K : Int → Option R) : Ab2 N op K = K (Ahr op) := by
 unfold Ab2 Ahr
 simp only [beq_iff_eq]
 repeat' split
 all_goals rfl
theorem B9c {R : Type} (N : Nat) (c : Int) (h : 0 ≤ c ∧ c < 4) (K : Int → Option R) : Ad3 N c K = K (Ahg c) := by
 unfold Ad3 Ahg; rw [if_pos h]
theorem B9d {R : Type} (N : Nat) (x : Int) (K : Int → Option R) : Ac1 N x K = K (Anj x) := by
 unfold Ac1 Anj
 simp only [beq_iff_eq, decide_eq_true_eq, ge_iff_le]
 by_cases h0 : x = 0
 ·simp [h0]
 by_cases h1 : -128 ≤ x
 ·by_cases h2 : x ≤ 127
  ·simp [h0, h1, h2]
  ·by_cases h3 : x ≤ 32767
   ·simp [h0, h1, h2, h3, show -32768 ≤ x by omega]
   ·simp [h0, h1, h2, h3, show -32768 ≤ x by omega]
 ·by_cases h3 : -32768 ≤ x
  ·simp [h0, h1, h3, show x ≤ 32767 by omega]
  ·simp [h0, h1, h3]
theorem Brs (x : Int) : 0 ≤ Anj x ∧ Anj x < 4 := by
 unfold Anj; repeat' split
 all_goals omega
theorem Arx {c : Int} (h : 0 ≤ c ∧ c < 4) : 0 ≤ Ahg c ∧ Ahg c ≤ 4 := by
 have : c = 0 ∨ c = 1 ∨ c = 2 ∨ c = 3 := by omega
 rcases this with rfl | rfl | rfl | rfl <;> decide
theorem Ary (op : Int) : 0 ≤ Ahr op ∧ Ahr op ≤ 4 := by
 unfold Ahr; repeat' split
 all_goals omega
def A92 : Nat → Int → List Int → Int
 | _, s, [] => s
 | i, s, b :: r => A92 (i + 1) (B6a .i64 (wi (s + (wi (wi ((i : Int) + 1) * (wi b))))) 4294967295) r
theorem C4k {R : Type} (N : Nat) (l : List Int) (hl : l.length ≤ 1099511627776) (K : Int → Option R) : ∀ (k i : Nat) (s : Int), i ≤ l.length → l.length - i < k → Akz N k s l (len l) i K = K (A92 i s (l.drop i)) := by
 intro k
 induction k with
 | zero => intro i _ _ h; omega
 | succ k ih =>
  intro i s hi hk
  simp only [Akz, Bsl]
  by_cases hlt : i < l.length
  case neg =>
   rw [if_neg (by simp [len]; omega), List.drop_eq_nil_of_le (by omega)]; rfl
  have hin : (0 : Int) ≤ i ∧ (i : Int) < len l := by simp only [len]; omega
  rw [if_pos (by simp [len]; omega), if_pos hin, Ad2 _ _ hlt, List.drop_eq_getElem_cons hlt, A92, Abh (by omega), ih (i + 1) _ (by omega) (by omega)]
theorem Cot {R : Type} (N : Nat) (l : List Int) (hl : l.length ≤ 1099511627776) (hN : l.length < N) (K : Int → Option R) : Aeb N l K = K (A92 0 0 l) := by
 simp only [Aeb, B2b]
 have := C4k N l hl K N 0 0 (by omega) (by omega)
 rw [List.drop_zero] at this
 exact this
def Af4 : OpL → List Int → Int → Int × List Int
 | x :: r, c :: cs, off =>
  let q := Af4 r cs (if x.1 = 19 then off else off + (1 + Ahg c + Ahr x.1))
  (q.1, off :: q.2)
 | _, _, off => (off, [])
theorem Bft : ∀ (l : OpL) (cs : List Int) (off : Int), cs.length = l.length → (Af4 l cs off).2.length = l.length
 | [], [], _, _ => rfl
 | x :: r, c :: cs, off, h => by
  simp only [Af4, List.length_cons]
  rw [Bft r cs _ (by simpa using h)]
theorem C4l {R : Type} (N : Nat) (l : OpL) (cs : List Int) (hc : cs.length = l.length) (hl : l.length ≤ 1099511627776) (hcs : ∀ n, 0 ≤ cs.getD n 0 ∧ cs.getD n 0 < 4) (e1 : Int) (e2 e3 e4 : List Int) (K : Int → List Int → Int → List Int → List Int → List Int → Option R) :
  ∀ (k i : Nat) (off : Int) (acc : List Int), i ≤ l.length → l.length - i < k → 0 ≤ off → off ≤ 9 * i → acc.length = i →
   Ahi N k cs l (len l) i e1 e2 off e3 e4 acc K = K e1 e2 (Af4 (l.drop i) (cs.drop i) off).1 e3 e4 (acc ++ (Af4 (l.drop i) (cs.drop i) off).2) := by
 intro k
 induction k with
 | zero => intro i _ _ _ h; omega
 | succ k ih =>
  intro i off acc hi hk h0 h9 ha
  simp only [Ahi, Bhj]
  by_cases hlt : i < l.length
  case neg =>
   rw [if_neg (by simp [len]; omega), List.drop_eq_nil_of_le (by omega)]
   simp [Af4]
  have hltc : i < cs.length := by omega
  have hin : (0 : Int) ≤ i ∧ (i : Int) < len l := by simp only [len]; omega
  have hinc : (0 : Int) ≤ i ∧ (i : Int) < len cs := by simp only [len]; omega
  have hci := hcs i
  rw [show cs.getD i 0 = cs[i] by simp [List.getD_eq_getElem?_getD, hltc]] at hci
  have hw := Arx hci
  rw [if_pos (by simp [len]; omega), if_pos hin, Ad2 _ _ hlt, Abh (by omega), List.drop_eq_getElem_cons hlt, List.drop_eq_getElem_cons hltc, Af4,
   if_pos (by simp only [List.length_cons, List.length_nil]; omega)]
  obtain ⟨x, hx⟩ : ∃ x, l[i] = x := ⟨_, rfl⟩
  simp only [hx]
  have he := Ary x.1
  by_cases h19 : x.1 = 19
  ·rw [if_neg (by simpa using h19), if_pos h19, ih (i + 1) off _ (by omega) (by omega) h0 (by omega) (by simp [ha]), List.append_assoc]; rfl
  ·have hoff : wi (off + wi (wi (1 + Ahg cs[i]) + Ahr x.1)) = off + (1 + Ahg cs[i] + Ahr x.1) := by
    rw [Ac8 (i := 1 + Ahg cs[i]) (by omega) (by omega), Ac8 (i := 1 + Ahg cs[i] + Ahr x.1) (by omega) (by omega), Ac8 (by omega) (by omega)]
   rw [if_pos (by simpa using h19), if_neg h19, if_pos hinc, Ad2 _ _ hltc, B9c _ _ hci, B9b, hoff, ih (i + 1) _ _ (by omega) (by omega) (by omega) (by omega) (by simp [ha]), List.append_assoc]; rfl
theorem C2q {R : Type} (N : Nat) (l : OpL) (cs : List Int) (hc : cs.length = l.length) (hl : l.length ≤ 1099511627776) (hN : l.length < N) (hcs : ∀ n, 0 ≤ cs.getD n 0 ∧ cs.getD n 0 < 4) (K : List Int → Int → List Int → Option R) :
  Agv N l cs K = K cs (Af4 l cs 0).1 (Af4 l cs 0).2 := by
 simp only [Agv, Bo1]
 have := C4l (R := R) N l cs hc hl hcs 0 cs [] [] (fun d a b e f c => K a b c) N 0 0 [] (by omega) (by omega) (by omega) (by omega) rfl
 rw [List.drop_zero, List.drop_zero, List.nil_append] at this
 exact this
abbrev Ajp := List (Int × Int)
def Bdp (k v : Int) (m : Ajp) : Ajp := Asx (kt := (.int .i64)) (et := (.int .i64)) k v m
def Aeq (k : Int) (m : Ajp) : Int := Option.getD (Al3 (kt := (.int .i64)) (et := (.int .i64)) k m) (0 : Int)
theorem C4m (P : Int → Prop) (k v : Int) (hv : P v) : ∀ m : Ajp, (∀ e, e ∈ m → P e.2) → ∀ e, e ∈ Bdp k v m → P e.2 := by
 intro m
 induction m with
 | nil => intro _ e he; simp only [Bdp, Asx, List.mem_singleton] at he; subst he; exact hv
 | cons a r ih =>
  obtain ⟨k', v'⟩ := a
  intro h e he
  simp only [Bdp, Asx] at he
  split at he
  ·rcases List.mem_cons.mp he with h1 | h1
   ·subst h1; exact hv
   ·exact h e (List.mem_cons_of_mem _ h1)
  ·rcases List.mem_cons.mp he with h1 | h1
   ·subst h1; exact h _ (List.mem_cons_self ..)
   ·exact ih (fun e he => h e (List.mem_cons_of_mem _ he)) e h1
theorem C4n (P : Int → Prop) (k : Int) (h0 : P 0) : ∀ m : Ajp, (∀ e, e ∈ m → P e.2) → P (Aeq k m) := by
 intro m
 induction m with
 | nil => intro _; exact h0
 | cons a r ih =>
  obtain ⟨k', v'⟩ := a
  intro h
  simp only [Aeq, Al3]
  split
  ·exact h _ (List.mem_cons_self ..)
  ·exact ih (fun e he => h e (List.mem_cons_of_mem _ he))
def Afb : Nat → OpL → Ajp → Ajp
 | _, [], m => m
 | i, x :: r, m => Afb (i + 1) r (if x.1 = 19 then Bdp x.2.1 i m else m)
theorem C2r {R : Type} (N : Nat) (l : OpL) (hl : l.length ≤ 1099511627776) (K : Ajp → Option R) : ∀ (k i : Nat) (m : Ajp), i ≤ l.length → l.length - i < k →
  Aij N k l (len l) i m K = K (Afb i (l.drop i) m) := by
 intro k
 induction k with
 | zero => intro i _ _ h; omega
 | succ k ih =>
  intro i m hi hk
  simp only [Aij, Bj6]
  by_cases hlt : i < l.length
  case neg =>
   rw [if_neg (by simp [len]; omega), List.drop_eq_nil_of_le (by omega)]; rfl
  have hin : (0 : Int) ≤ i ∧ (i : Int) < len l := by simp only [len]; omega
  rw [if_pos (by simp [len]; omega), if_pos hin, Ad2 _ _ hlt, Abh (by omega), List.drop_eq_getElem_cons hlt, Afb]
  obtain ⟨x, hx⟩ : ∃ x, l[i] = x := ⟨_, rfl⟩
  simp only [hx]
  by_cases h19 : x.1 = 19
  ·rw [if_pos (by simpa using h19), if_pos h19]
   exact ih (i + 1) _ (by omega) (by omega)
  ·rw [if_neg (by simpa using h19), if_neg h19]
   exact ih (i + 1) _ (by omega) (by omega)
theorem C4o {R : Type} (N : Nat) (l : OpL) (hl : l.length ≤ 1099511627776) (hN : l.length < N) (K : Ajp → Option R) : Ajo N l K = K (Afb 0 l []) := by
 simp only [Ajo, Bt1]
 have := C2r N l hl K N 0 [] (by omega) (by omega)
 rw [List.drop_zero] at this
 exact this
theorem C2s (L : Nat) : ∀ (l : OpL) (i : Nat) (m : Ajp), i + l.length ≤ L → (∀ e, e ∈ m → 0 ≤ e.2 ∧ e.2 < (L : Int)) → ∀ e, e ∈ Afb i l m → 0 ≤ e.2 ∧ e.2 < (L : Int) := by
 intro l
 induction l with
 | nil => intro i m _ h; exact h
 | cons x r ih =>
  intro i m hL h
  rw [List.length_cons] at hL
  rw [Afb]
  refine ih (i + 1) _ (by omega) ?_
  split
  ·exact C4m (fun v => 0 ≤ v ∧ v < (L : Int)) _ _ (by omega) m h
  ·exact h
theorem B21 (l : OpL) (n : Int) (h : 0 < l.length) : 0 ≤ Aeq n (Afb 0 l []) ∧ Aeq n (Afb 0 l []) < l.length :=
 C4n (fun v => 0 ≤ v ∧ v < (l.length : Int)) n (by omega) _ (C2s l.length l 0 [] (by omega) (fun e he => by cases he))
def Brt : Nat → OpL → List Int → List Int
 | _, [], s => s
 | i, x :: r, s => Brt (i + 1) r (if Aak x = 0 ∨ x.1 = 30 then s.set i (Anj x.2.1) else s)
theorem C2t {R : Type} (N : Nat) (l : OpL) (hl : l.length ≤ 1099511627776) (e0 : OpL) (e4 : Ajp) (e5 : Int) (e7 e8 : List Int) (K : OpL → Ajp → Int → List Int → List Int → List Int → Option R) : ∀ (k i : Nat) (s : List Int), i ≤ l.length → l.length - i < k → s.length = l.length →
  Agm N k e0 l (len l) i e4 e5 s e7 e8 K = K e0 e4 e5 (Brt i (l.drop i) s) e7 e8 := by
 intro k
 induction k with
 | zero => intro i _ _ h; omega
 | succ k ih =>
  intro i s hi hk hs
  simp only [Agm, Boy]
  by_cases hlt : i < l.length
  case neg =>
   rw [if_neg (by simp [len]; omega), List.drop_eq_nil_of_le (by omega)]; rfl
  have hin : (0 : Int) ≤ i ∧ (i : Int) < len l := by simp only [len]; omega
  have hins : (0 : Int) ≤ i ∧ (i : Int) < len s := by simp only [len]; omega
  rw [if_pos (by simp [len]; omega), if_pos hin, Ad2 _ _ hlt, Abh (by omega), List.drop_eq_getElem_cons hlt, Brt]
  obtain ⟨x, hx⟩ : ∃ x, l[i] = x := ⟨_, rfl⟩
  simp only [hx, A2p]
  rw [show (x.1, x.2.1, x.2.2) = x from rfl]
  by_cases h0 : Aak x = 0
  ·rw [if_pos (by simpa using h0), if_pos (.inl h0), B9d, if_pos hins, Int.toNat_natCast]
   exact ih (i + 1) _ (by omega) (by omega) (by rw [List.length_set]; exact hs)
  rw [if_neg (by simpa using h0)]
  by_cases h30 : x.1 = 30
  ·rw [if_pos (by simpa using h30), if_pos (.inr h30), B9d, if_pos hins, Int.toNat_natCast]
   exact ih (i + 1) _ (by omega) (by omega) (by rw [List.length_set]; exact hs)
  ·rw [if_neg (by simpa using h30), if_neg (show ¬(Aak x = 0 ∨ x.1 = 30) by intro h; rcases h with h | h; exact h0 h; exact h30 h)]
   exact ih (i + 1) _ (by omega) (by omega) hs
theorem B22 : ∀ (l : OpL) (cs : List Int) (off : Int), cs.length = l.length → (∀ n, 0 ≤ cs.getD n 0 ∧ cs.getD n 0 < 4) → 0 ≤ off →
  (off ≤ (Af4 l cs off).1 ∧ (Af4 l cs off).1 ≤ off + 9 * l.length) ∧ ∀ n, 0 ≤ (Af4 l cs off).2.getD n 0 ∧ (Af4 l cs off).2.getD n 0 ≤ off + 9 * l.length
 | [], [], off, _, _, h => by simp [Af4]; omega
 | x :: r, c :: cs, off, hl, hc, h => by
  have h0 : 0 ≤ c ∧ c < 4 := hc 0
  have hw := Arx h0
  have he := Ary x.1
  have hs : ∀ n, 0 ≤ cs.getD n 0 ∧ cs.getD n 0 < 4 := fun n => hc (n + 1)
  have h2 := B22 r cs (if x.1 = 19 then off else off + (1 + Ahg c + Ahr x.1)) (by simpa using hl) hs (by split <;> omega)
  have h3 : off ≤ (if x.1 = 19 then off else off + (1 + Ahg c + Ahr x.1)) ∧ (if x.1 = 19 then off else off + (1 + Ahg c + Ahr x.1)) ≤ off + 9 := by split <;> omega
  simp only [Af4, List.length_cons]
  refine ⟨by omega, fun n => ?_⟩
  cases n with
  | zero => simp only [List.getD_cons_zero]; omega
  | succ n =>
   simp only [List.getD_cons_succ]
   have := h2.2 n
   omega
def Ba2 (at' cs : List Int) (l : OpL) (i : Nat) : Int := at'.getD i 0 + 1 + Ahg (cs.getD i 0) + Ahr (Ab8 l i).1
theorem Cou {R : Type} (N : Nat) (at' cs : List Int) (e : Int) (l : OpL) (i : Nat) (hi : i < l.length) (ha : at'.length = l.length) (hc : cs.length = l.length) (hcs : ∀ n, 0 ≤ cs.getD n 0 ∧ cs.getD n 0 < 4)
  (hv : ∀ n, 0 ≤ at'.getD n 0 ∧ at'.getD n 0 ≤ 1099511627776000) (K : Int → Option R) : Abb N at' cs e l i K = K (Ba2 at' cs l i) := by
 simp only [Abb, Bbk]
 have hw := Arx (hcs i)
 have he := Ary (Ab8 l i).1
 have hvi := hv i
 rw [if_pos (by simp only [len]; omega), if_pos (by simp only [len]; omega), Int.toNat_natCast, B9c _ _ (hcs i), if_pos (by simp only [len]; omega), B9b]
 unfold Ba2
 show K (wi (wi (wi (at'.getD i 0 + 1) + Ahg (cs.getD i 0)) + Ahr (Ab8 l i).1)) = _
 rw [Ac8 (i := at'.getD i 0 + 1) (by omega) (by omega), Ac8 (i := at'.getD i 0 + 1 + Ahg (cs.getD i 0)) (by omega) (by omega), Ac8 (by omega) (by omega)]
def Arz (mk : Ajp) (at' cs : List Int) (l : OpL) (i : Nat) (n : Int) : Int := at'.getD (Aeq n mk).toNat 0 - Ba2 at' cs l i
def An1 (mk : Ajp) (at' cs : List Int) (l : OpL) : Nat → OpL → Bool → List Int → Bool × List Int
 | _, [], b, s => (b, s)
 | i, x :: r, b, s =>
  if 0 < Aak x ∧ x.1 ≠ 30 ∧ cs.getD i 0 < Anj (Arz mk at' cs l i x.2.1) then An1 mk at' cs l (i + 1) r true (s.set i (Anj (Arz mk at' cs l i x.2.1)))
  else An1 mk at' cs l (i + 1) r b s
theorem Cy0 {R : Type} (N : Nat) (l : OpL) (hl : l.length ≤ 1099511627776) (mk : Ajp) (at' cs : List Int) (ha : at'.length = l.length) (hc : cs.length = l.length) (hcs : ∀ n, 0 ≤ cs.getD n 0 ∧ cs.getD n 0 < 4)
  (hv : ∀ n, 0 ≤ at'.getD n 0 ∧ at'.getD n 0 ≤ 1099511627776000) (hm : ∀ n, 0 < l.length → 0 ≤ Aeq n mk ∧ Aeq n mk < l.length) (e7 e9 : Int) (e11 e12 : List Int)
  (K : OpL → Bool → Ajp → Int → List Int → Int → List Int → List Int → List Int → List Int → Option R) : ∀ (k i : Nat) (b : Bool) (s : List Int), i ≤ l.length → l.length - i < k → s.length = l.length →
  Afr N k l cs b l (len l) i mk e7 cs e9 s e11 e12 at' K = K l (An1 mk at' cs l i (l.drop i) b s).1 mk e7 cs e9 (An1 mk at' cs l i (l.drop i) b s).2 e11 e12 at' := by
 intro k
 induction k with
 | zero => intro i _ _ _ h; omega
 | succ k ih =>
  intro i b s hi hk hs
  simp only [Afr, Bka]
  by_cases hlt : i < l.length
  case neg =>
   rw [if_neg (by simp [len]; omega), List.drop_eq_nil_of_le (by omega)]; rfl
  have hin : (0 : Int) ≤ i ∧ (i : Int) < len l := by simp only [len]; omega
  have hins : (0 : Int) ≤ i ∧ (i : Int) < len s := by simp only [len]; omega
  have hinc : (0 : Int) ≤ i ∧ (i : Int) < len cs := by simp only [len]; omega
  rw [if_pos (by simp [len]; omega), if_pos hin, Ad2 _ _ hlt, Abh (by omega), List.drop_eq_getElem_cons hlt, An1]
  obtain ⟨x, hx⟩ : ∃ x, l[i] = x := ⟨_, rfl⟩
  simp only [hx, A2p]
  rw [show (x.1, x.2.1, x.2.2) = x from rfl]
  by_cases h0 : Aak x > 0
  case neg =>
   rw [if_neg (by simpa using h0), if_neg (fun h => h0 h.1)]
   exact ih (i + 1) _ _ (by omega) (by omega) hs
  rw [if_pos (by simpa using h0)]
  by_cases h30 : x.1 = 30
  ·rw [if_neg (by simpa using h30), if_neg (fun h => h.2.1 h30)]
   exact ih (i + 1) _ _ (by omega) (by omega) hs
  have hmk := hm x.2.1 (by omega)
  have hfar : wi (at'.getD (Aeq x.2.1 mk).toNat 0 - Ba2 at' cs l i) = Arz mk at' cs l i x.2.1 := by
   have h1 := hv (Aeq x.2.1 mk).toNat
   have h2 := hv i
   have h3 := Arx (hcs i)
   have h4 := Ary (Ab8 l i).1
   unfold Arz
   exact Ac8 (by unfold Ba2; omega) (by unfold Ba2; omega)
  rw [if_pos (by simpa using h30)]
  change (if 0 ≤ Aeq x.2.1 mk ∧ Aeq x.2.1 mk < len at' then Abb N at' cs e9 l (i : Int) (fun a => Ac1 N (wi (at'.getD (Int.toNat (Aeq x.2.1 mk)) 0 - a)) (fun c => _)) else none) = _
  rw [if_pos (show 0 ≤ Aeq x.2.1 mk ∧ Aeq x.2.1 mk < len at' by simp only [len]; omega), Cou N at' cs e9 l i hlt ha hc hcs hv, B9d, if_pos hinc]
  show (if decide (Anj (wi (at'.getD (Aeq x.2.1 mk).toNat 0 - Ba2 at' cs l i)) > cs.getD i 0) = true then _ else _) = _
  rw [hfar]
  by_cases hg : cs.getD i 0 < Anj (Arz mk at' cs l i x.2.1)
  ·rw [if_pos (by simpa using hg), if_pos hins, if_pos ⟨h0, h30, hg⟩]
   rw [Int.toNat_natCast]
   exact ih (i + 1) _ _ (by omega) (by omega) (by rw [List.length_set]; exact hs)
  ·rw [if_neg (by simpa using hg), if_neg (fun h => hg h.2.2)]
   exact ih (i + 1) _ _ (by omega) (by omega) hs
theorem Czp : ∀ (s : List Int) (i : Nat) (v : Int), i < s.length → (s.set i v).sum = s.sum - s.getD i 0 + v
 | x :: r, 0, v, _ => by simp only [List.set_cons_zero, List.sum_cons, List.getD_cons_zero]; omega
 | x :: r, i + 1, v, h => by
  have := Czp r i v (by simpa using h)
  simp only [List.set_cons_succ, List.sum_cons, List.getD_cons_succ, this]; omega
def Ara (L : Nat) (s : List Int) : Prop := s.length = L ∧ ∀ n, 0 ≤ s.getD n 0 ∧ s.getD n 0 < 4
theorem Akc (s : List Int) (i n : Nat) (v : Int) : (s.set i v).getD n 0 = if i = n ∧ i < s.length then v else s.getD n 0 := by
 rw [List.getD_eq_getElem?_getD, List.getElem?_set]
 by_cases h : i = n
 ·subst h
  by_cases h2 : i < s.length
  ·simp [h2]
  ·simp [h2]
 ·simp [h, List.getD_eq_getElem?_getD]
theorem Ckq {L : Nat} {s : List Int} (h : Ara L s) (i : Nat) (v : Int) (hv : 0 ≤ v ∧ v < 4) : Ara L (s.set i v) :=
 ⟨by rw [List.length_set]; exact h.1, fun n => by rw [Akc]; split; exact hv; exact h.2 n⟩
theorem At0 : ∀ {s : List Int} {L : Nat}, Ara L s → 0 ≤ s.sum ∧ s.sum ≤ 3 * L
 | [], L, h => by simp; omega
 | x :: r, L, h => by
  have h0 : 0 ≤ x ∧ x < 4 := h.2 0
  have hl := h.1
  rw [List.length_cons] at hl
  have := At0 (s := r) (L := L - 1) ⟨by omega, fun n => h.2 (n + 1)⟩
  rw [List.sum_cons]; omega
theorem Cgz (mk : Ajp) (at' cs : List Int) (l : OpL) (L : Nat) : ∀ (r : OpL) (i : Nat) (b : Bool) (s : List Int), i + r.length ≤ L → Ara L s → (∀ j, i ≤ j → s.getD j 0 = cs.getD j 0) →
  Ara L (An1 mk at' cs l i r b s).2 ∧ s.sum ≤ (An1 mk at' cs l i r b s).2.sum ∧ ((An1 mk at' cs l i r b s).1 = true → b = true ∨ s.sum < (An1 mk at' cs l i r b s).2.sum) := by
 intro r
 induction r with
 | nil => intro i b s _ hs _; exact ⟨hs, Int.le_refl _, fun h => .inl h⟩
 | cons x r ih =>
  intro i b s hi hs hj
  rw [List.length_cons] at hi
  rw [An1]
  by_cases hc : 0 < Aak x ∧ x.1 ≠ 30 ∧ cs.getD i 0 < Anj (Arz mk at' cs l i x.2.1)
  ·rw [if_pos hc]
   obtain ⟨a1, a2, a3⟩ := ih (i + 1) true (s.set i (Anj (Arz mk at' cs l i x.2.1))) (by omega) (Ckq hs i _ (Brs _)) (fun j hij => by
    rw [Akc, if_neg (by omega)]; exact hj j (by omega))
   have hss := Czp s i (Anj (Arz mk at' cs l i x.2.1)) (by have := hs.1; omega)
   have := hj i (Nat.le_refl i)
   refine ⟨a1, by omega, fun _ => .inr (by omega)⟩
  ·rw [if_neg hc]
   exact ih (i + 1) b s (by omega) hs (fun j hij => hj j (by omega))
def A6g (mk : Ajp) (l : OpL) : Nat → List Int → List Int × Int × List Int
 | 0, s => (s, 0, [])
 | f + 1, s =>
  let q := Af4 l s 0
  let g := An1 mk q.2 s l 0 l false s
  if g.1 = true then A6g mk l f g.2 else (s, q.1, q.2)
theorem Cy1 {R : Type} (N : Nat) (l : OpL) (hl : l.length ≤ 1000000) (hN : l.length < N) (mk : Ajp) (hm : ∀ n, 0 < l.length → 0 ≤ Aeq n mk ∧ Aeq n mk < l.length) (e : Int) (e4 e5 : List Int)
  (K : Ajp → List Int → Int → List Int → Option R) : ∀ (k f : Nat) (s : List Int), Ara l.length s → 3 * l.length - s.sum < k → 3 * l.length - s.sum < f →
  Ae7 N k l mk e s e4 e5 K = K mk (A6g mk l f s).1 (A6g mk l f s).2.1 (A6g mk l f s).2.2 := by
 intro k
 induction k with
 | zero => intro f s hs h _; have := At0 hs; omega
 | succ k ih =>
  intro f s hs hk hf
  have hsum := At0 hs
  obtain ⟨f, rfl⟩ : ∃ g, f = g + 1 := ⟨f - 1, by omega⟩
  simp only [Ae7, Bkd, A6g]
  have hpv := B22 l s 0 hs.1 hs.2 (by omega)
  rw [C2q N l s hs.1 (by omega) hN hs.2, if_pos (by have := hs.1; omega)]
  have h25 := Cy0 (R := R) N l (by omega) mk (Af4 l s 0).2 s (Bft l s 0 hs.1) hs.1 hs.2 (fun n => by have := hpv.2 n; omega) hm e (Af4 l s 0).1 e4 e5
   (fun b c a d i j m o p q => if ((!c) = true) then (K a i j q) else (Ae7 N k b a d m o p K)) N 0 false s (by omega) (by omega) hs.1
  rw [List.drop_zero] at h25
  refine Eq.trans h25 ?_
  have hg := Cgz mk (Af4 l s 0).2 s l l.length l 0 false s (by omega) hs (fun _ _ => rfl)
  cases hb : (An1 mk (Af4 l s 0).2 s l 0 l false s).1
  ·rfl
  ·have hlt : s.sum < (An1 mk (Af4 l s 0).2 s l 0 l false s).2.sum := by
    rcases hg.2.2 hb with h | h
    ·cases h
    ·exact h
   rw [if_neg (by decide), if_pos rfl]
   exact ih f _ hg.1 (by omega) (by omega)
theorem Czq (mk : Ajp) (l : OpL) : ∀ (f : Nat) (s : List Int), Ara l.length s → 3 * l.length - s.sum < f →
  Ara l.length (A6g mk l f s).1 ∧ (A6g mk l f s).2 = Af4 l (A6g mk l f s).1 0 := by
 intro f
 induction f with
 | zero => intro s hs h; have := At0 hs; omega
 | succ f ih =>
  intro s hs hf
  have hg := Cgz mk (Af4 l s 0).2 s l l.length l 0 false s (by omega) hs (fun _ _ => rfl)
  simp only [A6g]
  cases hb : (An1 mk (Af4 l s 0).2 s l 0 l false s).1
  ·rw [if_neg (by decide)]; exact ⟨hs, rfl⟩
  ·have hlt : s.sum < (An1 mk (Af4 l s 0).2 s l 0 l false s).2.sum := by
    rcases hg.2.2 hb with h | h
    ·cases h
    ·exact h
   rw [if_pos rfl]
   exact ih _ hg.1 (by omega)
theorem Cg0 (L : Nat) : ∀ (r : OpL) (i : Nat) (s : List Int), Ara L s → Ara L (Brt i r s)
 | [], _, _, h => h
 | x :: r, i, s, h => by
  rw [Brt]
  split
  ·exact Cg0 L r _ _ (Ckq h i _ (Brs _))
  ·exact Cg0 L r _ _ h
def Biy (l : OpL) : List Int := Brt 0 l (List.replicate l.length 0)
theorem A2u (l : OpL) : Ara l.length (Biy l) :=
 Cg0 _ _ _ _ ⟨by simp, fun n => by rw [List.getD_eq_getElem?_getD, List.getElem?_replicate]; split <;> simp⟩
def Afd (l : OpL) : List Int × Int × List Int := A6g (Afb 0 l []) l (3 * l.length + 1) (Biy l)
theorem C60 {R : Type} (N : Nat) (l : OpL) (hl : l.length ≤ 1000000) (hN : 3 * l.length + 1 ≤ N) (hN2 : l.length < N) (K : List Int → Int → Ajp → List Int → Option R) :
  Ak3 N l (Afb 0 l []) K = K (Afd l).1 (Afd l).2.1 (Afb 0 l []) (Afd l).2.2 := by
 simp only [Ak3, Byn]
 have h0 := At0 (A2u l)
 have h7 := C2t (R := R) N l (by omega) l (Afb 0 l []) 0 [] [] (fun e f g i j m => Ae7 N N e f g i j m (fun a b c d => K b c a d)) N 0 (List.replicate l.length 0) (by omega) (by omega) (by simp)
 rw [List.drop_zero] at h7
 rw [if_pos (by simp only [len]; omega), Int.toNat_natCast]
 refine Eq.trans h7 ?_
 exact Cy1 N l hl hN2 (Afb 0 l []) (fun n h => B21 l n h) 0 [] [] (fun a b c d => K b c a d) N (3 * l.length + 1) (Biy l) (A2u l) (by omega) (by omega)
def Bzc (op c n m : Int) : List Int := Aln (op + 32 * c) :: (beB n (Ahg c).toNat ++ beB m (Ahr op).toNat)
theorem Cw7 (op c n m : Int) (hc : 0 ≤ c ∧ c < 4) : (Bzc op c n m).length ≤ 9 := by
 have := Arx hc
 have := Ary op
 unfold Bzc
 rw [List.length_cons, List.length_append, Agi, Agi]; omega
theorem Cw8 {R : Type} (N : Nat) (a : OpL) (i : Nat) (n m : Int) (c : OpL) (d e f : Int) (g : Ajp) (cs : List Int) (h op p q : Int) (j l o b : List Int) (hi : i < cs.length) (hcs : ∀ n, 0 ≤ cs.getD n 0 ∧ cs.getD n 0 < 4)
  (hop : 0 ≤ op ∧ op ≤ 31) (hN : 8 < N) (hb : b.length + 9 ≤ 70368744177664) (K : OpL → OpL → Int → Int → Int → Ajp → List Int → Int → List Int → List Int → List Int → List Int → Option R) :
  Af5 N a i n m c d e f g cs h op p q j l o b K = K a c d e f g cs h j l o (b ++ Bzc op (cs.getD i 0) n m) := by
 simp only [Af5, Bkf]
 have hc := hcs i
 have hw := Arx hc
 have he := Ary op
 have hin : (0 : Int) ≤ i ∧ (i : Int) < len cs := by simp only [len]; omega
 rw [if_pos hin, Int.toNat_natCast, A0r _ _ _ (by omega), if_pos hin, B9c _ _ hc]
 have h1 : Ahg (cs.getD i 0) = ((Ahg (cs.getD i 0)).toNat : Int) := by omega
 have h2 : Ahr op = ((Ahr op).toNat : Int) := by omega
 rw [h1, Bf3 N _ _ _ hN (by omega) (by simp only [List.length_append, List.length_cons, List.length_nil]; omega), B9b, h2,
  Bf3 N _ _ _ hN (by omega) (by simp only [List.length_append, List.length_cons, List.length_nil, Agi]; omega)]
 have hop2 : wi (op + wi (32 * cs.getD i 0)) = op + 32 * cs.getD i 0 := by rw [Ac8 (i := 32 * cs.getD i 0) (by omega) (by omega), Ac8 (by omega) (by omega)]
 rw [hop2, List.append_assoc, List.append_assoc]
 rfl
def opB (mk : Ajp) (at' cs : List Int) (l : OpL) (i : Nat) (x : Int × Int × Int) : List Int :=
 if x.1 = 19 then [] else if x.1 = 30 then Bzc x.1 (cs.getD i 0) x.2.1 (Arz mk at' cs l i x.2.2)
 else if 0 < Aak x then Bzc x.1 (cs.getD i 0) (Arz mk at' cs l i x.2.1) x.2.2 else Bzc x.1 (cs.getD i 0) x.2.1 x.2.2
def Bqn (mk : Ajp) (at' cs : List Int) (l : OpL) : Nat → OpL → List Int
 | _, [] => []
 | i, x :: r => opB mk at' cs l i x ++ Bqn mk at' cs l (i + 1) r
theorem C4p {R : Type} (N : Nat) (l : OpL) (hl : l.length ≤ 1000000) (hN : 8 < N) (mk : Ajp) (at' cs : List Int) (ha : at'.length = l.length) (hc : cs.length = l.length) (hcs : ∀ n, 0 ≤ cs.getD n 0 ∧ cs.getD n 0 < 4)
  (hv : ∀ n, 0 ≤ at'.getD n 0 ∧ at'.getD n 0 ≤ 1099511627776000) (hm : ∀ n, 0 < l.length → 0 ≤ Aeq n mk ∧ Aeq n mk < l.length) (hop : ∀ x, x ∈ l → 1 ≤ x.1 ∧ x.1 ≤ 30) (e4 e7 : Int) (e8 e9 : List Int)
  (K : Int → List Int → Int → List Int → List Int → List Int → List Int → Option R) : ∀ (k i : Nat) (b : List Int), i ≤ l.length → l.length - i < k → b.length ≤ 9 * i →
  Agx N k l l (len l) i e4 mk cs e7 e8 e9 at' b K = K e4 cs e7 e8 e9 at' (b ++ Bqn mk at' cs l i (l.drop i)) := by
 intro k
 induction k with
 | zero => intro i _ _ h; omega
 | succ k ih =>
  intro i b hi hk hb
  simp only [Agx, Bkh]
  by_cases hlt : i < l.length
  case neg =>
   rw [if_neg (by simp [len]; omega), List.drop_eq_nil_of_le (by omega), Bqn, List.append_nil]
  have hin : (0 : Int) ≤ i ∧ (i : Int) < len l := by simp only [len]; omega
  have hop' := hop l[i] (List.getElem_mem hlt)
  rw [if_pos (by simp [len]; omega), if_pos hin, Ad2 _ _ hlt, List.drop_eq_getElem_cons hlt, Bqn]
  obtain ⟨x, hx⟩ : ∃ x, l[i] = x := ⟨_, rfl⟩
  simp only [hx, A2p] at hop' ⊢
  rw [show (x.1, x.2.1, x.2.2) = x from rfl]
  have hfar : ∀ n, wi (at'.getD (Aeq n mk).toNat 0 - Ba2 at' cs l i) = Arz mk at' cs l i n := by
   intro n
   have h1 := hv (Aeq n mk).toNat
   have h2 := hv i
   have h3 := Arx (hcs i)
   have h4 := Ary (Ab8 l i).1
   unfold Arz
   exact Ac8 (by unfold Ba2; omega) (by unfold Ba2; omega)
  have hil := Cw7 x.1 (cs.getD i 0)
  unfold opB
  by_cases h19 : x.1 = 19
  ·rw [if_pos (by simpa using h19), if_pos h19, Abh (by omega), List.nil_append]
   exact ih (i + 1) b (by omega) (by omega) (by omega)
  rw [if_neg (by simpa using h19), if_neg h19]
  by_cases h30 : x.1 = 30
  ·rw [if_pos (by simpa using h30), if_pos h30]
   have hmk := hm x.2.2 (by omega)
   change (if 0 ≤ Aeq x.2.2 mk ∧ Aeq x.2.2 mk < len at' then Abb N at' cs e7 l (i : Int) (fun a => Af5 N l i x.2.1 (wi (at'.getD (Int.toNat (Aeq x.2.2 mk)) 0 - a)) l (len l) i e4 mk cs e7 x.1 x.2.1 x.2.2 e8 e9 at' b _) else none) = _
   rw [if_pos (by simp only [len]; omega), Cou N at' cs e7 l i hlt ha hc hcs hv, Cw8 N _ _ _ _ _ _ _ _ _ _ _ _ _ _ _ _ _ _ (by omega) hcs (by omega) hN (by omega), hfar, Abh (by omega), ih (i + 1) _ (by omega) (by omega) (by have := hil x.2.1 (Arz mk at' cs l i x.2.2) (hcs i); rw [List.length_append]; omega), List.append_assoc]
  rw [if_neg (by simpa using h30), if_neg h30]
  by_cases h0 : Aak x > 0
  ·rw [if_pos (by simpa using h0), if_pos h0]
   have hmk := hm x.2.1 (by omega)
   change (if 0 ≤ Aeq x.2.1 mk ∧ Aeq x.2.1 mk < len at' then Abb N at' cs e7 l (i : Int) (fun a => Af5 N l i (wi (at'.getD (Int.toNat (Aeq x.2.1 mk)) 0 - a)) x.2.2 l (len l) i e4 mk cs e7 x.1 x.2.1 x.2.2 e8 e9 at' b _) else none) = _
   rw [if_pos (by simp only [len]; omega), Cou N at' cs e7 l i hlt ha hc hcs hv, Cw8 N _ _ _ _ _ _ _ _ _ _ _ _ _ _ _ _ _ _ (by omega) hcs (by omega) hN (by omega), hfar, Abh (by omega), ih (i + 1) _ (by omega) (by omega) (by have := hil (Arz mk at' cs l i x.2.1) x.2.2 (hcs i); rw [List.length_append]; omega), List.append_assoc]
  ·rw [if_neg (by simpa using h0), if_neg h0, Cw8 N _ _ _ _ _ _ _ _ _ _ _ _ _ _ _ _ _ _ (by omega) hcs (by omega) hN (by omega), Abh (by omega), ih (i + 1) _ (by omega) (by omega) (by have := hil x.2.1 x.2.2 (hcs i); rw [List.length_append]; omega), List.append_assoc]
def Asu (l : OpL) : List Int := Bqn (Afb 0 l []) (Afd l).2.2 (Afd l).1 l 0 l
theorem C61 {R : Type} (N : Nat) (l : OpL) (hl : l.length ≤ 1000000) (hN : 3 * l.length + 9 ≤ N) (hop : ∀ x, x ∈ l → 1 ≤ x.1 ∧ x.1 ≤ 30) (K : List Int → Int → List Int → List Int → Option R) :
  Aq3 N l K = K (Afd l).1 (Afd l).2.1 (Asu l) (Afd l).2.2 := by
 simp only [Aq3, Byp]
 rw [C4o N l (by omega) (by omega), C60 N l hl (by omega) (by omega)]
 have h0 := At0 (A2u l)
 have hok := Czq (Afb 0 l []) l (3 * l.length + 1) (Biy l) (A2u l) (by omega)
 have h2 : (Afd l).2.2 = (Af4 l (Afd l).1 0).2 := by rw [show (Afd l).2 = Af4 l (Afd l).1 0 from hok.2]
 have hs : Ara l.length (Afd l).1 := hok.1
 have hpv := B22 l (Afd l).1 0 hs.1 hs.2 (by omega)
 have := C4p (R := R) N l hl (by omega) (Afb 0 l []) (Afd l).2.2 (Afd l).1 (by rw [h2]; exact Bft l _ 0 hs.1) hs.1 hs.2 (fun n => by rw [h2]; have := hpv.2 n; omega) (fun n h => B21 l n h) hop 0 (Afd l).2.1 [] []
  (fun e a b f g c d => K a b d c) N 0 [] (by omega) (by omega) (by simp)
 rw [List.drop_zero, List.nil_append] at this
 exact this
theorem A5u {nm : List UInt8} {data : Aar} {l : OpL} {gl : Aa5} {procs labels : Int} (h : Aub nm data l gl procs labels = 0) :
  Avm data l procs labels = false ∧ A90 nm data l gl procs labels = true ∧ A91 l procs labels = true := by
 unfold Aub at h
 split at h
 ·omega
 ·rename_i h1
  split at h
  ·rename_i h2
   split at h
   ·rename_i h3; exact ⟨by simpa using h1, h2, h3⟩
   ·omega
  ·omega
theorem Cpp {nm : List UInt8} {data : Aar} {l : OpL} {gl : Aa5} {procs labels : Int} (h : A90 nm data l gl procs labels = true) : ∀ o, o ∈ l → Ais data.length procs labels o = true := by
 simp only [A90, Bool.and_eq_true, decide_eq_true_eq] at h
 exact List.all_eq_true.mp h.1.2
def Agp (nm : List UInt8) (data : Aar) (l : OpL) (gl : Aa5) (procs labels : Int) : Int :=
 if Aub nm data l gl procs labels ≠ 0 then Aub nm data l gl procs labels
 else if 32767 < (Asu l).length ∨ 255 < nm.length ∨ 255 < gl.length then 2 else 0
theorem C4q {R : Type} {N : Nat} {nm : List UInt8} {data : Aar} {gl : Aa5} (F : Bcu N nm data gl) (hN : 120009 ≤ N) (l : OpL) (procs labels : Int) (d : Int → Int → List Int → List Int → List Int → Option R) (e : List Int → Int → Int → List Int → List Int → Option R) :
  Ahs N nm data l gl procs labels d e = if Agp nm data l gl procs labels = 0 then e (Afd l).1 (Afd l).2.1 0 (Asu l) (Afd l).2.2 else d 0 (Agp nm data l gl procs labels) [] [] [] := by
 simp only [Ahs, Bt4]
 rw [B1i F]
 by_cases hc : Aub nm data l gl procs labels = 0
 case neg =>
  have he : Agp nm data l gl procs labels = Aub nm data l gl procs labels := by unfold Agp; rw [if_pos hc]
  rw [he, if_pos (by simpa using hc), if_neg hc]
 obtain ⟨h1, h2, h3⟩ := A5u hc
 have hall := Cpp h2
 simp only [Avm, Bool.or_eq_false_iff, decide_eq_false_iff_not] at h1
 have he : Agp nm data l gl procs labels = if 32767 < (Asu l).length ∨ 255 < nm.length ∨ 255 < gl.length then 2 else 0 := by unfold Agp; rw [if_neg (fun h => h hc)]
 rw [if_neg (by simpa using hc), C61 N l (by omega) (by omega) (fun x hx => Bfs (hall x hx))]
 simp only [len, decide_eq_true_eq]
 by_cases a : 32767 < (Asu l).length
 ·rw [if_pos (by omega), show Agp nm data l gl procs labels = 2 by rw [he, if_pos (.inl a)]]; rfl
 rw [if_neg (by omega)]
 by_cases b : 255 < nm.length
 ·rw [if_pos (by omega), show Agp nm data l gl procs labels = 2 by rw [he, if_pos (.inr (.inl b))]]; rfl
 rw [if_neg (by omega)]
 by_cases c : 255 < gl.length
 ·rw [if_pos (by omega), show Agp nm data l gl procs labels = 2 by rw [he, if_pos (.inr (.inr c))]]; rfl
 rw [if_neg (by omega), show Agp nm data l gl procs labels = 0 by rw [he, if_neg (show ¬(32767 < (Asu l).length ∨ 255 < nm.length ∨ 255 < gl.length) by omega)]]; rfl
def Biz (w : List Int) : List Int := w.flatMap fun x => beB x 4
theorem Bzd (x : Int) (r : List Int) : Biz (x :: r) = beB x 4 ++ Biz r := by simp [Biz]
theorem Bi0 (w : List Int) : (Biz w).length = 4 * w.length := by
 induction w with
 | nil => rfl
 | cons x r ih => rw [Bzd, List.length_append, Agi, ih, List.length_cons]; omega
theorem C2u {R : Type} (N : Nat) (w : List Int) (hw : w.length ≤ 1099511627776) (hN : 8 < N) (e0 : Aar) (e1 e2 : Int) (e6 : List UInt8) (e7 : Aar) (e8 : OpL) (e9 : Aa5) (e10 e11 : Int) (e12 : List Int)
  (K : Aar → Int → Int → List UInt8 → Aar → OpL → Aa5 → Int → Int → List Int → List Int → Option R) : ∀ (k i : Nat) (b : List Int), i ≤ w.length → w.length - i < k → b.length + 4 * (w.length - i) ≤ 70368744177664 →
  Afs N k e0 e1 e2 w (len w) i e6 e7 e8 e9 e10 e11 e12 b K = K e0 e1 e2 e6 e7 e8 e9 e10 e11 e12 (b ++ Biz (w.drop i)) := by
 intro k
 induction k with
 | zero => intro i _ _ h; omega
 | succ k ih =>
  intro i b hi hk hb
  simp only [Afs, Bkk]
  by_cases hlt : i < w.length
  case neg =>
   rw [if_neg (by simp [len]; omega), List.drop_eq_nil_of_le (by omega)]
   simp [Biz]
  have hin : (0 : Int) ≤ i ∧ (i : Int) < len w := by simp only [len]; omega
  rw [if_pos (by simp [len]; omega), if_pos hin, Ad2 _ _ hlt, List.drop_eq_getElem_cons hlt, show (4 : Int) = ((4 : Nat) : Int) from rfl, Bf3 N _ 4 b hN (by omega) (by omega), Abh (by omega),
   ih (i + 1) _ (by omega) (by omega) (by rw [List.length_append, Agi]; omega), Bzd, List.append_assoc]
def Axg : Aa5 → List Int
 | [] => []
 | g :: r => Aln g.1 :: (beB g.2 2 ++ Axg r)
theorem B9e : ∀ g : Aa5, (Axg g).length = 3 * g.length
 | [] => rfl
 | x :: r => by rw [Axg, List.length_cons, List.length_append, Agi, B9e r, List.length_cons]; omega
theorem Cw9 {R : Type} (N : Nat) (g : Aa5) (hg : g.length ≤ 1099511627776) (hN : 8 < N) (e3 : List Int)
  (K : List Int → List Int → Option R) : ∀ (k i : Nat) (b : List Int), i ≤ g.length → g.length - i < k → b.length + 3 * (g.length - i) ≤ 70368744177664 →
  Ae9 N k g (len g) i e3 b K = K e3 (b ++ Axg (g.drop i)) := by
 intro k
 induction k with
 | zero => intro i _ _ h; omega
 | succ k ih =>
  intro i b hi hk hb
  simp only [Ae9, Bkq]
  by_cases hlt : i < g.length
  case neg =>
   rw [if_neg (by simp [len]; omega), List.drop_eq_nil_of_le (by omega)]
   simp [Axg]
  have hin : (0 : Int) ≤ i ∧ (i : Int) < len g := by simp only [len]; omega
  rw [if_pos (by simp [len]; omega), if_pos hin, Ad2 _ _ hlt, List.drop_eq_getElem_cons hlt, A0r _ _ _ (by omega), show (2 : Int) = ((2 : Nat) : Int) from rfl,
   Bf3 N _ 2 _ hN (by omega) (by rw [List.length_append]; simp only [List.length_cons, List.length_nil]; omega), Abh (by omega),
   ih (i + 1) _ (by omega) (by omega) (by simp only [List.length_append, Agi, List.length_cons, List.length_nil]; omega), Axg, List.append_assoc, List.append_assoc]
  rfl
def A93 (d : List UInt8 × Bool × List Int) : List Int :=
 if d.2.1 = true then Aln 0 :: Aln d.1.length :: bytesOf d.1 else Aln 1 :: (beB d.2.2.length 2 ++ Biz d.2.2)
def A7w : Aar → List Int
 | [] => []
 | d :: r => A93 d ++ A7w r
theorem Cg1 (d : List UInt8 × Bool × List Int) : (A93 d).length ≤ 3 + 4 * Bct d := by
 unfold A93 Bct
 by_cases h : d.2.1 = true
 ·rw [if_pos h, if_pos h]; simp only [List.length_cons, bytesOf, List.length_map]; omega
 ·rw [if_neg h, if_neg h]; simp only [List.length_cons, List.length_append, Agi, Bi0]; omega
theorem B9f (d : List UInt8 × Bool × List Int) : 0 ≤ Bct d := by unfold Bct; split <;> omega
theorem Bxx (d : List UInt8 × Bool × List Int) (r : Aar) : A2o (d :: r) = Bct d + A2o r := by simp [A2o]
theorem Cov : ∀ l : Aar, 0 ≤ A2o l
 | [] => by simp [A2o]
 | d :: r => by rw [Bxx]; have := B9f d; have := Cov r; omega
theorem Bxy : ∀ l : Aar, (A7w l).length ≤ 3 * l.length + 4 * A2o l
 | [] => by simp [A7w, A2o]
 | d :: r => by
  have h1 := Cg1 d
  have h2 := Bxy r
  rw [A7w, List.length_append, Bxx, List.length_cons]; omega
theorem C4r {R : Type} (N : Nat) (l : Aar) (hl : l.length ≤ 1099511627776) (hN : 8 < N) (hw : ∀ d, d ∈ l → d.2.2.length < N ∧ d.2.2.length ≤ 1099511627776) (e3 : List UInt8) (e4 : Aar) (e5 : OpL) (e6 : Aa5) (e7 e8 : Int) (e9 : List Int)
  (K : List UInt8 → Aar → OpL → Aa5 → Int → Int → List Int → List Int → Option R) : ∀ (k i : Nat) (b : List Int), i ≤ l.length → l.length - i < k → b.length + 3 * (l.length - i) + 4 * A2o (l.drop i) ≤ 70368744177664 →
  Ae8 N k l (len l) i e3 e4 e5 e6 e7 e8 e9 b K = K e3 e4 e5 e6 e7 e8 e9 (b ++ A7w (l.drop i)) := by
 intro k
 induction k with
 | zero => intro i _ _ h; omega
 | succ k ih =>
  intro i b hi hk hb
  simp only [Ae8, Bkn]
  by_cases hlt : i < l.length
  case neg =>
   rw [if_neg (by simp [len]; omega), List.drop_eq_nil_of_le (by omega)]
   simp [A7w]
  have hin : (0 : Int) ≤ i ∧ (i : Int) < len l := by simp only [len]; omega
  have hd' : l.drop i = l[i] :: l.drop (i + 1) := List.drop_eq_getElem_cons hlt
  have hw' := hw l[i] (List.getElem_mem hlt)
  rw [hd', Bxx] at hb
  rw [if_pos (by simp [len]; omega), if_pos hin, Ad2 _ _ hlt, hd', A7w]
  obtain ⟨x, hx⟩ : ∃ x, l[i] = x := ⟨_, rfl⟩
  simp only [hx] at hw' hb ⊢
  have hx1 := Cg1 x
  have hx2 := B9f x
  have hx3 := Cov (l.drop (i + 1))
  have hnext : ∀ b' : List Int, b'.length = b.length + (A93 x).length → b'.length + 3 * (l.length - (i + 1)) + 4 * A2o (l.drop (i + 1)) ≤ 70368744177664 := by intro b' h; omega
  by_cases ht : x.2.1 = true
  ·have hdl : (A93 x).length = 2 + x.1.length := by unfold A93; rw [if_pos ht]; simp only [List.length_cons, bytesOf, List.length_map]; omega
   rw [if_pos ht, A0r _ _ _ (by omega), Cw6 _ _ _ (by simp only [List.length_append, List.length_cons, List.length_nil]; omega), Abh (by omega),
    ih (i + 1) _ (by omega) (by omega) (hnext _ (by simp only [List.length_append, List.length_cons, List.length_nil, bytesOf, List.length_map]; omega))]
   unfold A93
   rw [if_pos ht, List.append_assoc, List.append_assoc]; rfl
  ·have hdl : (A93 x).length = 3 + 4 * x.2.2.length := by unfold A93; rw [if_neg ht]; simp only [List.length_cons, List.length_append, Agi, Bi0]; omega
   rw [if_neg ht, A0r _ _ _ (by omega), show (2 : Int) = ((2 : Nat) : Int) from rfl, Bf3 N _ 2 _ hN (by omega) (by simp only [List.length_append, List.length_cons, List.length_nil]; omega)]
   have h27 := C2u (R := R) N x.2.2 hw'.2 hN l (len l) i e3 e4 e5 e6 e7 e8 e9 (fun a c e f g j m n o p q => Ae8 N k a c (wi (e + 1)) f g j m n o p q K) N 0
    (b ++ [Aln 1] ++ beB (len x.2.2) 2) (by omega) (by omega) (by simp only [List.length_append, List.length_cons, List.length_nil, Agi]; omega)
   refine Eq.trans h27 ?_
   rw [List.drop_zero, Abh (by omega),
    ih (i + 1) _ (by omega) (by omega) (hnext _ (by simp only [List.length_append, List.length_cons, List.length_nil, Agi, Bi0]; omega))]
   unfold A93
   rw [if_neg ht, List.append_assoc, List.append_assoc, List.append_assoc]; simp [len]
def Bze (nm : List UInt8) (data : Aar) (l : OpL) (gl : Aa5) : List Int :=
 ([] ++ [Aln 98] ++ [Aln 98] ++ [Aln 1] ++ (Aln nm.length :: bytesOf nm) ++ beB (len data) 2 ++ A7w data ++ [Aln (len gl)] ++ Axg gl ++ beB (len (Asu l)) 4) ++ Asu l
def Bi1 (nm : List UInt8) (data : Aar) (l : OpL) (gl : Aa5) : List Int := Bze nm data l gl ++ beB (A92 0 0 (Bze nm data l gl)) 4
theorem Asm {nm : List UInt8} {data : Aar} {l : OpL} {gl : Aa5} {procs labels : Int} (h : Agp nm data l gl procs labels = 0) :
  Aub nm data l gl procs labels = 0 ∧ (Asu l).length ≤ 32767 ∧ nm.length ≤ 255 ∧ gl.length ≤ 255 := by
 unfold Agp at h
 split at h
 ·rename_i h1; exact absurd h h1
 ·rename_i h1
  split at h
  ·cases h
  ·rename_i h2; exact ⟨by omega, by omega, by omega, by omega⟩
theorem Bvr {nm : List UInt8} {data : Aar} {l : OpL} {gl : Aa5} {procs labels : Int} (h : Agp nm data l gl procs labels = 0) : (Bze nm data l gl).length ≤ 100000 := by
 obtain ⟨h1, h2, h3, h4⟩ := Asm h
 obtain ⟨h5, _, _⟩ := A5u h1
 simp only [Avm, Bool.or_eq_false_iff, decide_eq_false_iff_not] at h5
 have := Bxy data
 unfold Bze
 simp only [List.length_append, List.length_cons, List.length_nil, bytesOf, List.length_map, Agi, B9e]
 omega
theorem C62 {R : Type} {N : Nat} {nm : List UInt8} {data : Aar} {gl : Aa5} (F : Bcu N nm data gl) (hN : 120009 ≤ N) (l : OpL) (procs labels : Int) (K : Int → List Int → Option R) :
  Anm N nm data l gl procs labels K = if Agp nm data l gl procs labels = 0 then K 0 (Bi1 nm data l gl) else K (Agp nm data l gl procs labels) [] := by
 simp only [Anm, Byr]
 rw [C4q F hN]
 by_cases he : Agp nm data l gl procs labels = 0
 case neg => rw [if_neg he, if_neg he, if_pos (by simpa using he)]
 rw [if_pos he, if_pos he, if_neg (by decide)]
 obtain ⟨h1, h2, h3, h4⟩ := Asm he
 obtain ⟨h5, _, _⟩ := A5u h1
 simp only [Avm, Bool.or_eq_false_iff, decide_eq_false_iff_not] at h5
 have hdl := Bxy data
 have hpl := Bvr he
 rw [A0r _ _ _ (by simp), A0r _ _ _ (by simp), A0r _ _ _ (by simp), Cw6 _ _ _ (by simp; omega), show (2 : Int) = ((2 : Nat) : Int) from rfl,
  Bf3 N _ 2 _ (by omega) (by omega) (by simp only [List.length_append, List.length_cons, List.length_nil, bytesOf, List.length_map]; omega)]
 have hd := C4r (R := R) N data (by omega) (by omega) (fun d hd => ⟨(F.d3 d hd).2, (F.d1 d hd).2⟩) nm data l gl procs labels (Asu l)
  (fun m n o f p q h i => Aam N ((len f)) i (fun j => Ae9 N N f ((len f)) 0 h j (fun a g => Aau N ((len a)) 4 g (fun b => if ((((List.length b) + (List.length a)) * (1 : Nat)) ≤ (70368744177664 : Nat)) then (Aeb N ((b ++ a)) (fun c => Aau N c 4 ((b ++ a)) (fun e => K 0 e))) else none)))) N 0
  ([] ++ [Aln 98] ++ [Aln 98] ++ [Aln 1] ++ (Aln nm.length :: bytesOf nm) ++ beB (len data) 2) (by omega) (by omega) (by rw [List.drop_zero]; simp only [List.length_append, List.length_cons, List.length_nil, bytesOf, List.length_map, Agi]; omega)
 refine Eq.trans hd ?_
 rw [List.drop_zero, A0r _ _ _ (by simp only [List.length_append, List.length_cons, List.length_nil, bytesOf, List.length_map, Agi]; omega)]
 have hg := Cw9 (R := R) N gl (by omega) (by omega) (Asu l) (fun a g => Aau N ((len a)) 4 g (fun b => if ((((List.length b) + (List.length a)) * (1 : Nat)) ≤ (70368744177664 : Nat)) then (Aeb N ((b ++ a)) (fun c => Aau N c 4 ((b ++ a)) (fun e => K 0 e))) else none)) N 0
  ([] ++ [Aln 98] ++ [Aln 98] ++ [Aln 1] ++ (Aln nm.length :: bytesOf nm) ++ beB (len data) 2 ++ A7w data ++ [Aln (len gl)]) (by omega) (by omega) (by simp only [List.length_append, List.length_cons, List.length_nil, bytesOf, List.length_map, Agi]; omega)
 refine Eq.trans hg ?_
 have hpl2 := hpl
 unfold Bze at hpl2
 simp only [List.length_append, List.length_cons, List.length_nil, bytesOf, List.length_map, Agi] at hpl2
 rw [List.drop_zero, show (4 : Int) = ((4 : Nat) : Int) from rfl, Bf3 N _ 4 _ (by omega) (by omega) (by simp only [List.length_append, List.length_cons, List.length_nil, bytesOf, List.length_map, Agi]; omega),
  if_pos (by simp only [List.length_append, List.length_cons, List.length_nil, bytesOf, List.length_map, Agi]; omega)]
 change Aeb N (Bze nm data l gl) (fun c => Aau N c ((4 : Nat) : Int) (Bze nm data l gl) (fun e => K 0 e)) = _
 rw [Cot N _ (by omega) (by omega), Bf3 N _ 4 _ (by omega) (by omega) (by omega)]
 rfl
def cls (v : Int) : Int := if v = 0 then 0 else if -128 ≤ v ∧ v ≤ 127 then 1 else if -32768 ≤ v ∧ v ≤ 32767 then 2 else 3
def ext (op : Int) : Int := if op = 24 then 1 else if op = 29 then 2 else if op = 30 then 4 else 0
def wid (k : Int) : Int := if k = 3 then 4 else k
theorem Cta {R : Type} (N : Nat) (v : Int) (K : Int → Option R) : Ac1 N v K = K (cls v) := by
 unfold Ac1 cls
 simp only [beq_iff_eq, decide_eq_true_eq]
 repeat' split
 all_goals first | rfl | (exfalso; omega)
theorem Bi2 {R : Type} (N : Nat) (v : Int) (K : Int → Option R) : Abi N v K = K (cls v) := by
 unfold Abi cls
 simp only [beq_iff_eq, decide_eq_true_eq]
 repeat' split
 all_goals first | rfl | (exfalso; omega)
theorem B47 {R : Type} (N : Nat) (v : Int) (K : Int → Option R) : Ab2 N v K = K (ext v) := by
 unfold Ab2 ext
 simp only [beq_iff_eq]
 repeat' split
 all_goals first | rfl | (exfalso; omega)
theorem Bi3 {R : Type} (N : Nat) (v : Int) (K : Int → Option R) : Abu N v K = K (ext v) := by
 unfold Abu ext
 simp only [beq_iff_eq]
 repeat' split
 all_goals first | rfl | (exfalso; omega)
theorem Bi4 {R : Type} (N : Nat) (v : Int) (K : Int → Option R) : Abt N v K = K (wid v) := by
 unfold Abt wid
 simp only [beq_iff_eq]
 split <;> rfl
theorem C4s {n : Nat} (h : n ≤ 6) : (256 : Int) ^ n ≤ 281474976710656 := by
 have : n = 0 ∨ n = 1 ∨ n = 2 ∨ n = 3 ∨ n = 4 ∨ n = 5 ∨ n = 6 := by omega
 rcases this with rfl | rfl | rfl | rfl | rfl | rfl | rfl <;> decide
theorem B48 {R : Type} (N : Nat) (b : List Int) (hb : Ad9 b) (n : Int) (K : Int → List Int → Int → Bool → Option R) : ∀ (m k : Nat) (v i : Int) (a : Nat), m < k → i + m = n → 0 ≤ i → n ≤ 7 → 0 ≤ v → v < 256 ^ i.toNat → a + m ≤ b.length → b.length ≤ reachBytes →
  Aeh N k v n i b a false K = K (uns v (seg b a m)) b ((a + m : Nat) : Int) false
 | m, 0, _, _, _, hk, _, _, _, _, _, _, _ => by omega
 | 0, k + 1, v, i, a, _, hi, _, _, _, _, _, _ => by
  simp only [Aeh, Avr, wi, len]
  rw [if_neg (by simp; omega)]
  simp [seg, uns]
 | m + 1, k + 1, v, i, a, hk, hi, h0, hn, hv, hlt, ha, hl => by
  unfold reachBytes at hl
  simp only [Aeh, Avr, wi, len]
  have hin : (0 : Int) ≤ a ∧ (a : Int) < (b.length : Nat) := by omega
  rw [if_pos (by simp; omega), if_pos hin]
  have hx := hb.get (i := a) (by omega)
  have hv7 : v < 36028797018963968 := by
   have h7 := C4s (n := i.toNat) (by omega)
   omega
  have e1 : Int.toNat (a : Int) = a := by simp
  simp only [e1]
  rw [w64 (x := b.getD a 0) (by omega), C3y ⟨hv, hv7⟩ hx, w64 (x := i + 1) (by omega), w64 (x := (a : Int) + 1) (by omega)]
  have := B48 N b hb n K m k (v * 256 + b.getD a 0) (i + 1) (a + 1) (by omega) (by omega) (by omega) hn (by omega) (by
   have : (i + 1).toNat = i.toNat + 1 := by omega
   rw [this, Int.pow_succ]; omega) (by omega) hl
  rw [show ((a : Int) + 1) = ((a + 1 : Nat) : Int) by omega, this, C6f (by omega)]
  simp only [uns, List.foldl_cons]
  congr 1
  omega
theorem Bmd {R : Type} (N : Nat) (b : List Int) (hb : Ad9 b) (hl : b.length ≤ reachBytes) (n a : Nat) (K : Int → List Int → Int → Bool → Option R) (hN : 8 ≤ N) (hn : n ≤ 7) (ha : a ≤ b.length) :
  Aag N n b a false K = if a + n ≤ b.length then K (uns 0 (seg b a n)) b ((a + n : Nat) : Int) false else K 0 b a true := by
 have hl' := hl
 unfold reachBytes at hl'
 simp only [Aag, A0w, wi, len]
 simp only [Bool.false_eq_true, if_false, decide_eq_true_eq]
 rw [w64 (by omega)]
 by_cases h : a + n ≤ b.length
 ·rw [if_neg (by omega), if_pos h]
  rw [B48 N b hb n _ n N 0 0 a (by omega) (by omega) (by omega) (by omega) (by omega) (by simp) h hl]
 ·rw [if_pos (by omega), if_neg h]
theorem Bvs {R : Type} (N : Nat) (b : List Int) (n a : Int) (K : Int → List Int → Int → Bool → Option R) :
  Aag N n b a true K = K 0 b a true := by
 simp only [Aag, A0w, wi, len]; simp
def sgn (l : List Int) : Int := if 128 ≤ l.getD 0 0 then uns 0 l - 256 ^ l.length else uns 0 l
theorem A5v {b : List Int} {a n : Nat} (h : a + n ≤ b.length) : (seg b a n).length = n := by simp [seg]; omega
theorem C2v {l : List Int} {n : Nat} (hl : l.length = n) (hn : n = 0 ∨ n = 1 ∨ n = 2 ∨ n = 4) : l = [] ∨ (∃ a, l = [a]) ∨ (∃ a b, l = [a, b]) ∨ ∃ a b c d, l = [a, b, c, d] := by
 match l, hl with
 | [], _ => exact .inl rfl
 | [a], _ => exact .inr (.inl ⟨a, rfl⟩)
 | [a, b], _ => exact .inr (.inr (.inl ⟨a, b, rfl⟩))
 | [a, b, c], h => simp at h; omega
 | [a, b, c, d], _ => exact .inr (.inr (.inr ⟨a, b, c, d, rfl⟩))
 | _ :: _ :: _ :: _ :: _ :: _, h => simp at h; omega
theorem Bnj {b : List Int} (hb : Ad9 b) (a n : Nat) : Ad9 (seg b a n) := (hb.drop a).take n
theorem Ckr {l : List Int} (h : Ad9 l) : ∀ {v : Int}, 0 ≤ v → 0 ≤ uns v l := by
 induction l with
 | nil => intro v hv; exact hv
 | cons x l ih =>
  intro v hv
  have := h x (by simp)
  simp only [uns, List.foldl_cons]
  exact ih (fun y hy => h y (by simp [hy])) (by omega)
theorem Bxz (nm : List UInt8) (data : Aar) (l : OpL) (gl : Aa5) : (Bi1 nm data l gl).length = (Bze nm data l gl).length + 4 := by
 unfold Bi1; rw [List.length_append, Agi]
theorem take_set {α : Type} (l : List α) (n j : Nat) (v : α) : (l.set j v).take n = (l.take n).set j v := List.take_set
theorem C4t (l : List Int) (h : 4 ≤ l.length) : seg l (l.length - 4) 4 = l.drop (l.length - 4) := by
 unfold seg; exact List.take_of_length_le (by rw [List.length_drop]; omega)
theorem Blw {R : Type} (N : Nat) (b : List Int) (hb : Ad9 b) (hl : b.length ≤ reachBytes) (n a : Nat) (K : Int → List Int → Int → Bool → Option R) (hN : 8 ≤ N) (hn : n = 0 ∨ n = 1 ∨ n = 2 ∨ n = 4) (ha : a ≤ b.length) :
  Aa2 N n b a false K = if a + n ≤ b.length then K (sgn (seg b a n)) b ((a + n : Nat) : Int) false else K 0 b a true := by
 simp only [Aa2, Avs, wi, len]
 rw [Bmd N b hb hl n a _ hN (by omega) ha]
 by_cases h : a + n ≤ b.length
 ·rw [if_pos h, if_pos h]
  have hs := Bnj hb a n
  rcases hn with rfl | rfl | rfl | rfl
  ·simp [seg, sgn, uns]
  ·obtain h1 | ⟨x, h1⟩ | ⟨_, _, h1⟩ | ⟨_, _, _, _, h1⟩ := C2v (A5v h) (by omega) <;> have hlen := A5v h <;> rw [h1] at hlen hs ⊢ <;> simp at hlen
   have hx := hs x (by simp)
   have e1 : IntKind.i64.wrap (8 * ((1 : Nat) : Int)) = 8 := by decide
   simp only [e1]
   have e2 : IntKind.i64.wrap (8 - 1) = 7 := by decide
   simp only [e2]
   have e3 : Avo .i64 1 7 = 128 := by decide
   have e4 : Avo .i64 1 8 = 256 := by decide
   simp only [e3, e4, uns, sgn, List.foldl_cons, List.foldl_nil, List.getD_cons_zero, List.length_cons, List.length_nil]
   simp
   by_cases h2 : 128 ≤ x
   ·rw [if_pos h2, if_pos h2, w64 (by omega)]
   ·rw [if_neg h2, if_neg h2]
  ·obtain h1 | ⟨x, h1⟩ | ⟨x, y, h1⟩ | ⟨_, _, _, _, h1⟩ := C2v (A5v h) (by omega) <;> have hlen := A5v h <;> rw [h1] at hlen hs ⊢ <;> simp at hlen
   have hx := hs x (by simp)
   have hy := hs y (by simp)
   have e1 : IntKind.i64.wrap (8 * ((2 : Nat) : Int)) = 16 := by decide
   simp only [e1]
   have e2 : IntKind.i64.wrap (16 - 1) = 15 := by decide
   simp only [e2]
   have e3 : Avo .i64 1 15 = 32768 := by decide
   have e4 : Avo .i64 1 16 = 65536 := by decide
   simp only [e3, e4, uns, sgn, List.foldl_cons, List.foldl_nil, List.getD_cons_zero, List.length_cons, List.length_nil]
   simp
   by_cases h2 : 128 ≤ x
   ·rw [if_pos (by omega), if_pos h2, w64 (by omega)]
   ·rw [if_neg (by omega), if_neg h2]
  ·obtain h1 | ⟨x, h1⟩ | ⟨x, y, h1⟩ | ⟨x, y, z, t, h1⟩ := C2v (A5v h) (by omega) <;> have hlen := A5v h <;> rw [h1] at hlen hs ⊢ <;> simp at hlen
   have hx := hs x (by simp)
   have hy := hs y (by simp)
   have hz := hs z (by simp)
   have ht := hs t (by simp)
   have e1 : IntKind.i64.wrap (8 * ((4 : Nat) : Int)) = 32 := by decide
   simp only [e1]
   have e2 : IntKind.i64.wrap (32 - 1) = 31 := by decide
   simp only [e2]
   have e3 : Avo .i64 1 31 = 2147483648 := by decide
   have e4 : Avo .i64 1 32 = 4294967296 := by decide
   simp only [e3, e4, uns, sgn, List.foldl_cons, List.foldl_nil, List.getD_cons_zero, List.length_cons, List.length_nil]
   simp
   by_cases h2 : 128 ≤ x
   ·rw [if_pos (by omega), if_pos h2, w64 (by omega)]
   ·rw [if_neg (by omega), if_neg h2]
 ·rw [if_neg h, if_neg h]
  rcases hn with rfl | rfl | rfl | rfl
  ·omega
  all_goals
   have e1 : IntKind.i64.wrap (8 * ((1 : Nat) : Int)) = 8 := by decide
   have e2 : IntKind.i64.wrap (8 - 1) = 7 := by decide
   have e3 : Avo .i64 1 7 = 128 := by decide
   have f1 : IntKind.i64.wrap (8 * ((2 : Nat) : Int)) = 16 := by decide
   have f2 : IntKind.i64.wrap (16 - 1) = 15 := by decide
   have f3 : Avo .i64 1 15 = 32768 := by decide
   have g1 : IntKind.i64.wrap (8 * ((4 : Nat) : Int)) = 32 := by decide
   have g2 : IntKind.i64.wrap (32 - 1) = 31 := by decide
   have g3 : Avo .i64 1 31 = 2147483648 := by decide
   simp only [e1, e2, e3, f1, f2, f3, g1, g2, g3]
   simp
theorem Bx0 {R : Type} (N : Nat) (b : List Int) (n a : Int) (hn : n = 0 ∨ n = 1 ∨ n = 2 ∨ n = 4) (K : Int → List Int → Int → Bool → Option R) :
  Aa2 N n b a true K = K 0 b a true := by
 simp only [Aa2, Avs, wi, len]
 rw [Bvs]
 have e1 : IntKind.i64.wrap (8 * 1) = 8 := by decide
 have e2 : IntKind.i64.wrap (8 - 1) = 7 := by decide
 have e3 : Avo .i64 1 7 = 128 := by decide
 have f1 : IntKind.i64.wrap (8 * 2) = 16 := by decide
 have f2 : IntKind.i64.wrap (16 - 1) = 15 := by decide
 have f3 : Avo .i64 1 15 = 32768 := by decide
 have g1 : IntKind.i64.wrap (8 * 4) = 32 := by decide
 have g2 : IntKind.i64.wrap (32 - 1) = 31 := by decide
 have g3 : Avo .i64 1 31 = 2147483648 := by decide
 rcases hn with rfl | rfl | rfl | rfl <;> (try simp only [e1, e2, e3, f1, f2, f3, g1, g2, g3]) <;> rfl
theorem Brc {R : Type} (N : Nat) (l : List Int) (hb : Ad9 l) (hl : l.length ≤ 7) (K : Int → Option R) : ∀ (m k a : Nat) (v : Int), m < k → a + m = l.length → 0 ≤ v → v < 256 ^ a →
  Afe N k l v a K = K (uns v (l.drop a))
 | m, 0, _, _, hk, _, _, _ => by omega
 | 0, k + 1, a, v, _, ha, _, _ => by
  simp only [Afe, Azk, wi, len]
  rw [if_neg (by simp; omega), List.drop_eq_nil_of_le (by omega)]; rfl
 | m + 1, k + 1, a, v, hk, ha, h0, hv => by
  simp only [Afe, Azk, wi, len]
  have hin : (0 : Int) ≤ a ∧ (a : Int) < (l.length : Nat) := by omega
  rw [if_pos (by simp; omega), if_pos hin]
  have hx := hb.get (i := a) (by omega)
  have hv7 : v < 36028797018963968 := by
   have h7 := C4s (n := a) (by omega)
   omega
  have e1 : Int.toNat (a : Int) = a := by simp
  simp only [e1]
  rw [w64 (x := l.getD a 0) (by omega), C3y ⟨h0, hv7⟩ hx, w64 (x := (a : Int) + 1) (by omega)]
  rw [show ((a : Int) + 1) = ((a + 1 : Nat) : Int) by omega, Brc N l hb hl K m k (a + 1) _ (by omega) (by omega) (by omega) (by rw [Int.pow_succ]; omega)]
  rw [List.drop_eq_getElem_cons (i := a) (by omega)]
  simp only [uns, List.foldl_cons]
  rw [List.getD_eq_getElem?_getD, List.getElem?_eq_getElem (by omega)]; rfl
theorem A0d {R : Type} (N : Nat) (hN : 8 ≤ N) (l : List Int) (hb : Ad9 l) (hl : l.length ≤ 7) (K : Int → Option R) : Aa9 N l K = K (uns 0 l) := by
 simp only [Aa9, Bes, wi, len]
 have := Brc N l hb hl K l.length N 0 0 (by omega) (by omega) (by omega) (by simp)
 simpa using this
theorem Bdq {R : Type} (N : Nat) (hN : 8 ≤ N) (l : List Int) (hb : Ad9 l) (hl : l.length = 0 ∨ l.length = 1 ∨ l.length = 2 ∨ l.length = 4) (K : Int → Option R) : Ac4 N l K = K (sgn l) := by
 simp only [Ac4, Bkt, wi, len]
 rw [A0d N hN l hb (by omega)]
 have b32 : ∀ x : Int, uns 0 l - x = uns 0 l - x := fun _ => rfl
 obtain rfl | ⟨x, rfl⟩ | ⟨x, y, rfl⟩ | ⟨x, y, z, t, rfl⟩ := C2v rfl hl
 ·simp [sgn, uns]
 ·have hx := hb x (by simp)
  have e1 : IntKind.i64.wrap (8 * ((([x] : List Int).length : Nat) : Int)) = 8 := by simp; decide
  have e4 : Avo .i64 1 8 = 256 := by decide
  simp only [e1, e4, uns, sgn, List.foldl_cons, List.foldl_nil, List.getD_cons_zero, List.length_cons, List.length_nil]
  simp
  by_cases h2 : 128 ≤ x
  ·simp only [if_pos h2]; rw [if_neg (by decide), show IntKind.i64.wrap 8 = 8 from by decide, e4, w64 (by omega)]
  ·simp only [if_neg h2]
 ·have hx := hb x (by simp)
  have hy := hb y (by simp)
  have e1 : IntKind.i64.wrap (8 * ((([x, y] : List Int).length : Nat) : Int)) = 16 := by simp; decide
  have e4 : Avo .i64 1 16 = 65536 := by decide
  simp only [e1, e4, uns, sgn, List.foldl_cons, List.foldl_nil, List.getD_cons_zero, List.length_cons, List.length_nil]
  simp
  by_cases h2 : 128 ≤ x
  ·simp only [if_pos h2]; rw [if_neg (by decide), show IntKind.i64.wrap 16 = 16 from by decide, e4, w64 (by omega)]
  ·simp only [if_neg h2]
 ·have hx := hb x (by simp)
  have hy := hb y (by simp)
  have hz := hb z (by simp)
  have ht := hb t (by simp)
  have e1 : IntKind.i64.wrap (8 * ((([x, y, z, t] : List Int).length : Nat) : Int)) = 32 := by simp; decide
  have e4 : Avo .i64 1 32 = 4294967296 := by decide
  simp only [e1, e4, uns, sgn, List.foldl_cons, List.foldl_nil, List.getD_cons_zero, List.length_cons, List.length_nil]
  simp
  by_cases h2 : 128 ≤ x
  ·simp only [if_pos h2]; rw [if_neg (by decide), show IntKind.i64.wrap 32 = 32 from by decide, e4, w64 (by omega)]
  ·simp only [if_neg h2]
def Bx1 (b : List Int) (p : Int) {R : Type} (K : Int → Int → Int → Int → Int → Option R) : Option R :=
 if p < 0 ∨ b.length ≤ p then K 0 0 0 0 1 else
 let x := b.getD p.toNat 0
 if x % 32 < 1 ∨ 30 < x % 32 ∨ x % 32 = 19 ∨ 3 < x / 32 then K 0 0 0 0 3 else
 let w := (wid (x / 32)).toNat
 let m := (ext (x % 32)).toNat
 let a := p.toNat + 1
 if b.length < a + w + m then K 0 0 0 0 7 else
 let n := sgn (seg b a w)
 if cls n ≠ x / 32 then K 0 0 0 0 3 else
 K (x % 32) n (if x % 32 = 30 then sgn (seg b (a + w) m) else uns 0 (seg b (a + w) m)) ((1 + w + m : Nat) : Int) 0
theorem C63 {k : Int} (h0 : 0 ≤ k) (h : k ≤ 3) : (k = 0 ∧ wid k = 0) ∨ (k = 1 ∧ wid k = 1) ∨ (k = 2 ∧ wid k = 2) ∨ (k = 3 ∧ wid k = 4) := by
 unfold wid; split <;> omega
theorem C64 (o : Int) : (ext o = 0 ∨ ext o = 1 ∨ ext o = 2 ∨ ext o = 4) ∧ (o = 30 → ext o = 4) := by
 unfold ext; repeat' split
 all_goals omega
theorem B49 {R : Type} (N : Nat) (p k a1 a2 a3 o n m : Int) (b : List Int) (e : Int) (K : Int → Int → Int → Int → Int → Option R) :
  Akf N p k a1 a2 a3 o n m b e false K = if cls n ≠ k then K 0 3 0 0 0 else K (IntKind.i64.wrap (e - p)) 0 o n m := by
 simp only [Akf, Bgk, wi, len]
 rw [Cta]
 simp only [bne_iff_ne, Bool.false_eq_true, if_false]
theorem Ba3 {R : Type} (N : Nat) (p k a1 a2 a3 o n m : Int) (b : List Int) (e : Int) (K : Int → Int → Int → Int → Int → Option R) :
  Akf N p k a1 a2 a3 o n m b e true K = K 0 7 0 0 0 := by
 simp only [Akf, Bgk]; simp
theorem C2w {R : Type} (N : Nat) (hN : 8 ≤ N) (b : List Int) (hb : Ad9 b) (hl : b.length ≤ reachBytes) (p : Int) (K : Int → Int → Int → Int → Int → Option R) :
  Aif N b p K = Bx1 b p K := by
 have hl' := hl
 unfold reachBytes at hl'
 simp only [Aif, B67, wi, len]; unfold Bx1
 simp only [decide_eq_true_eq, beq_iff_eq]
 by_cases h1 : p < 0
 ·rw [if_pos h1, if_pos (.inl h1)]
 rw [if_neg h1]
 by_cases h2 : (b.length : Int) ≤ p
 ·rw [if_pos h2, if_pos (.inr h2)]
 have hin : 0 ≤ p ∧ p < (b.length : Int) := by omega
 rw [if_neg h2, if_neg (show ¬ (p < 0 ∨ (b.length : Int) ≤ p) by omega), if_pos hin, if_pos hin]
 have hx := hb.get (i := p.toNat) (by omega)
 generalize b.getD p.toNat 0 = x at hx
 rw [Da8 hx, Dcq hx, w64 (x := x % 32) (by omega), w64 (x := x / 32) (by omega)]
 by_cases h3 : x % 32 < 1
 ·rw [if_pos h3, if_pos (.inl h3)]
 rw [if_neg h3]
 by_cases h4 : x % 32 > 30
 ·rw [if_pos h4, if_pos (.inr (.inl h4))]
 rw [if_neg h4]
 by_cases h5 : x % 32 = 19
 ·rw [if_pos h5, if_pos (.inr (.inr (.inl h5)))]
 rw [if_neg h5]
 by_cases h6 : x / 32 > 3
 ·rw [if_pos h6, if_pos (.inr (.inr (.inr h6)))]
 rw [if_neg h6, if_neg (show ¬ (x % 32 < 1 ∨ 30 < x % 32 ∨ x % 32 = 19 ∨ 3 < x / 32) by omega), if_pos (show 0 ≤ x / 32 ∧ x / 32 < 4 by omega), w64 (x := p + 1) (by omega)]
 have hw := C63 (k := x / 32) (by omega) (by omega)
 have eW : List.getD [(0 : Int), 1, 2, 4] (x / 32).toNat 0 = wid (x / 32) := by
  rcases hw with ⟨h, e⟩ | ⟨h, e⟩ | ⟨h, e⟩ | ⟨h, e⟩ <;> rw [e, h] <;> rfl
 rw [eW]
 have hm := C64 (x % 32)
 generalize hwd : wid (x / 32) = w at hw
 obtain ⟨w, rfl⟩ := Int.eq_ofNat_of_zero_le (a := w) (by omega)
 obtain ⟨q, rfl⟩ := Int.eq_ofNat_of_zero_le (a := p) (by omega)
 simp only [Int.toNat_natCast]
 rw [show ((q : Int) + 1) = ((q + 1 : Nat) : Int) by omega, Blw N b hb hl w (q + 1) _ hN (by omega) (by omega)]
 by_cases h7 : q + 1 + w ≤ b.length
 ·rw [if_pos h7]
  by_cases h8 : x % 32 = 30
  ·rw [if_pos h8]
   rw [hm.2 h8]
   rw [show (4 : Int) = ((4 : Nat) : Int) from rfl, Blw N b hb hl 4 (q + 1 + w) _ hN (by omega) (by omega)]
   simp only [Int.toNat_natCast]
   by_cases h9 : q + 1 + w + 4 ≤ b.length
   ·rw [if_pos h9, if_neg (show ¬ b.length < q + 1 + w + 4 by omega), B49]
    by_cases h10 : cls (sgn (seg b (q + 1) w)) ≠ x / 32
    ·rw [if_pos h10, if_pos h10]
    ·rw [if_neg h10, if_neg h10, w64 (by omega), if_pos h8]
     congr 1
     omega
   ·rw [if_neg h9, if_pos (show b.length < q + 1 + w + 4 by omega), Ba3]
  ·rw [if_neg h8, B47]
   generalize hme : ext (x % 32) = m at hm
   obtain ⟨m, rfl⟩ := Int.eq_ofNat_of_zero_le (a := m) (by omega)
   rw [Bmd N b hb hl m (q + 1 + w) _ hN (by omega) (by omega)]
   simp only [Int.toNat_natCast]
   by_cases h9 : q + 1 + w + m ≤ b.length
   ·rw [if_pos h9, if_neg (show ¬ b.length < q + 1 + w + m by omega), B49]
    by_cases h10 : cls (sgn (seg b (q + 1) w)) ≠ x / 32
    ·rw [if_pos h10, if_pos h10]
    ·rw [if_neg h10, if_neg h10, w64 (by omega), if_neg h8]
     congr 1
     omega
   ·rw [if_neg h9, if_pos (show b.length < q + 1 + w + m by omega), Ba3]
 ·rw [if_neg h7, if_pos (show b.length < q + 1 + w + (ext (x % 32)).toNat by omega)]
  by_cases h8 : x % 32 = 30
  ·rw [if_pos h8, Bx0 N b 4 _ (.inr (.inr (.inr rfl))), Ba3]
  ·rw [if_neg h8, B47, Bvs, Ba3]
theorem B23 {b : List Int} {a n : Nat} : seg b a n = (b.take (a + n)).drop a := by
 unfold seg
 rw [List.drop_take]
 congr 1
 omega
theorem B1j {R : Type} (N : Nat) (p e o n m : Int) (K : Int → Int → Int → Int → Int → Option R) :
  Akj N p e o n m K = K (IntKind.i64.wrap (e - p)) 0 o n m := rfl
theorem Cy2 {R : Type} (N : Nat) (hN : 8 ≤ N) (b : List Int) (hb : Ad9 b) (hl : b.length ≤ reachBytes) (p : Int) (K : Int → Int → Int → Int → Int → Option R) :
  Apw N b p K = Bx1 b p K := by
 have hl' := hl
 unfold reachBytes at hl'
 simp only [Apw, B2g, wi, len]; unfold Bx1
 simp only [decide_eq_true_eq, beq_iff_eq]
 by_cases h1 : p < 0
 ·rw [if_pos h1, if_pos (.inl h1)]
 rw [if_neg h1]
 by_cases h2 : (b.length : Int) ≤ p
 ·rw [if_pos h2, if_pos (.inr h2)]
 have hin : 0 ≤ p ∧ p < (b.length : Int) := by omega
 rw [if_neg h2, if_neg (show ¬ (p < 0 ∨ (b.length : Int) ≤ p) by omega), if_pos hin, if_pos hin]
 have hx := hb.get (i := p.toNat) (by omega)
 generalize b.getD p.toNat 0 = x at hx
 rw [w64 (x := x) (by omega), Int.tmod_eq_emod_of_nonneg (by omega), Int.tdiv_eq_ediv_of_nonneg (by omega), w64 (x := x / 32) (by omega)]
 by_cases h3 : x % 32 < 1
 ·rw [if_pos h3, if_pos (.inl h3)]
 rw [if_neg h3]
 by_cases h4 : x % 32 > 30
 ·rw [if_pos h4, if_pos (.inr (.inl h4))]
 rw [if_neg h4]
 by_cases h5 : x % 32 = 19
 ·rw [if_pos h5, if_pos (.inr (.inr (.inl h5)))]
 rw [if_neg h5]
 by_cases h6 : x / 32 > 3
 ·rw [if_pos h6, if_pos (.inr (.inr (.inr h6)))]
 rw [if_neg h6, if_neg (show ¬ (x % 32 < 1 ∨ 30 < x % 32 ∨ x % 32 = 19 ∨ 3 < x / 32) by omega), w64 (x := p + 1) (by omega), Bi4, Bi3]
 have hw := C63 (k := x / 32) (by omega) (by omega)
 have hm := C64 (x % 32)
 generalize hwd : wid (x / 32) = w at hw
 generalize hme : ext (x % 32) = m at hm
 obtain ⟨w, rfl⟩ := Int.eq_ofNat_of_zero_le (a := w) (by omega)
 obtain ⟨m, rfl⟩ := Int.eq_ofNat_of_zero_le (a := m) (by omega)
 obtain ⟨q, rfl⟩ := Int.eq_ofNat_of_zero_le (a := p) (by omega)
 simp only [Int.toNat_natCast]
 rw [w64 (x := (q : Int) + 1 + w) (by omega), w64 (x := (q : Int) + 1 + w + m) (by omega)]
 by_cases h7 : b.length < q + 1 + w + m
 ·rw [if_pos (by omega), if_pos h7]
 rw [if_neg (by omega), if_neg h7, if_pos (by omega), if_pos (by omega)]
 have e1 : Int.toNat ((q : Int) + 1) = q + 1 := by omega
 have e2 : Int.toNat ((q : Int) + 1 + w) = q + 1 + w := by omega
 have e3 : Int.toNat ((q : Int) + 1 + w + m) = q + 1 + w + m := by omega
 rw [e1, e2, e3, ← B23, ← B23]
 rw [Bdq N hN _ (Bnj hb _ _) (by rw [A5v (by omega)]; omega), Bi2]
 simp only [bne_iff_ne]
 by_cases h10 : cls (sgn (seg b (q + 1) w)) ≠ x / 32
 ·rw [if_pos h10, if_pos h10]
 rw [if_neg h10, if_neg h10, if_pos (by omega), if_pos (by omega)]
 rw [A0d N hN _ (Bnj hb _ _) (by rw [A5v (by omega)]; omega)]
 by_cases h8 : x % 32 = 30
 ·rw [if_pos h8, if_pos (by omega), if_pos (by omega)]
  rw [Bdq N hN _ (Bnj hb _ _) (by rw [A5v (by omega)]; omega), B1j, w64 (by omega), if_pos h8]
  congr 1; omega
 ·rw [if_neg h8, B1j, w64 (by omega), if_neg h8]
  congr 1; omega
abbrev Rd := List Int × Bool
def Sfx (b r : List Int) : Prop := r.length ≤ b.length ∧ b.drop (b.length - r.length) = r
def pos (b r : List Int) : Nat := b.length - r.length
theorem Sfx.refl (b : List Int) : Sfx b b := ⟨Nat.le_refl _, by simp⟩
theorem Sfx.drop {b r : List Int} (h : Sfx b r) (n : Nat) : Sfx b (r.drop n) := by
 obtain ⟨h1, h2⟩ := h
 refine ⟨by rw [List.length_drop]; omega, ?_⟩
 rw [List.length_drop]
 by_cases hn : n ≤ r.length
 ·rw [show b.length - (r.length - n) = (b.length - r.length) + n by omega, ← List.drop_drop, h2]
 ·rw [List.drop_eq_nil_of_le (by omega), List.drop_eq_nil_of_le (by omega)]
theorem Sfx.bytes {b r : List Int} (h : Sfx b r) (hb : Ad9 b) : Ad9 r := by rw [← h.2]; exact hb.drop _
theorem Sfx.seg {b r : List Int} (h : Sfx b r) (n : Nat) : seg b (pos b r) n = r.take n := by
 unfold Go.AX.seg pos; rw [h.2]
theorem Bfu {b r : List Int} (h : Sfx b r) {n : Nat} (hn : n ≤ r.length) : pos b (r.drop n) = pos b r + n := by
 have := h.1
 unfold pos; rw [List.length_drop]; omega
theorem Bnk (b r : List Int) : pos b r ≤ b.length := by unfold pos; omega
def Aaq (n : Nat) (s : Rd) : Int × Rd := if s.2 = true ∨ s.1.length < n then (0, s.1, true) else (uns 0 (s.1.take n), s.1.drop n, false)
def Anq (n : Nat) (s : Rd) : Int × Rd := if s.2 = true ∨ s.1.length < n then (0, s.1, true) else (sgn (s.1.take n), s.1.drop n, false)
def txt (l : List Int) : List UInt8 := l.map fun n => UInt8.ofNat n.toNat
def An9 (s : Rd) : List UInt8 × Rd :=
 if (Aaq 1 s).2.2 = true then ([], (Aaq 1 s).2.1, true)
 else if (Aaq 1 s).2.1.length < (Aaq 1 s).1.toNat then ([], (Aaq 1 s).2.1, true)
 else (txt ((Aaq 1 s).2.1.take (Aaq 1 s).1.toNat), (Aaq 1 s).2.1.drop (Aaq 1 s).1.toNat, false)
def Akd : Nat → Rd → List Int × Rd
 | 0, s => ([], s)
 | k + 1, s => ((Anq 4 s).1 :: (Akd k (Anq 4 s).2).1, (Akd k (Anq 4 s).2).2)
def Ahv : Nat → Rd → Aar → Bool × Aar × Rd
 | 0, s, acc => (true, acc, s)
 | k + 1, s, acc =>
  if (Aaq 1 s).1 = 0 then
   if (An9 (Aaq 1 s).2).2.2 = true then (false, acc, (An9 (Aaq 1 s).2).2)
   else Ahv k (An9 (Aaq 1 s).2).2 (acc ++ [((An9 (Aaq 1 s).2).1, true, [])])
  else if (Aaq 1 s).1 = 1 then
   if (Akd (Aaq 2 (Aaq 1 s).2).1.toNat (Aaq 2 (Aaq 1 s).2).2).2.2 = true then (false, acc, (Akd (Aaq 2 (Aaq 1 s).2).1.toNat (Aaq 2 (Aaq 1 s).2).2).2)
   else Ahv k (Akd (Aaq 2 (Aaq 1 s).2).1.toNat (Aaq 2 (Aaq 1 s).2).2).2 (acc ++ [([], false, (Akd (Aaq 2 (Aaq 1 s).2).1.toNat (Aaq 2 (Aaq 1 s).2).2).1)])
  else (false, acc, (Aaq 1 s).2)
def A1s : Nat → Rd → Aa5 → Aa5 × Rd
 | 0, s, acc => (acc, s)
 | k + 1, s, acc => A1s k (Aaq 2 (Aaq 1 s).2).2 (acc ++ [((Aaq 1 s).1, (Aaq 2 (Aaq 1 s).2).1)])
theorem Ady {b : List Int} {n : Nat} {s : Rd} (h : Sfx b s.1) : Sfx b (Aaq n s).2.1 := by
 unfold Aaq; split
 ·exact h
 ·exact h.drop n
theorem B24 {b : List Int} {n : Nat} {s : Rd} (h : Sfx b s.1) : Sfx b (Anq n s).2.1 := by
 unfold Anq; split
 ·exact h
 ·exact h.drop n
theorem A0e {b : List Int} {s : Rd} (h : Sfx b s.1) : Sfx b (An9 s).2.1 := by
 unfold An9
 repeat' split
 ·exact Ady h
 ·exact Ady h
 ·exact (Ady h).drop _
theorem Bi5 {b : List Int} : ∀ {k : Nat} {s : Rd}, Sfx b s.1 → Sfx b (Akd k s).2.1
 | 0, _, h => h
 | k + 1, s, h => Bi5 (k := k) (s := (Anq 4 s).2) (B24 h)
theorem C4u {l : List Int} (h : Ad9 l) : ∀ {v : Int}, 0 ≤ v → uns v l < (v + 1) * 256 ^ l.length := by
 induction l with
 | nil => intro v _; simp only [uns, List.foldl_nil, List.length_nil, Int.pow_zero, Int.mul_one]; omega
 | cons x l ih =>
  intro v hv
  have hx := h x (by simp)
  have := ih (fun y hy => h y (by simp [hy])) (v := v * 256 + x) (by omega)
  simp only [uns, List.foldl_cons] at this ⊢
  refine Int.lt_of_lt_of_le this ?_
  rw [List.length_cons, Int.pow_succ, Int.mul_comm (256 ^ l.length) 256, ← Int.mul_assoc]
  refine Int.mul_le_mul_of_nonneg_right (by omega) (Int.pow_nonneg (by decide))
theorem Atm {b : List Int} (hb : Ad9 b) {n : Nat} {s : Rd} (h : Sfx b s.1) : 0 ≤ (Aaq n s).1 ∧ (Aaq n s).1 < 256 ^ n := by
 unfold Aaq; split
 ·exact ⟨Int.le_refl _, Int.pow_pos (by decide)⟩
 ·rename_i h1
  have hB : Ad9 (s.1.take n) := (h.bytes hb).take n
  refine ⟨Ckr hB (by decide), ?_⟩
  have := C4u hB (v := 0) (by decide)
  rw [List.length_take, Nat.min_eq_left (by omega)] at this
  simpa using this
theorem Cks {R : Type} {N : Nat} {b : List Int} (hb : Ad9 b) (hl : b.length ≤ reachBytes) (hN : 8 ≤ N) {n : Nat} (hn : n ≤ 7) {s : Rd} (h : Sfx b s.1) (K : Int → List Int → Int → Bool → Option R) :
  Aag N n b (pos b s.1) s.2 K = K (Aaq n s).1 b (pos b (Aaq n s).2.1) (Aaq n s).2.2 := by
 obtain ⟨r, q⟩ := s
 unfold Aaq
 cases q
 ·simp only [Bool.false_eq_true, false_or] at h ⊢
  rw [Bmd N b hb hl n (pos b r) K hN hn (Bnk b r)]
  have := h.1
  by_cases h1 : r.length < n
  ·rw [if_pos h1, if_neg (by unfold pos; omega)]
  ·rw [if_neg h1, if_pos (by unfold pos; omega)]
   dsimp only
   rw [h.seg, Bfu h (by omega)]
 ·simp only [true_or, if_true] at h ⊢
  rw [Bvs]
theorem Dd2 {R : Type} {N : Nat} {b : List Int} (hb : Ad9 b) (hl : b.length ≤ reachBytes) (hN : 8 ≤ N) {n : Nat} (hn : n = 0 ∨ n = 1 ∨ n = 2 ∨ n = 4) {s : Rd} (h : Sfx b s.1) (K : Int → List Int → Int → Bool → Option R) :
  Aa2 N n b (pos b s.1) s.2 K = K (Anq n s).1 b (pos b (Anq n s).2.1) (Anq n s).2.2 := by
 obtain ⟨r, q⟩ := s
 unfold Anq
 cases q
 ·simp only [Bool.false_eq_true, false_or] at h ⊢
  rw [Blw N b hb hl n (pos b r) K hN hn (Bnk b r)]
  have := h.1
  by_cases h1 : r.length < n
  ·rw [if_pos h1, if_neg (by unfold pos; omega)]
  ·rw [if_neg h1, if_pos (by unfold pos; omega)]
   dsimp only
   rw [h.seg, Bfu h (by omega)]
 ·simp only [true_or, if_true] at h ⊢
  rw [Bx0 N b n _ (by omega)]
theorem Cxa {R : Type} {N : Nat} {b : List Int} (hb : Ad9 b) (hl : b.length ≤ 4398046511104) (hN : 8 ≤ N) {s : Rd} (h : Sfx b s.1) (K : Int → List Int → Int → Bool → Option R) :
  Aag N 1 b (pos b s.1) s.2 K = K (Aaq 1 s).1 b (pos b (Aaq 1 s).2.1) (Aaq 1 s).2.2 := Cks (n := 1) hb (by unfold reachBytes; omega) hN (by decide) h K
theorem Cxb {R : Type} {N : Nat} {b : List Int} (hb : Ad9 b) (hl : b.length ≤ 4398046511104) (hN : 8 ≤ N) {s : Rd} (h : Sfx b s.1) (K : Int → List Int → Int → Bool → Option R) :
  Aag N 2 b (pos b s.1) s.2 K = K (Aaq 2 s).1 b (pos b (Aaq 2 s).2.1) (Aaq 2 s).2.2 := Cks (n := 2) hb (by unfold reachBytes; omega) hN (by decide) h K
theorem Dbx {R : Type} {N : Nat} {b : List Int} (hb : Ad9 b) (hl : b.length ≤ 4398046511104) (hN : 8 ≤ N) {s : Rd} (h : Sfx b s.1) (K : Int → List Int → Int → Bool → Option R) :
  Aag N 3 b (pos b s.1) s.2 K = K (Aaq 3 s).1 b (pos b (Aaq 3 s).2.1) (Aaq 3 s).2.2 := Cks (n := 3) hb (by unfold reachBytes; omega) hN (by decide) h K
theorem Dby {R : Type} {N : Nat} {b : List Int} (hb : Ad9 b) (hl : b.length ≤ 4398046511104) (hN : 8 ≤ N) {s : Rd} (h : Sfx b s.1) (K : Int → List Int → Int → Bool → Option R) :
  Aag N 4 b (pos b s.1) s.2 K = K (Aaq 4 s).1 b (pos b (Aaq 4 s).2.1) (Aaq 4 s).2.2 := Cks (n := 4) hb (by unfold reachBytes; omega) hN (by decide) h K
theorem Dbz {R : Type} {N : Nat} {b : List Int} (hb : Ad9 b) (hl : b.length ≤ 4398046511104) (hN : 8 ≤ N) {s : Rd} (h : Sfx b s.1) (K : Int → List Int → Int → Bool → Option R) :
  Aa2 N 4 b (pos b s.1) s.2 K = K (Anq 4 s).1 b (pos b (Anq 4 s).2.1) (Anq 4 s).2.2 := Dd2 (n := 4) hb (by unfold reachBytes; omega) hN (by decide) h K
theorem C4v {R : Type} {N : Nat} {b : List Int} (hb : Ad9 b) (hl : b.length ≤ 4398046511104) (hN : 8 ≤ N) {s : Rd} (h : Sfx b s.1) (K : List UInt8 → List Int → Int → Bool → Option R) :
  Abk N b (pos b s.1) s.2 K = K (An9 s).1 b (pos b (An9 s).2.1) (An9 s).2.2 := by
 have hs := Ady (n := 1) h
 have hv := Atm hb (n := 1) h
 simp only [Abk, A8a, An9]
 rw [show (1 : Int) = ((1 : Nat) : Int) from rfl, Cks hb (by unfold reachBytes; omega) hN (by omega) h]
 generalize Aaq 1 s = t at hs hv ⊢
 obtain ⟨v, r, q⟩ := t
 simp only at hs hv ⊢
 cases q
 case true => simp
 simp only [Bool.false_eq_true, if_false]
 have h1 := hs.1
 have h2 := Bnk b r
 obtain ⟨n, rfl⟩ := Int.eq_ofNat_of_zero_le hv.1
 have hn : n < 256 := by have := hv.2; omega
 have hw : wi (((pos b r : Nat) : Int) + (n : Int)) = ((pos b r + n : Nat) : Int) := by rw [Ac8 (by omega) (by omega)]; omega
 have hw2 : wi (((pos b r + n : Nat) : Int) - (n : Int)) = ((pos b r : Nat) : Int) := by rw [Ac8 (by omega) (by omega)]; omega
 simp only [Int.toNat_natCast, hw, hw2]
 by_cases h3 : r.length < n
 ·rw [if_pos h3, if_pos (by simp only [len, decide_eq_true_eq]; unfold pos; omega)]
 ·have hp : pos b r + n ≤ b.length := by unfold pos; omega
  rw [if_neg h3, if_neg (by simp only [len, decide_eq_true_eq]; omega), if_pos (by simp only [len]; omega), if_pos (by omega)]
  have e : List.drop (pos b r) (List.take (pos b r + n) b) = r.take n := by
   rw [← B23, hs.seg]
  rw [e, Bfu hs (by omega)]
  rfl
theorem Bf4 {b : List Int} : ∀ {k : Nat} {s : Rd} {acc : Aar}, Sfx b s.1 → Sfx b (Ahv k s acc).2.2.1
 | 0, _, _, h => h
 | k + 1, s, acc, h => by
  unfold Ahv
  have h1 := Ady (n := 1) h
  repeat' split
  ·exact A0e h1
  ·exact Bf4 (k := k) (A0e h1)
  ·exact Bi5 (Ady h1)
  ·exact Bf4 (k := k) (Bi5 (Ady h1))
  ·exact h1
theorem B9g {b : List Int} : ∀ {k : Nat} {s : Rd} {acc : Aa5}, Sfx b s.1 → Sfx b (A1s k s acc).2.1
 | 0, _, _, h => h
 | k + 1, s, acc, h => B9g (k := k) (s := (Aaq 2 (Aaq 1 s).2).2) (Ady (Ady h))
theorem C9a {R : Type} {N : Nat} {b : List Int} (hb : Ad9 b) (hl : b.length ≤ 4398046511104) (hN : 8 ≤ N) (n : Int) (hn : n ≤ 1000000) (a c : Int) (d : List UInt8) (e f : Int) (g : List UInt8) (j l : Int) (o : List UInt8) (p : Bool) (q : Aar) (r : OpL) (t : Aa5) (u : Aar) (v : OpL) (w : Aa5)
  (K : Int → Int → List UInt8 → Int → Int → List Int → Int → Bool → List UInt8 → Int → Int → List UInt8 → Bool → Aar → OpL → Aa5 → Aar → OpL → Aa5 → List Int → Option R) : ∀ (m k : Nat) (i : Int) (s : Rd) (acc : List Int), m < k → i + m = n → 0 ≤ i → Sfx b s.1 → acc.length ≤ i →
  Ack N k a c n i d e f b (pos b s.1) s.2 g j l o p q r t u v w acc K =
   K a c d e f b (pos b (Akd m s).2.1) (Akd m s).2.2 g j l o p q r t u v w (acc ++ (Akd m s).1) := by
 intro m
 induction m with
 | zero =>
  intro k i s acc hk hi h0 h ha
  obtain ⟨k, rfl⟩ := exk hk
  simp only [Ack, A29, Akd]
  rw [if_neg (by simp only [decide_eq_true_eq]; omega), List.append_nil]
 | succ m ih =>
  intro k i s acc hk hi h0 h ha
  obtain ⟨k, rfl⟩ := exk hk
  simp only [Ack, A29, Akd]
  rw [if_pos (by simp only [decide_eq_true_eq]; omega), Dbz hb hl (by omega) h, if_pos (by simp only [List.length_cons, List.length_nil]; omega), Ac8 (by omega) (by omega),
   ih k (i + 1) (Anq 4 s).2 _ (by omega) (by omega) (by omega) (B24 h) (by rw [List.length_append]; simp only [List.length_cons, List.length_nil]; omega), List.append_assoc]
  rfl
theorem Db0 {R : Type} {N : Nat} {b : List Int} (hb : Ad9 b) (hl : b.length ≤ 4398046511104) (hN : 65536 ≤ N) (n : Int) (hn : n ≤ 1000000) (j : List UInt8) (l o : Int) (a : List UInt8) (c d : Int) (p : Aar) (q : OpL) (r : Aa5) (f : OpL) (g : Aa5)
  (t : Int → Int → Bool → List UInt8 → Int → Int → Aar → OpL → Aa5 → Option R) (u : List UInt8 → Int → Int → List Int → Int → Bool → List UInt8 → Int → Int → Aar → OpL → Aa5 → Aar → OpL → Aa5 → Option R) : ∀ (m k : Nat) (i : Int) (s : Rd) (acc : Aar), m < k → i + m = n → 0 ≤ i → Sfx b s.1 → acc.length ≤ i →
  Acl N k n i j l o b (pos b s.1) s.2 a c d p q r acc f g t u =
   if (Ahv m s acc).1 = true then u j l o b (pos b (Ahv m s acc).2.2.1) (Ahv m s acc).2.2.2 a c d p q r (Ahv m s acc).2.1 f g else t 0 0 false a c d (Ahv m s acc).2.1 f g := by
 intro m
 induction m with
 | zero =>
  intro k i s acc hk hi h0 h ha
  obtain ⟨k, rfl⟩ := exk hk
  simp only [Acl, A3a, Ahv]
  rw [if_neg (by simp only [decide_eq_true_eq]; omega), if_pos trivial]
 | succ m ih =>
  intro k i s acc hk hi h0 h ha
  obtain ⟨k, rfl⟩ := exk hk
  have h1 := Ady (n := 1) h
  have h2 := Ady (n := 2) h1
  have hv := Atm hb (n := 2) h1
  have hw : wi (i + 1) = i + 1 := Ac8 (by omega) (by omega)
  simp only [Acl, A3a]
  rw [if_pos (by simp only [decide_eq_true_eq]; omega), Cxa hb hl (by omega) h]
  by_cases e0 : (Aaq 1 s).1 = 0
  ·rw [if_pos (by simpa using e0), C4v hb hl (by omega) h1]
   simp only [Acr]
   cases e1 : (An9 (Aaq 1 s).2).2.2
   ·have e : Ahv (m + 1) s acc = Ahv m (An9 (Aaq 1 s).2).2 (acc ++ [((An9 (Aaq 1 s).2).1, true, [])]) := by
     rw [Ahv, if_pos e0, if_neg (by rw [e1]; decide)]
    rw [e, if_neg (by decide), if_pos (by simp only [List.length_cons, List.length_nil]; omega)]
    have := ih k (i + 1) (An9 (Aaq 1 s).2).2 (acc ++ [((An9 (Aaq 1 s).2).1, true, [])]) (by omega) (by omega) (by omega) (A0e h1) (by rw [List.length_append]; simp only [List.length_cons, List.length_nil]; omega)
    rw [e1] at this
    rw [hw]
    exact this
   ·have e : Ahv (m + 1) s acc = (false, acc, (An9 (Aaq 1 s).2).2) := by
     rw [Ahv, if_pos e0, if_pos e1]
    rw [e]; rfl
  ·rw [if_neg (by simpa using e0)]
   by_cases e2 : (Aaq 1 s).1 = 1
   ·rw [if_pos (by simpa using e2), Cxb hb hl (by omega) h1,
     C9a hb hl (by omega) _ (by omega) _ _ _ _ _ _ _ _ _ _ _ _ _ _ _ _ _ (Aaq 2 (Aaq 1 s).2).1.toNat N 0 (Aaq 2 (Aaq 1 s).2).2 [] (by omega) (by omega) (by omega) h2 (by simp)]
    simp only [Acr, List.nil_append]
    cases e1 : (Akd (Aaq 2 (Aaq 1 s).2).1.toNat (Aaq 2 (Aaq 1 s).2).2).2.2
    ·have e : Ahv (m + 1) s acc = Ahv m (Akd (Aaq 2 (Aaq 1 s).2).1.toNat (Aaq 2 (Aaq 1 s).2).2).2 (acc ++ [([], false, (Akd (Aaq 2 (Aaq 1 s).2).1.toNat (Aaq 2 (Aaq 1 s).2).2).1)]) := by
      rw [Ahv, if_neg e0, if_pos e2, if_neg (by rw [e1]; decide)]
     rw [e, if_neg (by decide), if_pos (by simp only [List.length_cons, List.length_nil]; omega)]
     have := ih k (i + 1) (Akd (Aaq 2 (Aaq 1 s).2).1.toNat (Aaq 2 (Aaq 1 s).2).2).2 (acc ++ [([], false, (Akd (Aaq 2 (Aaq 1 s).2).1.toNat (Aaq 2 (Aaq 1 s).2).2).1)]) (by omega) (by omega) (by omega) (Bi5 h2) (by rw [List.length_append]; simp only [List.length_cons, List.length_nil]; omega)
     rw [e1] at this
     rw [hw]
     exact this
    ·have e : Ahv (m + 1) s acc = (false, acc, (Akd (Aaq 2 (Aaq 1 s).2).1.toNat (Aaq 2 (Aaq 1 s).2).2).2) := by
      rw [Ahv, if_neg e0, if_pos e2, if_pos e1]
     rw [e]; rfl
   ·have e : Ahv (m + 1) s acc = (false, acc, (Aaq 1 s).2) := by rw [Ahv, if_neg e0, if_neg e2]
    rw [if_neg (by simpa using e2), e]; rfl
theorem Db1 {R : Type} {N : Nat} {b : List Int} (hb : Ad9 b) (hl : b.length ≤ 4398046511104) (hN : 8 ≤ N) (n : Int) (hn : n ≤ 1000000) (a : List UInt8) (c d : Int) (e : List UInt8) (f g : Int) (j : Aar) (l : OpL) (o : Aa5) (p : Aar) (q : OpL)
  (K : List UInt8 → Int → Int → List Int → Int → Bool → List UInt8 → Int → Int → Aar → OpL → Aa5 → Aar → OpL → Aa5 → Option R) : ∀ (m k : Nat) (i : Int) (s : Rd) (acc : Aa5), m < k → i + m = n → 0 ≤ i → Sfx b s.1 → acc.length ≤ i →
  Acm N k n i a c d b (pos b s.1) s.2 e f g j l o p q acc K =
   K a c d b (pos b (A1s m s acc).2.1) (A1s m s acc).2.2 e f g j l o p q (A1s m s acc).1 := by
 intro m
 induction m with
 | zero =>
  intro k i s acc hk hi h0 h ha
  obtain ⟨k, rfl⟩ := exk hk
  simp only [Acm, A3b, A1s]
  rw [if_neg (by simp only [decide_eq_true_eq]; omega)]
 | succ m ih =>
  intro k i s acc hk hi h0 h ha
  obtain ⟨k, rfl⟩ := exk hk
  have h1 := Ady (n := 1) h
  simp only [Acm, A3b, A1s]
  rw [if_pos (by simp only [decide_eq_true_eq]; omega), Ac8 (by omega) (by omega), Cxa hb hl (by omega) h,
   Cxb hb hl (by omega) h1, if_pos (by simp only [List.length_cons, List.length_nil]; omega),
   ih k (i + 1) (Aaq 2 (Aaq 1 s).2).2 _ (by omega) (by omega) (by omega) (Ady h1) (by rw [List.length_append]; simp only [List.length_cons, List.length_nil]; omega)]
def Cg2 (r : List Int) : Option ((Int × Int × Int) × Nat) :=
 match r with
 | [] => none
 | x :: t =>
  if x % 32 < 1 ∨ 30 < x % 32 ∨ x % 32 = 19 ∨ 3 < x / 32 then none
  else if t.length < (wid (x / 32)).toNat + (ext (x % 32)).toNat then none
  else if cls (sgn (t.take (wid (x / 32)).toNat)) ≠ x / 32 then none
  else some ((x % 32, sgn (t.take (wid (x / 32)).toNat), if x % 32 = 30 then sgn ((t.drop (wid (x / 32)).toNat).take (ext (x % 32)).toNat) else uns 0 ((t.drop (wid (x / 32)).toNat).take (ext (x % 32)).toNat)), 1 + (wid (x / 32)).toNat + (ext (x % 32)).toNat)
theorem C4w {b r : List Int} (h : Sfx b r) (hr : r ≠ []) :
  match Cg2 r with
  | some (o, n) => ∀ {R : Type} (K : Int → Int → Int → Int → Int → Option R), Bx1 b (pos b r) K = K o.1 o.2.1 o.2.2 n 0
  | none => ∃ e, e ≠ 0 ∧ ∀ {R : Type} (K : Int → Int → Int → Int → Int → Option R), Bx1 b (pos b r) K = K 0 0 0 0 e := by
 match r, hr with
 | x :: t, _ =>
  have hl := h.1
  rw [List.length_cons] at hl
  have hp : pos b (x :: t) < b.length := by unfold pos; rw [List.length_cons]; omega
  have hd : b.drop (pos b (x :: t)) = x :: t := h.2
  have hx : b.getD (pos b (x :: t)) 0 = x := by
   rw [List.drop_eq_getElem_cons hp] at hd
   rw [List.getD_eq_getElem?_getD, List.getElem?_eq_getElem hp]; exact (List.cons.inj hd).1
  have hd1 : b.drop (pos b (x :: t) + 1) = t := by
   rw [List.drop_eq_getElem_cons hp] at hd
   exact (List.cons.inj hd).2
  have hs : ∀ n, Go.AX.seg b (pos b (x :: t) + 1) n = t.take n := fun n => by unfold Go.AX.seg; rw [hd1]
  have hs2 : ∀ w n, Go.AX.seg b (pos b (x :: t) + 1 + w) n = (t.drop w).take n := fun w n => by unfold Go.AX.seg; rw [← List.drop_drop, hd1]
  have hlen : b.length = pos b (x :: t) + 1 + t.length := by unfold pos; rw [List.length_cons]; omega
  have A : ∀ {R : Type} (K : Int → Int → Int → Int → Int → Option R), Bx1 b (pos b (x :: t)) K =
    if x % 32 < 1 ∨ 30 < x % 32 ∨ x % 32 = 19 ∨ 3 < x / 32 then K 0 0 0 0 3
    else if t.length < (wid (x / 32)).toNat + (ext (x % 32)).toNat then K 0 0 0 0 7
    else if cls (sgn (t.take (wid (x / 32)).toNat)) ≠ x / 32 then K 0 0 0 0 3
    else K (x % 32) (sgn (t.take (wid (x / 32)).toNat)) (if x % 32 = 30 then sgn ((t.drop (wid (x / 32)).toNat).take (ext (x % 32)).toNat) else uns 0 ((t.drop (wid (x / 32)).toNat).take (ext (x % 32)).toNat)) ((1 + (wid (x / 32)).toNat + (ext (x % 32)).toNat : Nat) : Int) 0 := by
   intro R K
   unfold Bx1
   rw [if_neg (by omega)]
   simp only [Int.toNat_natCast, hx, hs, hs2]
   by_cases h1 : x % 32 < 1 ∨ 30 < x % 32 ∨ x % 32 = 19 ∨ 3 < x / 32
   ·rw [if_pos h1, if_pos h1]
   rw [if_neg h1, if_neg h1]
   by_cases h2 : t.length < (wid (x / 32)).toNat + (ext (x % 32)).toNat
   ·rw [if_pos h2, if_pos (by omega)]
   ·rw [if_neg h2, if_neg (by omega)]
  unfold Cg2
  simp only [A]
  by_cases h1 : x % 32 < 1 ∨ 30 < x % 32 ∨ x % 32 = 19 ∨ 3 < x / 32
  ·simp only [if_pos h1]; exact ⟨3, by decide, fun _ => rfl⟩
  simp only [if_neg h1]
  by_cases h2 : t.length < (wid (x / 32)).toNat + (ext (x % 32)).toNat
  ·simp only [if_pos h2]; exact ⟨7, by decide, fun _ => rfl⟩
  simp only [if_neg h2]
  by_cases h3 : cls (sgn (t.take (wid (x / 32)).toNat)) ≠ x / 32
  ·simp only [if_pos h3]; exact ⟨3, by decide, fun _ => rfl⟩
  simp only [if_neg h3]
  intros; trivial
theorem Cxc {n : Nat} (h : n ≤ 4) : (256 : Int) ^ n ≤ 4294967296 := by
 have : n = 0 ∨ n = 1 ∨ n = 2 ∨ n = 3 ∨ n = 4 := by omega
 rcases this with rfl | rfl | rfl | rfl | rfl <;> decide
theorem Czr {l : List Int} (h : Ad9 l) (hl : l.length ≤ 4) : 0 ≤ uns 0 l ∧ uns 0 l < 4294967296 := by
 have h1 := C4u h (v := 0) (by decide)
 have h2 := Cxc hl
 exact ⟨Ckr h (by decide), by omega⟩
theorem Czs {l : List Int} (h : Ad9 l) (hl : l.length ≤ 4) : -4294967296 ≤ sgn l ∧ sgn l < 4294967296 := by
 have h1 := Czr h hl
 have h2 := Cxc hl
 have h3 : 0 < (256 : Int) ^ l.length := Int.pow_pos (by decide)
 unfold sgn; split <;> omega
theorem Cow {r : List Int} (hb : Ad9 r) {o : Int × Int × Int} {n : Nat} (h : Cg2 r = some (o, n)) :
  (1 ≤ o.1 ∧ o.1 ≤ 30 ∧ o.1 ≠ 19) ∧ (-4294967296 ≤ o.2.1 ∧ o.2.1 < 4294967296) ∧ (-4294967296 ≤ o.2.2 ∧ o.2.2 < 4294967296) ∧ 1 ≤ n ∧ n ≤ 9 ∧ n ≤ r.length := by
 unfold Cg2 at h
 split at h
 ·cases h
 rename_i x t
 split at h
 ·cases h
 rename_i h1
 split at h
 ·cases h
 rename_i h2
 split at h
 ·cases h
 rename_i h3
 have ht : Ad9 t := fun y hy => hb y (by simp [hy])
 have hx := hb x (by simp)
 have hw := C63 (k := x / 32) (by omega) (by omega)
 have hm := C64 (x % 32)
 simp only [Option.some.injEq, Prod.mk.injEq] at h
 obtain ⟨rfl, rfl⟩ := h
 have ha : Ad9 (t.take (wid (x / 32)).toNat) := ht.take _
 have hb' : Ad9 ((t.drop (wid (x / 32)).toNat).take (ext (x % 32)).toNat) := (ht.drop _).take _
 refine ⟨by simp only; omega, Czs ha (by rw [List.length_take]; omega), ?_, by omega, by omega, by rw [List.length_cons]; omega⟩
 simp only
 split
 ·exact Czs hb' (by rw [List.length_take]; omega)
 ·have := Czr hb' (by rw [List.length_take]; omega)
  omega
abbrev Pc := (Int × Int × Int) × Int × Int × Int
def A6h (o : Int × Int × Int) (e : Int) : Int := if o.1 = 20 ∨ o.1 = 21 ∨ o.1 = 22 ∨ o.1 = 27 ∨ o.1 = 29 then e + o.2.1 else if o.1 = 30 then e + o.2.2 else -1
def Aiz : Nat → List Int → Nat → Option (List Pc)
 | 0, r, _ => if r = [] then some [] else none
 | k + 1, r, a =>
  if r = [] then some [] else
  match Cg2 r with
  | none => none
  | some (o, n) => match Aiz k (r.drop n) (a + n) with
   | none => none
   | some l => some ((o, (a : Int), ((a + n : Nat) : Int), A6h o ((a + n : Nat) : Int)) :: l)
theorem Cy3 {R : Type} {N : Nat} {b : List Int} (hb : Ad9 b) (hl : b.length ≤ 1000000) (hN : 8 ≤ N) (a : Bool → List Pc → Option R) (c : List Pc → Option R) : ∀ (m k : Nat) (r : List Int) (acc : List Pc), r.length ≤ m → m < k → Sfx b r → acc.length ≤ pos b r →
  Aen N k b (pos b r) acc a c = match Aiz m r (pos b r) with | none => a false [] | some l => c (acc ++ l) := by
 intro m
 induction m with
 | zero =>
  intro k r acc h0 hk h ha
  obtain ⟨k, rfl⟩ := exk hk
  obtain rfl : r = [] := List.eq_nil_of_length_eq_zero (by omega)
  simp only [Aen, A6l, Aiz]
  rw [if_neg (by unfold pos; simp [len]), if_pos trivial]
  simp
 | succ m ih =>
  intro k r acc h0 hk h ha
  obtain ⟨k, rfl⟩ := exk hk
  simp only [Aen, A6l, Aiz]
  by_cases hr : r = []
  ·subst hr
   rw [if_neg (by unfold pos; simp [len]), if_pos rfl]
   simp
  have hr0 : 0 < r.length := List.length_pos_iff.mpr hr
  have hrl := h.1
  rw [if_pos (by unfold pos; simp [len]; omega), if_neg hr, C2w N hN b hb (by unfold reachBytes; omega)]
  have hat := C4w h hr
  cases hi : Cg2 r with
  | none =>
   rw [hi] at hat
   obtain ⟨e, he, hat⟩ := hat
   rw [hat, if_pos (by simpa using he)]
  | some on =>
   obtain ⟨o, n⟩ := on
   rw [hi] at hat
   simp only at hat
   have hin := Cow (h.bytes hb) hi
   have hpl := Bnk b r
   rw [hat, if_neg (by decide)]
   have hpd := Bfu h (n := n) hin.2.2.2.2.2
   have he : wi (((pos b r : Nat) : Int) + (n : Int)) = ((pos b r + n : Nat) : Int) := by rw [Ac8 (by omega) (by omega)]; omega
   have := ih k (r.drop n) (acc ++ [(o, ((pos b r : Nat) : Int), ((pos b r + n : Nat) : Int), A6h o ((pos b r + n : Nat) : Int))]) (by rw [List.length_drop]; omega) (by omega) (h.drop n) (by rw [hpd, List.length_append]; simp only [List.length_cons, List.length_nil]; omega)
   rw [hpd] at this
   have hw1 : wi (((pos b r + n : Nat) : Int) + o.2.1) = ((pos b r + n : Nat) : Int) + o.2.1 := Ac8 (by omega) (by omega)
   have hw2 : wi (((pos b r + n : Nat) : Int) + o.2.2) = ((pos b r + n : Nat) : Int) + o.2.2 := Ac8 (by omega) (by omega)
   have hsz : (acc.length + List.length [((o.1, o.2.1, o.2.2), ((pos b r : Nat) : Int), ((pos b r + n : Nat) : Int), A6h o ((pos b r + n : Nat) : Int))]) * 48 ≤ 70368744177664 := by simp only [List.length_cons, List.length_nil]; omega
   have goal : ∀ t, t = A6h o ((pos b r + n : Nat) : Int) → Adt N b acc o.1 o.2.1 o.2.2 (pos b r : Nat) ((pos b r + n : Nat) : Int) t (fun d f g => Aen N k d f g a c) =
     match (match Aiz m (r.drop n) (pos b r + n) with
      | none => none
      | some l => some ((o, ((pos b r : Nat) : Int), ((pos b r + n : Nat) : Int), A6h o ((pos b r + n : Nat) : Int)) :: l)) with
     | none => a false []
     | some l => c (acc ++ l) := by
    intro t ht
    subst ht
    simp only [Adt]
    rw [if_pos hsz]
    refine Eq.trans this ?_
    cases Aiz m (r.drop n) (pos b r + n) with
    | none => rfl
    | some l => simp only [List.append_assoc]; rfl
   simp only [he, Ad5]
   by_cases h20 : o.1 = 20
   ·rw [if_pos (by simpa using h20), if_pos (by simpa using h20), hw1]
    exact goal _ (by unfold A6h; rw [if_pos (.inl h20)])
   rw [if_neg (by simpa using h20)]
   by_cases h21 : o.1 = 21
   ·rw [if_pos (by simpa using h21), if_pos (by simpa using h21), hw1]
    exact goal _ (by unfold A6h; rw [if_pos (.inr (.inl h21))])
   rw [if_neg (by simpa using h21)]
   by_cases h22 : o.1 = 22
   ·rw [if_pos (by simpa using h22), if_pos (by simpa using h22), hw1]
    exact goal _ (by unfold A6h; rw [if_pos (.inr (.inr (.inl h22)))])
   rw [if_neg (by simpa using h22)]
   by_cases h27 : o.1 = 27
   ·rw [if_pos (by simpa using h27), if_pos (by simpa using h27), hw1]
    exact goal _ (by unfold A6h; rw [if_pos (.inr (.inr (.inr (.inl h27))))])
   rw [if_neg (by simpa using h27)]
   by_cases h29 : o.1 = 29
   ·rw [if_pos (by simpa using h29), hw1]
    exact goal _ (by unfold A6h; rw [if_pos (.inr (.inr (.inr (.inr h29))))])
   rw [if_neg (by simpa using h29)]
   by_cases h30 : o.1 = 30
   ·rw [if_pos (by simpa using h30), hw2]
    exact goal _ (by unfold A6h; rw [if_neg (by omega), if_pos h30])
   ·rw [if_neg (by simpa using h30)]
    exact goal _ (by unfold A6h; rw [if_neg (by omega), if_neg h30])
theorem C4x {R : Type} {N : Nat} {b : List Int} (hb : Ad9 b) (hl : b.length ≤ 1000000) (hN : 8 ≤ N) (hN2 : b.length < N) (K : Bool → List Pc → Option R) :
  Ae3 N b K = match Aiz b.length b 0 with | none => K false [] | some l => K true l := by
 simp only [Ae3, Bnw]
 have := Cy3 (R := R) hb hl hN (fun a c => K a c) (fun d => K true d) b.length N b [] (Nat.le_refl _) hN2 (Sfx.refl b) (by simp)
 rw [show pos b b = 0 by unfold pos; omega] at this
 refine Eq.trans this ?_
 cases Aiz b.length b 0 with
 | none => rfl
 | some l => rfl
abbrev Bi6 := List (Int × Bool)
def Ckt (k : Int) (v : Bool) (m : Bi6) : Bi6 := Asx (kt := (.int .i64)) (et := .bool) k v m
def A1t (k : Int) (m : Bi6) : Bool := Option.getD (Al3 (kt := (.int .i64)) (et := .bool) k m) false
def Ao3 : List Pc → Bi6 → Ajp → Bi6 × Ajp
 | [], bg, lb => (bg, lb)
 | p :: r, bg, lb => Ao3 r (Ckt p.2.1 true bg) (if 0 ≤ p.2.2.2 then Bdp p.2.2.2 (-1) lb else lb)
def Ar0 : List Pc → Int → Ajp → Int × Ajp
 | [], n, lb => (n, lb)
 | p :: r, n, lb => if Aeq p.2.1 lb = -1 then Ar0 r (n + 1) (Bdp p.2.1 (n + 1) lb) else Ar0 r n lb
def B25 (lb : Ajp) (p : Pc) : Int × Int × Int :=
 if p.1.1 = 30 then (p.1.1, p.1.2.1, Aeq p.2.2.2 lb) else if 0 ≤ p.2.2.2 then (p.1.1, Aeq p.2.2.2 lb, p.1.2.2) else p.1
def Caf (lb : Ajp) (p : Pc) : OpL := if 0 < Aeq p.2.1 lb then [(19, Aeq p.2.1 lb, 0)] else []
def A4z : List Pc → Bi6 → Ajp → Option OpL
 | [], _, _ => some []
 | p :: r, bg, lb => if 0 ≤ p.2.2.2 ∧ A1t p.2.2.2 bg = false then none else match A4z r bg lb with
  | none => none
  | some l => some (Caf lb p ++ B25 lb p :: l)
def Bfv (l : List Pc) : Option (Int × OpL) :=
 match A4z l (Ao3 l [] []).1 (Ar0 l 0 (Ao3 l [] []).2).2 with
 | none => none
 | some o => some ((Ar0 l 0 (Ao3 l [] []).2).1, o)
theorem Cox : ∀ (l : List Pc) (n : Int) (lb : Ajp), n ≤ (Ar0 l n lb).1 ∧ (Ar0 l n lb).1 ≤ n + l.length
 | [], n, lb => by simp [Ar0]
 | p :: r, n, lb => by
  rw [Ar0, List.length_cons]; split
  ·have := Cox r (n + 1) (Bdp p.2.1 (n + 1) lb); omega
  ·have := Cox r n lb; omega
theorem C4y {R : Type} (N : Nat) (ps l : List Pc) (hl : l.length ≤ 1000000) (K : List Pc → Bi6 → Ajp → Option R) : ∀ (k i : Nat) (bg : Bi6) (lb : Ajp), i ≤ l.length → l.length - i < k →
  Afh N k ps l (len l) i bg lb K = K ps (Ao3 (l.drop i) bg lb).1 (Ao3 (l.drop i) bg lb).2 := by
 intro k
 induction k with
 | zero => intro i _ _ _ h; omega
 | succ k ih =>
  intro i bg lb hi hk
  simp only [Afh, Bs1]
  by_cases hlt : i < l.length
  case neg =>
   rw [if_neg (by simp [len]; omega), List.drop_eq_nil_of_le (by omega)]; rfl
  have hin : (0 : Int) ≤ i ∧ (i : Int) < len l := by simp only [len]; omega
  rw [if_pos (by simp [len]; omega), if_pos hin, Ad2 _ _ hlt, List.drop_eq_getElem_cons hlt, Abh (by omega), Ao3]
  obtain ⟨x, hx⟩ : ∃ x, l[i] = x := ⟨_, rfl⟩
  simp only [hx]
  by_cases h0 : 0 ≤ x.2.2.2
  ·rw [if_pos (by simpa using h0), if_pos h0]
   exact ih (i + 1) _ _ (by omega) (by omega)
  ·rw [if_neg (by simpa using h0), if_neg h0]
   exact ih (i + 1) _ _ (by omega) (by omega)
theorem C2x {R : Type} (N : Nat) (ps l : List Pc) (hl : l.length ≤ 1000000) (bg : Bi6) (K : List Pc → Int → Bi6 → Ajp → Option R) : ∀ (k i : Nat) (n : Int) (lb : Ajp), i ≤ l.length → l.length - i < k → 0 ≤ n → n ≤ i →
  Aej N k ps n l (len l) i bg lb K = K ps (Ar0 (l.drop i) n lb).1 bg (Ar0 (l.drop i) n lb).2 := by
 intro k
 induction k with
 | zero => intro i _ _ _ h; omega
 | succ k ih =>
  intro i n lb hi hk h0 hn
  simp only [Aej, Bny]
  by_cases hlt : i < l.length
  case neg =>
   rw [if_neg (by simp [len]; omega), List.drop_eq_nil_of_le (by omega)]; rfl
  have hin : (0 : Int) ≤ i ∧ (i : Int) < len l := by simp only [len]; omega
  rw [if_pos (by simp [len]; omega), if_pos hin, Ad2 _ _ hlt, List.drop_eq_getElem_cons hlt, Abh (by omega), Ar0]
  obtain ⟨x, hx⟩ : ∃ x, l[i] = x := ⟨_, rfl⟩
  simp only [hx]
  have hg : Option.getD (Al3 (kt := (.int .i64)) (et := (.int .i64)) x.2.1 lb) (0 : Int) = Aeq x.2.1 lb := rfl
  by_cases h1 : Aeq x.2.1 lb = -1
  ·rw [if_pos (by rw [hg]; simpa using h1), if_pos h1, Ac8 (by omega) (by omega)]
   exact ih (i + 1) (n + 1) _ (by omega) (by omega) (by omega) (by omega)
  ·rw [if_neg (by rw [hg]; simpa using h1), if_neg h1]
   exact ih (i + 1) n _ (by omega) (by omega) (by omega) (by omega)
theorem C2y {R : Type} (N : Nat) (l : List Pc) (hl : l.length ≤ 1000000) (n : Int) (bg : Bi6) (lb : Ajp) (a : Int → Bool → OpL → Option R) (b : Int → OpL → Option R) : ∀ (k i : Nat) (acc : OpL), i ≤ l.length → l.length - i < k → acc.length ≤ 2 * i →
  Ad0 N k n l (len l) i bg lb acc a b = match A4z (l.drop i) bg lb with | none => a 0 false [] | some o => b n (acc ++ o) := by
 intro k
 induction k with
 | zero => intro i _ _ h; omega
 | succ k ih =>
  intro i acc hi hk ha
  simp only [Ad0, Bn2]
  by_cases hlt : i < l.length
  case neg =>
   rw [if_neg (by simp [len]; omega), List.drop_eq_nil_of_le (by omega)]; simp [A4z]
  have hin : (0 : Int) ≤ i ∧ (i : Int) < len l := by simp only [len]; omega
  rw [if_pos (by simp [len]; omega), if_pos hin, Ad2 _ _ hlt, List.drop_eq_getElem_cons hlt, A4z]
  obtain ⟨x, hx⟩ : ∃ x, l[i] = x := ⟨_, rfl⟩
  simp only [hx]
  have hg : ∀ k, Option.getD (Al3 (kt := (.int .i64)) (et := (.int .i64)) k lb) (0 : Int) = Aeq k lb := fun _ => rfl
  have hgb : Option.getD (Al3 (kt := (.int .i64)) (et := .bool) x.2.2.2 bg) false = A1t x.2.2.2 bg := rfl
  simp only [hg]
  have step : ∀ acc2 : OpL, acc2.length ≤ 2 * i + 1 →
    Ae4 N n l (len l) i bg lb acc2 x.1.1 x.1.2.1 x.1.2.2 x.2.1 x.2.2.1 x.2.2.2 (fun p q r => a p q r) (fun c d e f g j m => Ad0 N k c d e (wi (f + 1)) g j m a b) =
    if 0 ≤ x.2.2.2 ∧ A1t x.2.2.2 bg = false then a 0 false [] else match A4z (l.drop (i + 1)) bg lb with | none => a 0 false [] | some o => b n (acc2 ++ B25 lb x :: o) := by
   intro acc2 h2
   have fin : ∀ y, Adz N n l (len l) i bg lb acc2 y.1 y.2.1 y.2.2 x.2.1 x.2.2.1 x.2.2.2 (fun c d e f g j m => Ad0 N k c d e (wi (f + 1)) g j m a b) =
     match A4z (l.drop (i + 1)) bg lb with | none => a 0 false [] | some o => b n (acc2 ++ y :: o) := by
    intro y
    simp only [Adz]
    rw [if_pos (by simp only [List.length_cons, List.length_nil]; omega), Abh (by omega), ih (i + 1) _ (by omega) (by omega) (by rw [List.length_append]; simp only [List.length_cons, List.length_nil]; omega)]
    cases A4z (l.drop (i + 1)) bg lb with
    | none => rfl
    | some o => simp only [List.append_assoc]; rfl
   simp only [Ae4, Bn0, hg]
   unfold B25
   by_cases h0 : 0 ≤ x.2.2.2
   ·rw [if_pos (by simpa using h0)]
    by_cases hb : A1t x.2.2.2 bg = false
    ·rw [if_pos (by rw [hgb, hb]; rfl), if_pos (show 0 ≤ x.2.2.2 ∧ A1t x.2.2.2 bg = false from ⟨h0, hb⟩)]
    ·rw [if_neg (by rw [hgb]; simpa using hb), if_neg (show ¬(0 ≤ x.2.2.2 ∧ A1t x.2.2.2 bg = false) from fun h => hb h.2)]
     by_cases h30 : x.1.1 = 30
     ·rw [if_pos (by simpa using h30)]
      simp only [if_pos h30]
      exact fin (x.1.1, x.1.2.1, Aeq x.2.2.2 lb)
     ·rw [if_neg (by simpa using h30), if_pos (by simpa using h0)]
      simp only [if_neg h30, if_pos h0]
      exact fin (x.1.1, Aeq x.2.2.2 lb, x.1.2.2)
   ·rw [if_neg (by simpa using h0), if_neg (show ¬(0 ≤ x.2.2.2 ∧ A1t x.2.2.2 bg = false) from fun h => h0 h.1)]
    by_cases h30 : x.1.1 = 30
    ·rw [if_pos (by simpa using h30)]
     simp only [if_pos h30]
     exact fin (x.1.1, x.1.2.1, Aeq x.2.2.2 lb)
    ·rw [if_neg (by simpa using h30), if_neg (by simpa using h0)]
     simp only [if_neg h30, if_neg h0]
     exact fin x.1
  unfold Caf
  by_cases hp : 0 < Aeq x.2.1 lb
  ·rw [if_pos (by simpa using hp), if_pos (by simp only [List.length_cons, List.length_nil]; omega), step _ (by rw [List.length_append]; simp only [List.length_cons, List.length_nil]; omega)]
   simp only [if_pos hp]
   split
   ·rfl
   ·cases A4z (l.drop (i + 1)) bg lb with
    | none => rfl
    | some o => simp only [List.append_assoc]
  ·rw [if_neg (by simpa using hp), step _ (by omega)]
   simp only [if_neg hp]
   split
   ·rfl
   ·cases A4z (l.drop (i + 1)) bg lb with
    | none => rfl
    | some o => rfl
theorem Db2 {R : Type} (N : Nat) (l : List Pc) (hl : l.length ≤ 1000000) (hN : l.length < N) (K : Int → Bool → OpL → Option R) :
  Ahm N l K = match Bfv l with | none => K 0 false [] | some (n, o) => K n true o := by
 simp only [Ahm, B2d]
 have h1 := C4y (R := R) N l l hl (fun g m p => Aej N N g 0 g (len g) 0 m p (fun a h i j => Ad0 N N h a (len a) 0 i j [] (fun b c d => K b c d) (fun e f => K e true f))) N 0 [] [] (by omega) (by omega)
 rw [List.drop_zero] at h1
 refine Eq.trans h1 ?_
 have h2 := C2x (R := R) N l l hl (Ao3 l [] []).1 (fun a h i j => Ad0 N N h a (len a) 0 i j [] (fun b c d => K b c d) (fun e f => K e true f)) N 0 0 (Ao3 l [] []).2 (by omega) (by omega) (by omega) (by omega)
 rw [List.drop_zero] at h2
 refine Eq.trans h2 ?_
 have h3 := C2y (R := R) N l hl (Ar0 l 0 (Ao3 l [] []).2).1 (Ao3 l [] []).1 (Ar0 l 0 (Ao3 l [] []).2).2 (fun b c d => K b c d) (fun e f => K e true f) N 0 [] (by omega) (by omega) (by simp)
 rw [List.drop_zero] at h3
 refine Eq.trans h3 ?_
 unfold Bfv
 cases A4z l (Ao3 l [] []).1 (Ar0 l 0 (Ao3 l [] []).2).2 with
 | none => rfl
 | some o => rfl
def Aax (b : List Int) : List Int := b.take (b.length - 4)
def hdT (b : List Int) : Int × Rd := Aaq 3 (Aax b, false)
def nmT (b : List Int) : List UInt8 × Rd := An9 (hdT b).2
def dcT (b : List Int) : Int × Rd := Aaq 2 (nmT b).2
def daT (b : List Int) : Bool × Aar × Rd := Ahv (dcT b).1.toNat (dcT b).2 []
def gcT (b : List Int) : Int × Rd := Aaq 1 (daT b).2.2
def enT (b : List Int) : Aa5 × Rd := A1s (gcT b).1.toNat (gcT b).2 []
def szT (b : List Int) : Int × Rd := Aaq 4 (enT b).2
def An2 : OpL → Int → Int
 | [], n => n
 | x :: r, n => An2 r (if x.1 = 24 then n + 1 else n)
def Ba4 (b : List Int) : Option (List UInt8 × Aar × OpL × Aa5 × Int × Int × Int × Int) :=
 if (hdT b).1 ≠ 6447617 then none
 else if (daT b).1 = false then none
 else if (szT b).2.2 = true then none
 else if (szT b).1 ≠ (szT b).2.1.length then none
 else match Aiz (szT b).2.1.length (szT b).2.1 0 with
  | none => none
  | some ps => match Bfv ps with
   | none => none
   | some (n, o) => some ((nmT b).1, (daT b).2.1, o, (enT b).1, An2 o 0, n, pos (Aax b) (szT b).2.1, (szT b).1)
theorem Cku {R : Type} (N : Nat) (s t : Int) (l : OpL) (hl : l.length ≤ 10000000) (a : List UInt8) (b c : Int) (d : List Int) (e : Int) (f : Bool) (g : List UInt8) (j : Int) (m : Aar) (n : OpL) (o : Aa5) (q : Aar) (r : Aa5) (size : Int) (ok : Bool)
  (K : Int → Bool → List UInt8 → Int → Int → List Int → Int → Bool → List UInt8 → Int → Int → Aar → OpL → Aa5 → Aar → OpL → Aa5 → Option R) : ∀ (k i : Nat) (p : Int), i ≤ l.length → l.length - i < k → 0 ≤ p → p ≤ i →
  Acs N k size ok (len l) i a b c d e f g p j l m n o q r K = K size ok a b c d e f g (An2 (l.drop i) p) j m n o q l r := by
 intro k
 induction k with
 | zero => intro i _ _ h; omega
 | succ k ih =>
  intro i p hi hk h0 hp
  simp only [Acs, Bd1]
  by_cases hlt : i < l.length
  case neg =>
   rw [if_neg (by simp [len]; omega), List.drop_eq_nil_of_le (by omega)]; rfl
  have hin : (0 : Int) ≤ i ∧ (i : Int) < len l := by simp only [len]; omega
  rw [if_pos (by simp [len]; omega), if_pos hin, Ad2 _ _ hlt, List.drop_eq_getElem_cons hlt, Abh (by omega), An2]
  by_cases h24 : l[i].1 = 24
  ·rw [if_pos (by simpa using h24), if_pos h24, Ac8 (by omega) (by omega)]
   exact ih (i + 1) (p + 1) (by omega) (by omega) (by omega) (by omega)
  ·rw [if_neg (by simpa using h24), if_neg h24]
   exact ih (i + 1) p (by omega) (by omega) (by omega) (by omega)
theorem Cxd : ∀ (l : List Pc) (bg : Bi6) (lb : Ajp) (o : OpL), A4z l bg lb = some o → o.length ≤ 2 * l.length
 | [], _, _, o, h => by simp only [A4z, Option.some.injEq] at h; subst h; simp
 | p :: r, bg, lb, o, h => by
  rw [A4z] at h
  split at h
  ·cases h
  ·split at h
   ·cases h
   ·rename_i l hl
    have := Cxd r bg lb l hl
    simp only [Option.some.injEq] at h
    subst h
    have h2 : (Caf lb p).length ≤ 1 := by unfold Caf; split <;> simp
    simp only [List.length_append, List.length_cons]; omega
theorem C65 {l : List Pc} {n : Int} {o : OpL} (h : Bfv l = some (n, o)) : o.length ≤ 2 * l.length ∧ 0 ≤ n ∧ n ≤ l.length := by
 unfold Bfv at h
 split at h
 ·cases h
 ·rename_i o' ho
  have := Cxd _ _ _ _ ho
  have := Cox l 0 (Ao3 l [] []).2
  simp only [Option.some.injEq, Prod.mk.injEq] at h
  obtain ⟨rfl, rfl⟩ := h
  omega
theorem Bme : ∀ (k : Nat) (r : List Int) (a : Nat) (l : List Pc), Aiz k r a = some l → l.length ≤ k
 | 0, r, a, l, h => by
  rw [Aiz] at h; split at h
  ·cases h; simp
  ·cases h
 | k + 1, r, a, l, h => by
  rw [Aiz] at h
  split at h
  ·cases h; simp
  ·split at h
   ·cases h
   ·split at h
    ·cases h
    ·rename_i l' hl
     have := Bme k _ _ _ hl
     cases h
     simp only [List.length_cons]; omega
theorem C66 {R : Type} {N : Nat} {b : List Int} (hb : Ad9 b) (h4 : 4 ≤ b.length) (hl : b.length ≤ 200000) (hN : 500000 ≤ N) :
  match Ba4 b with
  | some (nm, data, o, gl, p, n, fr, sz) => ∀ K : List UInt8 → Int → Int → Int → Int → Bool → Aar → OpL → Aa5 → Option R, Ai1 N b K = K nm p n fr sz true data o gl
  | none => ∃ nm p n fr sz data o gl, ∀ K : List UInt8 → Int → Int → Int → Int → Bool → Aar → OpL → Aa5 → Option R, Ai1 N b K = K nm p n fr sz false data o gl := by
 have hw : wi (len b - 4) = ((b.length - 4 : Nat) : Int) := by rw [Ac8 (by simp only [len]; omega) (by simp only [len]; omega)]; simp only [len]; omega
 have hB : Ad9 (Aax b) := hb.take _
 have hL : (Aax b).length ≤ 200000 := by unfold Aax; rw [List.length_take]; omega
 have hL2 : (Aax b).length ≤ 4398046511104 := by omega
 have s0 : Sfx (Aax b) (Aax b) := Sfx.refl _
 have s1 : Sfx (Aax b) (hdT b).2.1 := Ady (s := (Aax b, false)) s0
 have s2 : Sfx (Aax b) (nmT b).2.1 := A0e s1
 have s3 : Sfx (Aax b) (dcT b).2.1 := Ady s2
 have s4 : Sfx (Aax b) (daT b).2.2.1 := Bf4 s3
 have s5 : Sfx (Aax b) (gcT b).2.1 := Ady s4
 have s6 : Sfx (Aax b) (enT b).2.1 := B9g s5
 have s7 : Sfx (Aax b) (szT b).2.1 := Ady s6
 have x : 0 ≤ (dcT b).1 ∧ (dcT b).1 < 256 ^ 2 := Atm hB (n := 2) s2
 have y : 0 ≤ (gcT b).1 ∧ (gcT b).1 < 256 ^ 1 := Atm hB (n := 1) s4
 have z : 0 ≤ (szT b).1 ∧ (szT b).1 < 256 ^ 4 := Atm hB (n := 4) s6
 have e1 : ∀ K : Int → List Int → Int → Bool → Option R, Aag N 3 (Aax b) 0 false K = K (hdT b).1 (Aax b) (pos (Aax b) (hdT b).2.1) (hdT b).2.2 := by
  intro K
  have := Dbx hB hL2 (N := N) (by omega) (s := (Aax b, false)) s0 K
  rw [show ((pos (Aax b) (Aax b, false).1 : Nat) : Int) = 0 by unfold pos; simp] at this
  exact this
 have main : ∀ K : List UInt8 → Int → Int → Int → Int → Bool → Aar → OpL → Aa5 → Option R, Ai1 N b K =
   if ((hdT b).1 != 6447617) = true then K [] 0 0 0 0 false [] [] [] else
   if (daT b).1 = true then
    (if (szT b).2.2 = true then K (nmT b).1 0 0 0 0 false (daT b).2.1 [] (enT b).1
     else if (wi (((pos (Aax b) (szT b).2.1 : Nat) : Int) + (szT b).1) != len (Aax b)) = true then K (nmT b).1 0 0 0 0 false (daT b).2.1 [] (enT b).1
     else match Aiz (szT b).2.1.length (szT b).2.1 0 with
     | none => K (nmT b).1 0 0 0 0 false (daT b).2.1 [] (enT b).1
     | some ps => match Bfv ps with
      | none => K (nmT b).1 0 0 (pos (Aax b) (szT b).2.1 : Nat) (szT b).1 false (daT b).2.1 [] (enT b).1
      | some (n, o) => K (nmT b).1 (An2 o 0) n (pos (Aax b) (szT b).2.1 : Nat) (szT b).1 true (daT b).2.1 o (enT b).1)
   else K (nmT b).1 0 0 0 0 false (daT b).2.1 [] [] := by
  intro K
  simp only [Ai1, Bn5]
  rw [hw, if_pos (by simp only [len]; omega), if_pos (by omega), Int.toNat_natCast, List.drop_zero]
  change Aag N 3 (Aax b) 0 false _ = _
  rw [e1]
  split
  ·rfl
  have t2 : ∀ K, Abk N (Aax b) (pos (Aax b) (hdT b).2.1) (hdT b).2.2 K = K (nmT b).1 (Aax b) (pos (Aax b) (nmT b).2.1) (nmT b).2.2 := fun K => C4v (R := R) hB hL2 (by omega) s1 K
  have t3 : ∀ K, Aag N 2 (Aax b) (pos (Aax b) (nmT b).2.1) (nmT b).2.2 K = K (dcT b).1 (Aax b) (pos (Aax b) (dcT b).2.1) (dcT b).2.2 := fun K => Cxb (R := R) hB hL2 (by omega) s2 K
  rw [t2, t3, Db0 hB hL2 (by omega) _ (by omega) _ _ _ _ _ _ _ _ _ _ _ _ _ (dcT b).1.toNat N 0 (dcT b).2 [] (by omega) (by omega) (by omega) s3 (by simp)]
  change (if (daT b).1 = true then _ else _) = _
  cases hda : (daT b).1
  ·simp only [Bool.false_eq_true, if_false]; rfl
  simp only [if_true]
  have t5 : ∀ K, Aag N 1 (Aax b) (pos (Aax b) (daT b).2.2.1) (daT b).2.2.2 K = K (gcT b).1 (Aax b) (pos (Aax b) (gcT b).2.1) (gcT b).2.2 := fun K => Cxa (R := R) hB hL2 (by omega) s4 K
  have t7 : ∀ K, Aag N 4 (Aax b) (pos (Aax b) (enT b).2.1) (enT b).2.2 K = K (szT b).1 (Aax b) (pos (Aax b) (szT b).2.1) (szT b).2.2 := fun K => Dby (R := R) hB hL2 (by omega) s6 K
  refine Eq.trans (t5 _) ?_
  rw [Db1 hB hL2 (N := N) (by omega) _ (by omega) _ _ _ _ _ _ _ _ _ _ _ _ (gcT b).1.toNat N 0 (gcT b).2 [] (by omega) (by omega) (by omega) s5 (by simp)]
  refine Eq.trans (t7 _) ?_
  split
  ·rfl
  have hpl := Bnk (Aax b) (szT b).2.1
  have hd : List.drop (pos (Aax b) (szT b).2.1) (List.take (Aax b).length (Aax b)) = (szT b).2.1 := by
   rw [List.take_length]; exact s7.2
  split
  ·rfl
  rw [if_pos (by simp only [len]; omega), if_pos (by simp only [len]; omega)]
  simp only [len, Int.toNat_natCast]
  rw [hd, C4x (s7.bytes hB) (by have := s7.1; omega) (by omega) (by have := s7.1; omega)]
  cases hp : Aiz (szT b).2.1.length (szT b).2.1 0 with
  | none => rfl
  | some ps =>
   have hpsl := Bme _ _ _ _ hp
   have := s7.1
   simp only [Bool.not_true, Bool.false_eq_true, if_false]
   rw [Db2 N ps (by omega) (by omega)]
   have h0 : ((0 : Nat) : Int) = 0 := rfl
   cases ho : Bfv ps with
   | none =>
    simp only
    have := Cku (R := R) N 0 0 [] (by simp) [] 0 0 (Aax b) (pos (Aax b) (szT b).2.1 : Nat) (szT b).2.2 (nmT b).1 0 [] [] [] (daT b).2.1 (enT b).1 (szT b).1 false
     (fun a c l m q r d t e f g u v w h i j => K e f g d a c h i j) N 0 0 (by simp) (by simp; omega) (by omega) (by omega)
    rw [h0] at this
    exact this
   | some no =>
    obtain ⟨n, o⟩ := no
    have hol := C65 ho
    simp only
    have := Cku (R := R) N 0 0 o (by omega) [] 0 0 (Aax b) (pos (Aax b) (szT b).2.1 : Nat) (szT b).2.2 (nmT b).1 n [] [] [] (daT b).2.1 (enT b).1 (szT b).1 true
     (fun a c l m q r d t e f g u v w h i j => K e f g d a c h i j) N 0 0 (by omega) (by omega) (by omega) (by omega)
    rw [h0, List.drop_zero] at this
    exact this
 have hsz : ((wi (((pos (Aax b) (szT b).2.1 : Nat) : Int) + (szT b).1) != len (Aax b)) = true) = ((szT b).1 ≠ (szT b).2.1.length) := by
  have := s7.1
  have := Bnk (Aax b) (szT b).2.1
  rw [Ac8 (by omega) (by omega)]
  simp only [len, bne_iff_ne, ne_eq, eq_iff_iff]
  unfold pos; omega
 unfold Ba4
 by_cases c1 : (hdT b).1 ≠ 6447617
 ·rw [if_pos c1]
  exact ⟨_, _, _, _, _, _, _, _, fun K => by rw [main, if_pos (by simpa using c1)]⟩
 rw [if_neg c1]
 by_cases c2 : (daT b).1 = false
 ·rw [if_pos c2]
  exact ⟨_, _, _, _, _, _, _, _, fun K => by rw [main, if_neg (by simpa using c1), if_neg (by rw [c2]; decide)]⟩
 rw [if_neg c2]
 have c2' : (daT b).1 = true := by simpa using c2
 by_cases c3 : (szT b).2.2 = true
 ·rw [if_pos c3]
  exact ⟨_, _, _, _, _, _, _, _, fun K => by rw [main, if_neg (by simpa using c1), if_pos c2', if_pos c3]⟩
 rw [if_neg c3]
 by_cases c4 : (szT b).1 ≠ (szT b).2.1.length
 ·rw [if_pos c4]
  exact ⟨_, _, _, _, _, _, _, _, fun K => by rw [main, if_neg (by simpa using c1), if_pos c2', if_neg c3, if_pos (by rw [hsz]; exact c4)]⟩
 rw [if_neg c4]
 have main2 : ∀ K : List UInt8 → Int → Int → Int → Int → Bool → Aar → OpL → Aa5 → Option R, _ := fun K => (main K).trans (by rw [if_neg (by simpa using c1), if_pos c2', if_neg c3, if_neg (by rw [hsz]; exact c4)])
 cases hp : Aiz (szT b).2.1.length (szT b).2.1 0 with
 | none =>
  simp only [hp] at main2
  exact ⟨_, _, _, _, _, _, _, _, main2⟩
 | some ps =>
  simp only [hp] at main2
  cases ho : Bfv ps with
  | none =>
   simp only [ho] at main2 ⊢
   exact ⟨_, _, _, _, _, _, _, _, main2⟩
  | some no =>
   obtain ⟨n, o⟩ := no
   simp only [ho] at main2 ⊢
   exact main2
theorem Cxe {α : Type} [DecidableEq α] {a b : List α} (h : a.length = b.length) {i : Nat} (hi : i < a.length) : (a.drop i = b.drop i) ↔ (a[i] = b[i]'(by omega) ∧ a.drop (i + 1) = b.drop (i + 1)) := by
 rw [List.drop_eq_getElem_cons hi, List.drop_eq_getElem_cons (show i < b.length by omega), List.cons.injEq]
theorem C67 {R : Type} (N : Nat) (a b : List Int) (h : a.length = b.length) (hl : a.length ≤ 1000000) (c : Bool → Option R) (d : Option R) : ∀ (k i : Nat), i ≤ a.length → a.length - i < k →
  Aco N k a b (len a) i c d = if a.drop i = b.drop i then d else c false := by
 intro k
 induction k with
 | zero => intro i _ h; omega
 | succ k ih =>
  intro i hi hk
  simp only [Aco, Au9]
  by_cases hlt : i < a.length
  case neg =>
   rw [if_neg (by simp [len]; omega), List.drop_eq_nil_of_le (by omega), List.drop_eq_nil_of_le (by omega), if_pos rfl]
  rw [if_pos (by simp [len]; omega), if_pos (by simp only [len]; omega), if_pos (by simp only [len]; omega), Ad2 _ _ hlt, Ad2 _ _ (show i < b.length by omega), Abh (by omega)]
  have hs := Cxe h hlt
  by_cases he : a[i] = b[i]'(by omega)
  ·rw [if_neg (by simpa using he), ih (i + 1) (by omega) (by omega)]
   by_cases h2 : a.drop (i + 1) = b.drop (i + 1)
   ·rw [if_pos h2, if_pos (hs.2 ⟨he, h2⟩)]
   ·rw [if_neg h2, if_neg (fun h => h2 (hs.1 h).2)]
  ·rw [if_pos (by simpa using he), if_neg (fun h => he (hs.1 h).1)]
theorem Db3 {R : Type} (N : Nat) (a b : List Int) (hl : a.length ≤ 1000000) (hN : a.length < N) (K : Bool → Option R) : Ad1 N a b K = K (decide (a = b)) := by
 simp only [Ad1, Awz]
 by_cases h : a.length = b.length
 ·rw [if_neg (by simp [len, h])]
  have := C67 (R := R) N a b h hl (fun c => K c) (K true) N 0 (by omega) (by omega)
  rw [show ((0 : Nat) : Int) = 0 from rfl, List.drop_zero, List.drop_zero] at this
  rw [this]
  split <;> simp [*]
 ·rw [if_pos (by simp [len]; omega), show decide (a = b) = false by simp; intro e; exact h (by rw [e])]
theorem C68 {R : Type} (N : Nat) (a b : List Int) (h : a.length = b.length) (hl : a.length ≤ 1000000) (c : Bool → Option R) (d : Option R) : ∀ (k i : Nat), i ≤ a.length → a.length - i < k →
  Agd N k a b i c d = if a.drop i = b.drop i then d else c false := by
 intro k
 induction k with
 | zero => intro i _ h; omega
 | succ k ih =>
  intro i hi hk
  simp only [Agd, Bb6]
  by_cases hlt : i < a.length
  case neg =>
   rw [if_neg (by simp [len]; omega), List.drop_eq_nil_of_le (by omega), List.drop_eq_nil_of_le (by omega), if_pos rfl]
  rw [if_pos (by simp [len]; omega), if_pos (by simp only [len]; omega), if_pos (by simp only [len]; omega), Ad2 _ _ hlt, Ad2 _ _ (show i < b.length by omega), Abh (by omega)]
  have hs := Cxe h hlt
  by_cases he : a[i] = b[i]'(by omega)
  ·rw [if_neg (by simpa using he), ih (i + 1) (by omega) (by omega)]
   by_cases h2 : a.drop (i + 1) = b.drop (i + 1)
   ·rw [if_pos h2, if_pos (hs.2 ⟨he, h2⟩)]
   ·rw [if_neg h2, if_neg (fun h => h2 (hs.1 h).2)]
  ·rw [if_pos (by simpa using he), if_neg (fun h => he (hs.1 h).1)]
theorem C2z {R : Type} (N : Nat) (a b : List Int) (hl : a.length ≤ 1000000) (hN : a.length < N) (K : Bool → Option R) : Adx N a b K = K (decide (a = b)) := by
 simp only [Adx, Bil]
 by_cases h : a.length = b.length
 ·rw [if_neg (by simp [len, h])]
  have := C68 (R := R) N a b h hl (fun c => K c) (K true) N 0 (by omega) (by omega)
  rw [show ((0 : Nat) : Int) = 0 from rfl, List.drop_zero, List.drop_zero] at this
  rw [this]
  split <;> simp [*]
 ·rw [if_pos (by simp [len]; omega), show decide (a = b) = false by simp; intro e; exact h (by rw [e])]
theorem B9h {b : List Int} (hb : Ad9 b) {s : Rd} (h : Sfx b s.1) : (An9 s).1.length ≤ 255 := by
 have hv := Atm hb (n := 1) h
 unfold An9
 repeat' split
 ·simp
 ·simp
 ·simp only [txt, List.length_map, List.length_take]
  omega
theorem Ckv : ∀ (k : Nat) (s : Rd), (Akd k s).1.length = k
 | 0, _ => rfl
 | k + 1, s => by simp only [Akd, List.length_cons]; rw [Ckv k]
theorem Bx2 {b : List Int} (hb : Ad9 b) : ∀ (k : Nat) (s : Rd) (acc : Aar), Sfx b s.1 → (∀ d, d ∈ acc → d.1.length ≤ 255 ∧ d.2.2.length ≤ 65535) → ∀ d, d ∈ (Ahv k s acc).2.1 → d.1.length ≤ 255 ∧ d.2.2.length ≤ 65535
 | 0, _, _, _, h => h
 | k + 1, s, acc, hs, h => by
  have h1 := Ady (n := 1) hs
  have hv := Atm hb (n := 2) h1
  unfold Ahv
  split
  ·split
   ·exact h
   ·refine Bx2 hb k _ _ (A0e h1) ?_
    intro d hd
    rcases List.mem_append.mp hd with hd | hd
    ·exact h d hd
    ·rw [List.mem_singleton] at hd; subst hd
     exact ⟨B9h hb h1, by simp⟩
  ·split
   ·split
    ·exact h
    ·refine Bx2 hb k _ _ (Bi5 (Ady h1)) ?_
     intro d hd
     rcases List.mem_append.mp hd with hd | hd
     ·exact h d hd
     ·rw [List.mem_singleton] at hd; subst hd
      exact ⟨by simp, by simp only; rw [Ckv]; omega⟩
   ·exact h
theorem B9i : ∀ (k : Nat) (s : Rd) (acc : Aa5), (A1s k s acc).1.length = acc.length + k
 | 0, _, _ => rfl
 | k + 1, s, acc => by simp only [A1s]; rw [B9i k, List.length_append]; simp; omega
theorem C20 {b : List Int} (hb : Ad9 b) {nm : List UInt8} {data : Aar} {o : OpL} {gl : Aa5} {p n fr sz : Int} (h : Ba4 b = some (nm, data, o, gl, p, n, fr, sz)) : Bcu 500000 nm data gl := by
 have hB : Ad9 (Aax b) := hb.take _
 have s1 : Sfx (Aax b) (hdT b).2.1 := Ady (s := (Aax b, false)) (Sfx.refl _)
 have s2 : Sfx (Aax b) (nmT b).2.1 := A0e s1
 have s3 : Sfx (Aax b) (dcT b).2.1 := Ady s2
 have s4 : Sfx (Aax b) (daT b).2.2.1 := Bf4 s3
 have a : 0 ≤ (gcT b).1 ∧ (gcT b).1 < 256 ^ 1 := Atm hB (n := 1) s4
 have hn : (nmT b).1.length ≤ 255 := B9h hB s1
 have hd : ∀ d, d ∈ (daT b).2.1 → d.1.length ≤ 255 ∧ d.2.2.length ≤ 65535 := Bx2 hB _ _ _ s3 (fun d hd => by cases hd)
 have hg : (enT b).1.length = (gcT b).1.toNat := by unfold enT; rw [B9i]; simp
 unfold Ba4 at h
 repeat' split at h
 all_goals first | (cases h; done) | skip
 simp only [Option.some.injEq, Prod.mk.injEq] at h
 obtain ⟨rfl, rfl, rfl, rfl, _⟩ := h
 exact ⟨by omega, by omega, fun d h => by have := hd d h; omega, fun d h => by have := hd d h; omega, fun d h => by have := hd d h; omega, by omega, by omega, by omega⟩
def Afg (b : List Int) : List UInt8 × Int × Int × Int × Int × Int × Aar × OpL × Aa5 :=
 if b.length < 15 then ([], 0, 0, 0, 0, 7, [], [], [])
 else if uns 0 (seg b (b.length - 4) 4) ≠ A92 0 0 (b.take (b.length - 4)) then ([], 0, 0, 0, 0, 8, [], [], [])
 else match Ba4 b with
  | none => ([], 0, 0, 0, 0, 3, [], [], [])
  | some (nm, data, o, gl, p, n, fr, sz) => if Agp nm data o gl p n = 0 ∧ Bi1 nm data o gl = b then (nm, p, n, fr, sz, 0, data, o, gl) else ([], 0, 0, 0, 0, 3, [], [], [])
theorem Cpq {R : Type} {b : List Int} (hb : Ad9 b) (hl : b.length ≤ 200000) (K : List UInt8 → Int → Int → Int → Int → Int → Aar → OpL → Aa5 → Option R) :
  Aho 500000 b K = K (Afg b).1 (Afg b).2.1 (Afg b).2.2.1 (Afg b).2.2.2.1 (Afg b).2.2.2.2.1 (Afg b).2.2.2.2.2.1 (Afg b).2.2.2.2.2.2.1 (Afg b).2.2.2.2.2.2.2.1 (Afg b).2.2.2.2.2.2.2.2 := by
 simp only [Aho, Bo3]
 unfold Afg
 by_cases h15 : b.length < 15
 ·rw [if_pos (by simp only [len, decide_eq_true_eq]; omega), if_pos h15]
 rw [if_neg (by simp only [len, decide_eq_true_eq]; omega), if_neg h15]
 have hw : wi (len b - 4) = ((b.length - 4 : Nat) : Int) := by rw [Ac8 (by simp only [len]; omega) (by simp only [len]; omega)]; simp only [len]; omega
 rw [hw, show (4 : Int) = ((4 : Nat) : Int) from rfl,
  Bmd 500000 b hb (by unfold reachBytes; omega) 4 (b.length - 4) _ (by omega) (by omega) (by omega), if_pos (by omega), if_pos (by simp only [len]; omega), if_pos (by omega), Int.toNat_natCast, List.drop_zero,
  Cot 500000 _ (by rw [List.length_take]; omega) (by rw [List.length_take]; omega)]
 by_cases hs : uns 0 (seg b (b.length - 4) 4) ≠ A92 0 0 (b.take (b.length - 4))
 ·rw [if_pos (by simpa using hs), if_pos hs]
 rw [if_neg (by simpa using hs), if_neg hs]
 have hu := C66 (R := R) hb (by omega) hl (N := 500000) (by omega)
 cases hx : Ba4 b with
 | none =>
  rw [hx] at hu
  obtain ⟨nm, p, n, fr, sz, data, o, gl, hu⟩ := hu
  rw [hu]
  simp [Agg, Aw1]
 | some c =>
  obtain ⟨nm, data, o, gl, p, n, fr, sz⟩ := c
  rw [hx] at hu
  simp only at hu ⊢
  rw [hu, if_pos rfl]
  have F := C20 hb hx
  rw [C62 F (by omega)]
  by_cases he : Agp nm data o gl p n = 0
  ·rw [if_pos he, if_pos (by decide), Db3 500000 _ _ (by rw [Bxz]; have := Bvr he; omega) (by rw [Bxz]; have := Bvr he; omega)]
   simp only [Agg, Aw1]
   by_cases hp : Bi1 nm data o gl = b
   ·rw [show decide (Bi1 nm data o gl = b) = true by simpa using hp, if_neg (by decide), B1i F, (Asm he).1, if_neg (by decide), if_pos ⟨he, hp⟩]
   ·rw [show decide (Bi1 nm data o gl = b) = false by simpa using hp, if_pos (by decide), if_neg (fun h => hp h.2)]
  ·rw [if_neg he, if_neg (by simpa using he), if_neg (fun h => he h.1)]
   simp only [Agg, Aw1]
   rw [if_pos (by decide)]
theorem C4z {R : Type} (K : Bool → Option R) : Am8 500000 K = K true := by kernel_rfl
def Blx : OpL → Int → Int → Option (Int × Int)
 | [], p, m => some (p, m)
 | x :: r, p, m => if x.1 = 24 then (if x.2.1 = p + 1 then Blx r (p + 1) m else none)
  else Blx r p (if x.1 = 19 then (if x.2.1 > m then x.2.1 else m) else m)
def Bzf (l : OpL) (p m procs labels : Int) : Bool := match Blx l p m with | none => false | some (p', m') => p' == procs && m' == labels
theorem Bx3 {R : Type} (N : Nat) (a b c : Int) (K : Bool → Option R) : Abe N a b c K = K (Akb a) := by
 simp only [Abe, Akb]
 cases a != 20 <;> cases a != 25 <;> cases a != 26 <;> cases a != 27 <;> cases a != 29 <;> cases a != 30 <;> rfl
theorem B1k {R : Type} (N : Nat) (a b c : Int) (K : Int → Option R) : Ab9 N a b c K = K (Aak (a, b, c)) := by
 simp only [Ab9, Bpo, Af2, Aak]
 by_cases h1 : a = 20
 ·simp [h1]
 by_cases h2 : a = 21
 ·simp [h2]
 by_cases h3 : a = 22
 ·simp [h3]
 by_cases h4 : a = 27
 ·simp [h4]
 by_cases h5 : a = 29
 ·simp [h5]
 by_cases h6 : a = 30
 ·simp [h6]
 simp [h1, h2, h3, h4, h5, h6]
def Cag (i : Nat) (x : Int × Int × Int) (r : OpL) : Bool := (!Akb x.1 || (Afp r != none && Afp r != some 24)) && (decide (0 < i) || x.1 == 24)
theorem Cy4 {R : Type} (N : Nat) (p m c : Int) (nm : List UInt8) (data : Aar) (l : OpL) (gl : Aa5) (procs labels : Int) (i : Nat) (x : Int × Int × Int) (hl : l.length ≤ 1099511627776) (hi : i < l.length)
  (b : Bool → Option R) (a : Int → Int → Int → Int → List UInt8 → Aar → OpL → Aa5 → Int → Int → Option R) :
  Adj N p m c i (decide (((i + 1 : Nat) : Int) ≥ len l)) nm data l gl procs labels x.1 x.2.1 x.2.2 b a = if Cag i x (l.drop (i + 1)) = true then a p m c i nm data l gl procs labels else b false := by
 simp only [Adj, Be9, Bx3]
 have first : (if ((i : Int) == 0) = true then (if (x.1 != 24) = true then b false else a p m c i nm data l gl procs labels) else a p m c i nm data l gl procs labels) = if (decide (0 < i) || x.1 == 24) = true then a p m c i nm data l gl procs labels else b false := by
  by_cases h0 : i = 0
  ·subst h0
   rw [if_pos (by decide)]
   unfold bne
   cases x.1 == 24 <;> rfl
  ·rw [if_neg (by simp; omega), show decide (0 < i) = true by simp; omega]; rfl
 rw [first]
 unfold Cag
 rw [B89, Abh (by omega)]
 cases Akb x.1
 ·rfl
 rw [if_pos rfl]
 by_cases h : i + 1 < l.length
 ·rw [show decide (((i + 1 : Nat) : Int) ≥ len l) = false by simp only [len, decide_eq_false_iff_not]; omega, if_neg (by decide), if_pos h]
  rw [if_pos (by simp only [len]; omega), show l.getD (Int.toNat ((i + 1 : Nat) : Int)) (0, 0, 0) = Ab8 l (i + 1) by unfold Ab8; rw [Int.toNat_natCast]]
  by_cases h24 : (Ab8 l (i + 1)).1 = 24
  ·rw [if_pos (by simpa using h24), h24]; rfl
  ·rw [if_neg (by simpa using h24), show (some (Ab8 l (i + 1)).1 != some 24) = true by simpa using h24]; rfl
 ·rw [show decide (((i + 1 : Nat) : Int) ≥ len l) = true by simp only [len, decide_eq_true_eq]; omega, if_pos rfl, if_neg h]; rfl
theorem Cpr (c : Nat) (x : Int × Int × Int) (r : OpL) (hx : 1 ≤ x.1) : Ag1 c (x :: r) = (decide (0 < c) == (x.1 == 30) && (x.1 != 19 || (Afp r == some 18 || Afp r == some 28 || Afp r == some 19)) && (!Akb x.1 || (Afp r != none && Afp r != some 24)) && Ag1 (if x.1 = 29 then x.2.2.toNat else c - 1) r) := by
 cases c with
 | succ c =>
  rw [Ag1, show decide (0 < c + 1) = true by simp]
  by_cases h : x.1 = 30
  ·rw [h]; simp [Akb]
  ·have h' : (x.1 == 30) = false := by simpa using h
   rw [h']; rfl
 | zero =>
  rw [Ag1, show decide (0 < 0) = false by decide]
  by_cases h : x.1 = 30
  ·rw [h]; simp
  ·have h' : (x.1 == 30) = false := by simpa using h
   have h2 : (x.1 != 30) = true := by simpa using h
   rw [h', h2]
   by_cases h29 : x.1 = 29
   ·rw [if_pos h29, if_pos h29, h29]; simp [Akb]
   ·rw [if_neg h29, if_neg h29]; simp only [A9z, Bool.true_and]; rfl
theorem Cps (x : Int × Int × Int) (r : OpL) (p m : Int) : Blx (x :: r) p m = if x.1 = 24 then (if x.2.1 = p + 1 then Blx r (p + 1) m else none) else Blx r p (if x.1 = 19 then (if x.2.1 > m then x.2.1 else m) else m) := rfl
theorem Cy5 {R : Type} (N : Nat) (nm : List UInt8) (data : Aar) (l : OpL) (gl : Aa5) (procs labels : Int) (hl : l.length ≤ 1099511627776) (hop : ∀ o, o ∈ l → 1 ≤ o.1) (hM : ∀ o, o ∈ l → o.1 = 29 → 0 ≤ o.2.2 ∧ o.2.2 ≤ 1000) (K : Bool → Option R) :
  ∀ (k i : Nat) (p m : Int) (c : Nat), i ≤ l.length → l.length - i < k → 0 ≤ p → p ≤ i → c ≤ 1000 →
  Aeo N k p m c i nm data l gl procs labels (fun a => K a) (fun b d e j n q s f g => if ((e == (0 : Int)) = true) then (if ((b == f) = true) then (K ((d == g))) else (K false)) else (K false)) =
   K (Ag1 c (l.drop i) && (decide (0 < i) || An5 l) && Bzf (l.drop i) p m procs labels) := by
 intro k
 induction k with
 | zero => intro i _ _ _ _ h; omega
 | succ k ih =>
  intro i p m c hi hk hp hpi hc
  simp only [Aeo, Bh2]
  by_cases hlt : i < l.length
  case neg =>
   rw [if_neg (by simp [len]; omega), List.drop_eq_nil_of_le (by omega)]
   have hf : (decide (0 < i) || An5 l) = true := by
    by_cases h0 : 0 < i
    ·simp [h0]
    ·have : l = [] := List.eq_nil_of_length_eq_zero (by omega)
     subst this; simp [An5, Afp]
   rw [hf, Bzf, Blx]
   simp only [Ag1, Bool.and_true]
   cases c with
   | zero =>
    rw [if_pos (by decide)]
    simp only [beq_self_eq_true, Bool.true_and]
    cases hpp : p == procs <;> simp
   | succ c => simp; omega
  have hin : (0 : Int) ≤ i ∧ (i : Int) < len l := by simp only [len]; omega
  have hop' := hop l[i] (List.getElem_mem hlt)
  have hM' := hM l[i] (List.getElem_mem hlt)
  have hhd : Afp (l.drop (i + 1)) = if i + 1 < l.length then some (Ab8 l (i + 1)).1 else none := B89
  rw [if_pos (by simp [len]; omega), if_pos hin, Ad2 _ _ hlt, List.drop_eq_getElem_cons hlt]
  have hfst : (decide (0 < i) || An5 l) = (decide (0 < i) || (l[i]).1 == 24) := by
   by_cases h0 : 0 < i
   ·simp [h0]
   ·obtain rfl : i = 0 := by omega
    cases l with
    | nil => simp at hlt
    | cons y r => simp [An5, Afp]
  rw [hfst]
  obtain ⟨x, hx⟩ : ∃ x, l[i] = x := ⟨_, rfl⟩
  simp only [hx] at hop' hM' ⊢
  rw [Cpr c x _ hop']
  have hcd : decide ((c : Int) > 0) = decide (0 < c) := by congr 1; simp
  rw [hcd]
  by_cases h1 : (decide (0 < c) == (x.1 == 30)) = true
  case neg =>
   have h1' : (decide (0 < c) == (x.1 == 30)) = false := by simpa using h1
   rw [h1', if_pos (by decide)]; simp
  rw [h1, if_neg (by decide), Bool.true_and]
  have rest : ∀ c1 : Nat, c1 = c - 1 → Ae0 N p m (c1 : Int) i nm data l gl procs labels x.1 x.2.1 x.2.2 (fun a => K a) (fun b d e j n q s f g t => Aeo N k b d e (wi (j + 1)) n q s f g t (fun a => K a) (fun b d e j n q s f g => if ((e == (0 : Int)) = true) then (if ((b == f) = true) then (K ((d == g))) else (K false)) else (K false))) =
    K ((x.1 != 19 || (Afp (l.drop (i + 1)) == some 18 || Afp (l.drop (i + 1)) == some 28 || Afp (l.drop (i + 1)) == some 19)) && (!Akb x.1 || (Afp (l.drop (i + 1)) != none && Afp (l.drop (i + 1)) != some 24)) && Ag1 (if x.1 = 29 then x.2.2.toNat else c - 1) (l.drop (i + 1)) && (decide (0 < i) || x.1 == 24) && Bzf (x :: l.drop (i + 1)) p m procs labels) := by
   intro c1 hc1
   have fin : ∀ (p2 m2 : Int) (c2 : Nat), 0 ≤ p2 → p2 ≤ i + 1 → c2 ≤ 1000 → Adj N p2 m2 c2 i (decide (((i + 1 : Nat) : Int) ≥ len l)) nm data l gl procs labels x.1 x.2.1 x.2.2 (fun a => K a) (fun b d e j n q s f g t => Aeo N k b d e (wi (j + 1)) n q s f g t (fun a => K a) (fun b d e j n q s f g => if ((e == (0 : Int)) = true) then (if ((b == f) = true) then (K ((d == g))) else (K false)) else (K false))) =
     K (Cag i x (l.drop (i + 1)) && Ag1 c2 (l.drop (i + 1)) && Bzf (l.drop (i + 1)) p2 m2 procs labels) := by
    intro p2 m2 c2 h0 h2 h3
    rw [Cy4 N p2 m2 c2 nm data l gl procs labels i x hl hlt]
    by_cases he : Cag i x (l.drop (i + 1)) = true
    ·rw [if_pos he, he, Abh (by omega), ih (i + 1) p2 m2 c2 (by omega) (by omega) h0 (by omega) h3, show decide (0 < i + 1) = true by simp]; simp
    ·rw [if_neg he, show Cag i x (l.drop (i + 1)) = false by simpa using he]; rfl
   simp only [Ae0, Bfa]
   rw [Abh (by omega)]
   have hw : wi (p + 1) = p + 1 := Ac8 (by omega) (by omega)
   unfold Cag at fin
   unfold Bzf at fin ⊢
   rw [Cps]
   by_cases h24 : x.1 = 24
   ·rw [if_pos (by simpa using h24), hw, if_pos h24, if_neg (show ¬x.1 = 29 by omega), show (x.1 != 19) = true by rw [h24]; rfl, Bool.true_or, Bool.true_and]
    by_cases he : x.2.1 = p + 1
    ·rw [if_neg (by simp [he]), if_pos he, fin (p + 1) m c1 (by omega) (by omega) (by omega), hc1]
     congr 1
     cases (!Akb x.1 || (Afp (l.drop (i + 1)) != none && Afp (l.drop (i + 1)) != some 24)) <;> cases (decide (0 < i) || x.1 == 24) <;> cases Ag1 (c - 1) (l.drop (i + 1)) <;> rfl
    ·rw [if_pos (by simpa using he), if_neg he]; simp
   rw [if_neg (by simpa using h24), if_neg h24]
   by_cases h29 : x.1 = 29
   ·rw [if_pos (by simpa using h29), if_pos h29, if_neg (show ¬x.1 = 19 by omega), show (x.1 != 19) = true by rw [h29]; rfl, Bool.true_or, Bool.true_and]
    have hm := hM' h29
    obtain ⟨M, hMe⟩ := Int.eq_ofNat_of_zero_le hm.1
    have fM := fin p m M hp (by omega) (by omega)
    rw [hMe] at fM
    rw [hMe, fM, Int.toNat_natCast]
    congr 1
    cases (!Akb x.1 || (Afp (l.drop (i + 1)) != none && Afp (l.drop (i + 1)) != some 24)) <;> cases (decide (0 < i) || x.1 == 24) <;> cases Ag1 M (l.drop (i + 1)) <;> rfl
   rw [if_neg (by simpa using h29), if_neg h29]
   by_cases h19 : x.1 = 19
   ·rw [if_pos (by simpa using h19), if_pos h19, show (x.1 != 19) = false by rw [h19]; rfl, Bool.false_or]
    have fin2 := fin p (if x.2.1 > m then x.2.1 else m) c1 hp (by omega) (by omega)
    by_cases hlt1 : i + 1 < l.length
    ·have hg : l.getD (Int.toNat ((i + 1 : Nat) : Int)) (0, 0, 0) = Ab8 l (i + 1) := by unfold Ab8; rw [Int.toNat_natCast]
     have hin1 : (0 : Int) ≤ ((i + 1 : Nat) : Int) ∧ ((i + 1 : Nat) : Int) < len l := by simp only [len]; omega
     have hx1 : decide (((i + 1 : Nat) : Int) ≥ len l) = false := by simp only [len, decide_eq_false_iff_not]; omega
     rw [hx1] at fin2 ⊢
     rw [if_neg (by decide)]
     simp only [if_pos hin1, hg]
     rw [hhd, if_pos hlt1]
     rw [hhd, if_pos hlt1] at fin2
     have comm : ((!Akb x.1 || (some (Ab8 l (i + 1)).1 != none && some (Ab8 l (i + 1)).1 != some 24)) && (decide (0 < i) || x.1 == 24) && Ag1 c1 (l.drop (i + 1)) && (match Blx (l.drop (i + 1)) p (if x.2.1 > m then x.2.1 else m) with | none => false | some (p', m') => p' == procs && m' == labels)) =
       (true && (!Akb x.1 || (some (Ab8 l (i + 1)).1 != none && some (Ab8 l (i + 1)).1 != some 24)) && Ag1 (c - 1) (l.drop (i + 1)) && (decide (0 < i) || x.1 == 24) && (match Blx (l.drop (i + 1)) p (if x.2.1 > m then x.2.1 else m) with | none => false | some (p', m') => p' == procs && m' == labels)) := by
      rw [hc1]
      cases (!Akb x.1 || (some (Ab8 l (i + 1)).1 != none && some (Ab8 l (i + 1)).1 != some 24)) <;> cases (decide (0 < i) || x.1 == 24) <;> cases Ag1 (c - 1) (l.drop (i + 1)) <;> rfl
     by_cases a1 : (Ab8 l (i + 1)).1 = 18
     ·rw [if_neg (by simpa using a1), show (some (Ab8 l (i + 1)).1 == some 18 || some (Ab8 l (i + 1)).1 == some 28 || some (Ab8 l (i + 1)).1 == some 19) = true by rw [a1]; rfl]
      exact fin2.trans (by rw [comm])
     rw [if_pos (by simpa using a1)]
     by_cases a2 : (Ab8 l (i + 1)).1 = 28
     ·rw [if_neg (by simpa using a2), show (some (Ab8 l (i + 1)).1 == some 18 || some (Ab8 l (i + 1)).1 == some 28 || some (Ab8 l (i + 1)).1 == some 19) = true by rw [a2]; rfl]
      exact fin2.trans (by rw [comm])
     rw [if_pos (by simpa using a2)]
     by_cases a3 : (Ab8 l (i + 1)).1 = 19
     ·rw [if_neg (by simpa using a3), show (some (Ab8 l (i + 1)).1 == some 18 || some (Ab8 l (i + 1)).1 == some 28 || some (Ab8 l (i + 1)).1 == some 19) = true by rw [a3]; rfl]
      exact fin2.trans (by rw [comm])
     ·have b1 : (some (Ab8 l (i + 1)).1 == some 18) = false := by simpa using a1
      have b2 : (some (Ab8 l (i + 1)).1 == some 28) = false := by simpa using a2
      have b3 : (some (Ab8 l (i + 1)).1 == some 19) = false := by simpa using a3
      rw [if_pos (by simpa using a3), b1, b2, b3]; rfl
    ·rw [if_pos (by simp only [len, decide_eq_true_eq]; omega), hhd, if_neg hlt1]; rfl
   ·rw [if_neg (by simpa using h19), if_neg h19, show (x.1 != 19) = true by simpa using h19, Bool.true_or, Bool.true_and, fin p m c1 hp (by omega) (by omega), hc1]
    congr 1
    cases (!Akb x.1 || (Afp (l.drop (i + 1)) != none && Afp (l.drop (i + 1)) != some 24)) <;> cases (decide (0 < i) || x.1 == 24) <;> cases Ag1 (c - 1) (l.drop (i + 1)) <;> rfl
  by_cases h0 : 0 < c
  ·rw [if_pos (by simpa using h0)]
   have hw : wi ((c : Int) - 1) = ((c - 1 : Nat) : Int) := by rw [Ac8 (by omega) (by omega)]; omega
   rw [hw]
   exact rest (c - 1) rfl
  ·rw [if_neg (by simpa using h0)]
   obtain rfl : c = 0 := by omega
   exact rest 0 rfl
theorem C40 {R : Type} (N : Nat) (nm : List UInt8) (data : Aar) (l : OpL) (gl : Aa5) (procs labels : Int) (hl : l.length ≤ 1099511627776) (hN : l.length < N) (hop : ∀ o, o ∈ l → 1 ≤ o.1) (hM : ∀ o, o ∈ l → o.1 = 29 → 0 ≤ o.2.2 ∧ o.2.2 ≤ 1000) (K : Bool → Option R) :
  Ajz N nm data l gl procs labels K = K (Ag1 0 l && An5 l && Bzf l 0 0 procs labels) := by
 simp only [Ajz, Bpl]
 have := Cy5 N nm data l gl procs labels hl hop hM K N 0 0 0 0 (by omega) (by omega) (by omega) (by omega) (by omega)
 rw [show ((0 : Nat) : Int) = 0 from rfl, List.drop_zero] at this
 exact this
def plR : Nat → OpL → Int → List Int → List Int → Option (List Int × List Int)
 | _, [], _, pl, pr => some (pl, pr)
 | i, x :: r, p, pl, pr =>
  if x.1 = 19 then (if 0 ≤ pl.getD x.2.1.toNat 0 then none else plR (i + 1) r p (pl.set x.2.1.toNat i) (pr.set i p))
  else plR (i + 1) r (if x.1 = 24 then p + 1 else p) pl (pr.set i (if x.1 = 24 then p + 1 else p))
def B26 : Nat → OpL → List Int → List Int → Bool
 | _, [], _, _ => true
 | i, x :: r, pl, pr => (decide (Aak x ≤ 0) || (decide (0 ≤ pl.getD (Aak x).toNat 0) && pr.getD (pl.getD (Aak x).toNat 0).toNat 0 == pr.getD i 0)) && B26 (i + 1) r pl pr
theorem B1l : ∀ (r : OpL) (i : Nat) (p : Int) (pl pr : List Int) (q : List Int × List Int), plR i r p pl pr = some q → q.1.length = pl.length ∧ q.2.length = pr.length
 | [], _, _, _, _, q, h => by simp only [plR, Option.some.injEq] at h; subst h; exact ⟨rfl, rfl⟩
 | x :: r, i, p, pl, pr, q, h => by
  rw [plR] at h
  split at h
  ·split at h
   ·cases h
   ·have := B1l r _ _ _ _ q h
    simpa using this
  ·have := B1l r _ _ _ _ q h
   simpa using this
theorem Cxf : ∀ (r : OpL) (i : Nat) (p : Int) (pl pr : List Int) (q : List Int × List Int) (L : Int), plR i r p pl pr = some q → ((i + r.length : Nat) : Int) ≤ L → (∀ n, pl.getD n 0 < L ∨ pl.getD n 0 ≤ 0) → (∀ n, q.1.getD n 0 < L ∨ q.1.getD n 0 ≤ 0)
 | [], _, _, _, _, q, L, h, _, hv => by simp only [plR, Option.some.injEq] at h; subst h; exact hv
 | x :: r, i, p, pl, pr, q, L, h, hL, hv => by
  rw [List.length_cons] at hL
  rw [plR] at h
  split at h
  ·split at h
   ·cases h
   ·refine Cxf r _ _ _ _ q L h (by omega) (fun n => ?_)
    rw [Akc]
    split
    ·left; omega
    ·exact hv n
  ·exact Cxf r _ _ _ _ q L h (by omega) hv
theorem Ctb {R : Type} (N : Nat) (nm : List UInt8) (data : Aar) (l : OpL) (gl : Aa5) (procs labels : Int) (a b pr : List Int) (hb : labels ≤ 1000000) (K : List UInt8 → Aar → OpL → Aa5 → Int → Int → List Int → List Int → List Int → List Int → Option R) :
  ∀ (m k i : Nat) (pl : List Int), m < k → (i : Int) + m = labels + 1 → (pl.length : Int) = labels + 1 →
  Adk N k i nm data l gl procs labels a b pl pr K = K nm data l gl procs labels a b (pl.take i ++ List.replicate m (-1)) pr := by
 intro m
 induction m with
 | zero =>
  intro k i pl hk hi hl
  obtain ⟨k, rfl⟩ := exk hk
  simp only [Adk, A4i]
  rw [if_neg (by simp only [decide_eq_true_eq]; omega), List.take_of_length_le (by omega)]; simp
 | succ m ih =>
  intro k i pl hk hi hl
  obtain ⟨k, rfl⟩ := exk hk
  simp only [Adk, A4i]
  rw [if_pos (by simp only [decide_eq_true_eq]; omega), if_pos (by simp only [len]; omega), Abh (by omega), Int.toNat_natCast, ih k (i + 1) _ (by omega) (by omega) (by rw [List.length_set]; exact hl)]
  have e : (pl.set i (-1)).take (i + 1) = pl.take i ++ [-1] := by
   rw [List.take_add_one, List.take_set, List.getElem?_set_self (by omega), List.set_eq_of_length_le (by rw [List.length_take]; omega)]; rfl
  rw [e, List.append_assoc, List.replicate_succ]; rfl
theorem Coy {R : Type} (N : Nat) (nm : List UInt8) (data : Aar) (l : OpL) (gl : Aa5) (procs labels : Int) (d e : List Int) (hl : l.length ≤ 1099511627776) (hL : ∀ o, o ∈ l → o.1 = 19 → 1 ≤ o.2.1 ∧ o.2.1 ≤ labels)
  (c : Bool → List Int → List Int → Option R) (f : List UInt8 → Aar → OpL → Aa5 → Int → Int → List Int → List Int → List Int → List Int → Option R) (hK : ∀ a b a' b', c false a b = c false a' b') :
  ∀ (k i : Nat) (p : Int) (pl pr : List Int), i ≤ l.length → l.length - i < k → 0 ≤ p → p ≤ i → (pl.length : Int) = labels + 1 → pr.length = l.length →
  Acx N k p i nm data l gl procs labels d e pl pr c f = match plR i (l.drop i) p pl pr with | none => c false [] [] | some (pl', pr') => f nm data l gl procs labels d e pl' pr' := by
 intro k
 induction k with
 | zero => intro i _ _ _ _ h; omega
 | succ k ih =>
  intro i p pl pr hi hk hp hpi hpl hpr
  simp only [Acx, Bby]
  by_cases hlt : i < l.length
  case neg =>
   rw [if_neg (by simp [len]; omega), List.drop_eq_nil_of_le (by omega)]; rfl
  have hin : (0 : Int) ≤ i ∧ (i : Int) < len l := by simp only [len]; omega
  have hinp : (0 : Int) ≤ i ∧ (i : Int) < len pr := by simp only [len]; omega
  have hL' := hL l[i] (List.getElem_mem hlt)
  rw [if_pos (by simp [len]; omega), if_pos hin, Ad2 _ _ hlt, List.drop_eq_getElem_cons hlt, plR]
  simp only [Ado, if_pos hin, if_pos hinp, Ad2 _ _ hlt]
  obtain ⟨x, hx⟩ : ∃ x, l[i] = x := ⟨_, rfl⟩
  simp only [hx] at hL' ⊢
  rw [Abh (by omega), Int.toNat_natCast]
  have hw : wi (p + 1) = p + 1 := Ac8 (by omega) (by omega)
  by_cases h24 : x.1 = 24
  ·rw [if_pos (by simpa using h24), if_neg (show ¬(x.1 == 19) = true by rw [h24]; decide), if_neg (show ¬x.1 = 19 by omega), if_pos h24, hw]
   exact ih (i + 1) (p + 1) pl _ (by omega) (by omega) (by omega) (by omega) hpl (by rw [List.length_set]; exact hpr)
  rw [if_neg (by simpa using h24), if_neg h24]
  by_cases h19 : x.1 = 19
  ·have hv := hL' h19
   have hip : 0 ≤ x.2.1 ∧ x.2.1 < len pl := by simp only [len]; omega
   rw [if_pos (by simpa using h19), if_pos h19]
   simp only [if_pos hip]
   by_cases h0 : 0 ≤ pl.getD x.2.1.toNat 0
   ·rw [if_pos (by simpa using h0), if_pos h0]
    exact hK _ _ _ _
   ·rw [if_neg (by simpa using h0), if_neg h0]
    exact ih (i + 1) p _ _ (by omega) (by omega) hp (by omega) (by rw [List.length_set]; exact hpl) (by rw [List.length_set]; exact hpr)
  ·rw [if_neg (by simpa using h19), if_neg h19]
   exact ih (i + 1) p pl _ (by omega) (by omega) hp (by omega) hpl (by rw [List.length_set]; exact hpr)
theorem Coz {R : Type} (N : Nat) (nm : List UInt8) (data : Aar) (l : OpL) (gl : Aa5) (procs labels : Int) (a b pl pr : List Int) (hl : l.length ≤ 1099511627776) (hn : ∀ x, x ∈ l → Aak x = 0 ∨ (1 ≤ Aak x ∧ Aak x ≤ labels)) (hpl : (pl.length : Int) = labels + 1) (hpr : pr.length = l.length) (hv : ∀ n, pl.getD n 0 < l.length ∨ pl.getD n 0 ≤ 0)
  (c : Bool → List Int → List Int → Option R) (d : List Int → List Int → List Int → List Int → Option R) :
  ∀ (k i : Nat), i ≤ l.length → l.length - i < k →
  Acj N k i nm data l gl procs labels a b pl pr c d = if B26 i (l.drop i) pl pr = true then d a b pl pr else c false pl pr := by
 intro k
 induction k with
 | zero => intro i _ h; omega
 | succ k ih =>
  intro i hi hk
  simp only [Acj, Bb1]
  by_cases hlt : i < l.length
  case neg =>
   rw [if_neg (by simp [len]; omega), List.drop_eq_nil_of_le (by omega)]; rfl
  have hin : (0 : Int) ≤ i ∧ (i : Int) < len l := by simp only [len]; omega
  have hinp : (0 : Int) ≤ i ∧ (i : Int) < len pr := by simp only [len]; omega
  have hn' := hn l[i] (List.getElem_mem hlt)
  rw [if_pos (by simp [len]; omega), if_pos hin, Ad2 _ _ hlt, List.drop_eq_getElem_cons hlt, B26]
  obtain ⟨x, hx⟩ : ∃ x, l[i] = x := ⟨_, rfl⟩
  simp only [hx, B1k] at hn' ⊢
  rw [show (x.1, x.2.1, x.2.2) = x from rfl, Abh (by omega), ih (i + 1) (by omega) (by omega)]
  by_cases h0 : Aak x > 0
  ·have hip : 0 ≤ Aak x ∧ Aak x < len pl := by simp only [len]; omega
   rw [if_pos (by simpa using h0), if_pos hip, show decide (Aak x ≤ 0) = false by simp; omega, Bool.false_or]
   have hv' := hv (Aak x).toNat
   by_cases hneg : pl.getD (Aak x).toNat 0 < 0
   ·rw [if_pos (by simpa using hneg), show decide (0 ≤ pl.getD (Aak x).toNat 0) = false from decide_eq_false (by omega)]; rfl
   ·rw [if_neg (by simpa using hneg), if_pos hip, if_pos (by simp only [len]; omega), if_pos hinp, show decide (0 ≤ pl.getD (Aak x).toNat 0) = true from decide_eq_true (by omega), Bool.true_and, Int.toNat_natCast]
    by_cases he : pr.getD (pl.getD (Aak x).toNat 0).toNat 0 = pr.getD i 0
    ·rw [if_neg (by simpa using he), show (pr.getD (pl.getD (Aak x).toNat 0).toNat 0 == pr.getD i 0) = true by simpa using he, Bool.true_and]
    ·rw [if_pos (by simpa using he), show (pr.getD (pl.getD (Aak x).toNat 0).toNat 0 == pr.getD i 0) = false by simpa using he]; rfl
  ·rw [if_neg (by simpa using h0), show decide (Aak x ≤ 0) = true by simp; omega, Bool.true_or, Bool.true_and]
def Bf5 (l : OpL) (labels : Int) : Option (List Int × List Int) :=
 match plR 0 l 0 (List.replicate (labels + 1).toNat (-1)) (List.replicate l.length 0) with
 | none => none
 | some (pl, pr) => if B26 0 l pl pr = true then some (pl, pr) else none
end Q

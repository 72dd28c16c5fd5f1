/- The instruction at any place of any bytes: the program's and the document's answer are one. -/
import Derived.Test.YtgmoccpcginieaaV1
import Derived.Test.YtgmoccpcginieaaX6
open Go Go.AX Go.Proofs
namespace Q

def cls (v : Int) : Int := if v = 0 then 0 else if -128 ≤ v ∧ v ≤ 127 then 1 else if -32768 ≤ v ∧ v ≤ 32767 then 2 else 3
def ext (op : Int) : Int := if op = 24 then 1 else if op = 29 then 2 else if op = 30 then 4 else 0
def wid (k : Int) : Int := if k = 3 then 4 else k

theorem pack_class_eq {R : Type} (N : Nat) (v : Int) (K : Int → Option R) : pack_class N v K = K (cls v) := by
  unfold pack_class cls
  simp only [beq_iff_eq, decide_eq_true_eq]
  repeat' split
  all_goals first | rfl | (exfalso; omega)
theorem ref10_fewest_eq {R : Type} (N : Nat) (v : Int) (K : Int → Option R) : ref10_fewest N v K = K (cls v) := by
  unfold ref10_fewest cls
  simp only [beq_iff_eq, decide_eq_true_eq]
  repeat' split
  all_goals first | rfl | (exfalso; omega)
theorem pack_extra_eq {R : Type} (N : Nat) (v : Int) (K : Int → Option R) : pack_extra N v K = K (ext v) := by
  unfold pack_extra ext
  simp only [beq_iff_eq]
  repeat' split
  all_goals first | rfl | (exfalso; omega)
theorem ref10_behind_eq {R : Type} (N : Nat) (v : Int) (K : Int → Option R) : ref10_behind N v K = K (ext v) := by
  unfold ref10_behind ext
  simp only [beq_iff_eq]
  repeat' split
  all_goals first | rfl | (exfalso; omega)
theorem ref10_widths_eq {R : Type} (N : Nat) (v : Int) (K : Int → Option R) : ref10_widths N v K = K (wid v) := by
  unfold ref10_widths wid
  simp only [beq_iff_eq]
  split <;> rfl

/-! ### numbers of some bytes -/
theorem pow256 {n : Nat} (h : n ≤ 6) : (256 : Int) ^ n ≤ 281474976710656 := by
  have : n = 0 ∨ n = 1 ∨ n = 2 ∨ n = 3 ∨ n = 4 ∨ n = 5 ∨ n = 6 := by omega
  rcases this with rfl | rfl | rfl | rfl | rfl | rfl | rfl <;> decide

theorem pack_num_loop {R : Type} (N : Nat) (b : List Int) (hb : Bytes b) (n : Int) (K : Int → List Int → Int → Bool → Option R) : ∀ (m k : Nat) (v i : Int) (a : Nat), m < k → i + m = n → 0 ≤ i → n ≤ 7 → 0 ≤ v → v < 256 ^ i.toNat → a + m ≤ b.length → b.length ≤ reachBytes →
    pack_reader_num_13 N k v n i b a false K = K (uns v (seg b a m)) b ((a + m : Nat) : Int) false
  | m, 0, _, _, _, hk, _, _, _, _, _, _, _ => by omega
  | 0, k + 1, v, i, a, _, hi, _, _, _, _, _, _ => by
    unfold pack_reader_num_13
    rw [if_neg (by simp; omega)]
    simp [seg, uns]
  | m + 1, k + 1, v, i, a, hk, hi, h0, hn, hv, hlt, ha, hl => by
    unfold reachBytes at hl
    unfold pack_reader_num_13
    have hin : (0 : Int) ≤ a ∧ (a : Int) < (b.length : Nat) := by omega
    rw [if_pos (by simp; omega), if_pos hin]
    have hx := hb.get (i := a) (by omega)
    have hv7 : v < 36028797018963968 := by
      have h7 := pow256 (n := i.toNat) (by omega)
      omega
    have e1 : Int.toNat (a : Int) = a := by simp
    simp only [e1]
    rw [w64 (x := b.getD a 0) (by omega), orShl8 ⟨hv, hv7⟩ hx, w64 (x := i + 1) (by omega), w64 (x := (a : Int) + 1) (by omega)]
    have := pack_num_loop N b hb n K m k (v * 256 + b.getD a 0) (i + 1) (a + 1) (by omega) (by omega) (by omega) hn (by omega) (by
      have : (i + 1).toNat = i.toNat + 1 := by omega
      rw [this, Int.pow_succ]; omega) (by omega) hl
    rw [show ((a : Int) + 1) = ((a + 1 : Nat) : Int) by omega, this, seg_succ (by omega)]
    simp only [uns, List.foldl_cons]
    congr 1
    omega

theorem pack_num_eq {R : Type} (N : Nat) (b : List Int) (hb : Bytes b) (hl : b.length ≤ reachBytes) (n a : Nat) (K : Int → List Int → Int → Bool → Option R) (hN : 8 ≤ N) (hn : n ≤ 7) (ha : a ≤ b.length) :
    pack_reader_num N n b a false K = if a + n ≤ b.length then K (uns 0 (seg b a n)) b ((a + n : Nat) : Int) false else K 0 b a true := by
  have hl' := hl
  unfold reachBytes at hl'
  unfold pack_reader_num
  simp only [Bool.false_eq_true, if_false, decide_eq_true_eq]
  rw [w64 (by omega)]
  by_cases h : a + n ≤ b.length
  · rw [if_neg (by omega), if_pos h]
    rw [pack_num_loop N b hb n _ n N 0 0 a (by omega) (by omega) (by omega) (by omega) (by omega) (by simp) h hl]
  · rw [if_pos (by omega), if_neg h]

theorem pack_num_bad {R : Type} (N : Nat) (b : List Int) (n a : Int) (K : Int → List Int → Int → Bool → Option R) :
    pack_reader_num N n b a true K = K 0 b a true := by
  unfold pack_reader_num; simp

def sgn (l : List Int) : Int := if 128 ≤ l.getD 0 0 then uns 0 l - 256 ^ l.length else uns 0 l

theorem seg_len {b : List Int} {a n : Nat} (h : a + n ≤ b.length) : (seg b a n).length = n := by simp [seg]; omega

theorem len4 {l : List Int} {n : Nat} (hl : l.length = n) (hn : n = 0 ∨ n = 1 ∨ n = 2 ∨ n = 4) : l = [] ∨ (∃ a, l = [a]) ∨ (∃ a b, l = [a, b]) ∨ ∃ a b c d, l = [a, b, c, d] := by
  match l, hl with
  | [], _ => exact .inl rfl
  | [a], _ => exact .inr (.inl ⟨a, rfl⟩)
  | [a, b], _ => exact .inr (.inr (.inl ⟨a, b, rfl⟩))
  | [a, b, c], h => simp at h; omega
  | [a, b, c, d], _ => exact .inr (.inr (.inr ⟨a, b, c, d, rfl⟩))
  | _ :: _ :: _ :: _ :: _ :: _, h => simp at h; omega

theorem seg_bytes {b : List Int} (hb : Bytes b) (a n : Nat) : Bytes (seg b a n) := (hb.drop a).take n

theorem uns_nonneg {l : List Int} (h : Bytes l) : ∀ {v : Int}, 0 ≤ v → 0 ≤ uns v l := by
  induction l with
  | nil => intro v hv; exact hv
  | cons x l ih =>
    intro v hv
    have := h x (by simp)
    simp only [uns, List.foldl_cons]
    exact ih (fun y hy => h y (by simp [hy])) (by omega)

theorem pack_signed_eq {R : Type} (N : Nat) (b : List Int) (hb : Bytes b) (hl : b.length ≤ reachBytes) (n a : Nat) (K : Int → List Int → Int → Bool → Option R) (hN : 8 ≤ N) (hn : n = 0 ∨ n = 1 ∨ n = 2 ∨ n = 4) (ha : a ≤ b.length) :
    pack_reader_signed N n b a false K = if a + n ≤ b.length then K (sgn (seg b a n)) b ((a + n : Nat) : Int) false else K 0 b a true := by
  unfold pack_reader_signed
  rw [pack_num_eq N b hb hl n a _ hN (by omega) ha]
  by_cases h : a + n ≤ b.length
  · rw [if_pos h, if_pos h]
    have hs := seg_bytes hb a n
    rcases hn with rfl | rfl | rfl | rfl
    · simp [seg, sgn, uns]
    · obtain h1 | ⟨x, h1⟩ | ⟨_, _, h1⟩ | ⟨_, _, _, _, h1⟩ := len4 (seg_len h) (by omega) <;> have hlen := seg_len h <;> rw [h1] at hlen hs ⊢ <;> simp at hlen
      have hx := hs x (by simp)
      have e1 : IntKind.i64.wrap (8 * ((1 : Nat) : Int)) = 8 := by decide
      simp only [e1]
      have e2 : IntKind.i64.wrap (8 - 1) = 7 := by decide
      simp only [e2]
      have e3 : shlI .i64 1 7 = 128 := by decide
      have e4 : shlI .i64 1 8 = 256 := by decide
      simp only [e3, e4, uns, sgn, List.foldl_cons, List.foldl_nil, List.getD_cons_zero, List.length_cons, List.length_nil]
      simp
      by_cases h2 : 128 ≤ x
      · rw [if_pos h2, if_pos h2, w64 (by omega)]
      · rw [if_neg h2, if_neg h2]
    · obtain h1 | ⟨x, h1⟩ | ⟨x, y, h1⟩ | ⟨_, _, _, _, h1⟩ := len4 (seg_len h) (by omega) <;> have hlen := seg_len h <;> rw [h1] at hlen hs ⊢ <;> simp at hlen
      have hx := hs x (by simp)
      have hy := hs y (by simp)
      have e1 : IntKind.i64.wrap (8 * ((2 : Nat) : Int)) = 16 := by decide
      simp only [e1]
      have e2 : IntKind.i64.wrap (16 - 1) = 15 := by decide
      simp only [e2]
      have e3 : shlI .i64 1 15 = 32768 := by decide
      have e4 : shlI .i64 1 16 = 65536 := by decide
      simp only [e3, e4, uns, sgn, List.foldl_cons, List.foldl_nil, List.getD_cons_zero, List.length_cons, List.length_nil]
      simp
      by_cases h2 : 128 ≤ x
      · rw [if_pos (by omega), if_pos h2, w64 (by omega)]
      · rw [if_neg (by omega), if_neg h2]
    · obtain h1 | ⟨x, h1⟩ | ⟨x, y, h1⟩ | ⟨x, y, z, t, h1⟩ := len4 (seg_len h) (by omega) <;> have hlen := seg_len h <;> rw [h1] at hlen hs ⊢ <;> simp at hlen
      have hx := hs x (by simp)
      have hy := hs y (by simp)
      have hz := hs z (by simp)
      have ht := hs t (by simp)
      have e1 : IntKind.i64.wrap (8 * ((4 : Nat) : Int)) = 32 := by decide
      simp only [e1]
      have e2 : IntKind.i64.wrap (32 - 1) = 31 := by decide
      simp only [e2]
      have e3 : shlI .i64 1 31 = 2147483648 := by decide
      have e4 : shlI .i64 1 32 = 4294967296 := by decide
      simp only [e3, e4, uns, sgn, List.foldl_cons, List.foldl_nil, List.getD_cons_zero, List.length_cons, List.length_nil]
      simp
      by_cases h2 : 128 ≤ x
      · rw [if_pos (by omega), if_pos h2, w64 (by omega)]
      · rw [if_neg (by omega), if_neg h2]
  · rw [if_neg h, if_neg h]
    rcases hn with rfl | rfl | rfl | rfl
    · omega
    all_goals
      have e1 : IntKind.i64.wrap (8 * ((1 : Nat) : Int)) = 8 := by decide
      have e2 : IntKind.i64.wrap (8 - 1) = 7 := by decide
      have e3 : shlI .i64 1 7 = 128 := by decide
      have f1 : IntKind.i64.wrap (8 * ((2 : Nat) : Int)) = 16 := by decide
      have f2 : IntKind.i64.wrap (16 - 1) = 15 := by decide
      have f3 : shlI .i64 1 15 = 32768 := by decide
      have g1 : IntKind.i64.wrap (8 * ((4 : Nat) : Int)) = 32 := by decide
      have g2 : IntKind.i64.wrap (32 - 1) = 31 := by decide
      have g3 : shlI .i64 1 31 = 2147483648 := by decide
      simp only [e1, e2, e3, f1, f2, f3, g1, g2, g3]
      simp

theorem pack_signed_bad {R : Type} (N : Nat) (b : List Int) (n a : Int) (hn : n = 0 ∨ n = 1 ∨ n = 2 ∨ n = 4) (K : Int → List Int → Int → Bool → Option R) :
    pack_reader_signed N n b a true K = K 0 b a true := by
  unfold pack_reader_signed
  rw [pack_num_bad]
  have e1 : IntKind.i64.wrap (8 * 1) = 8 := by decide
  have e2 : IntKind.i64.wrap (8 - 1) = 7 := by decide
  have e3 : shlI .i64 1 7 = 128 := by decide
  have f1 : IntKind.i64.wrap (8 * 2) = 16 := by decide
  have f2 : IntKind.i64.wrap (16 - 1) = 15 := by decide
  have f3 : shlI .i64 1 15 = 32768 := by decide
  have g1 : IntKind.i64.wrap (8 * 4) = 32 := by decide
  have g2 : IntKind.i64.wrap (32 - 1) = 31 := by decide
  have g3 : shlI .i64 1 31 = 2147483648 := by decide
  rcases hn with rfl | rfl | rfl | rfl <;> simp only [e1, e2, e3, f1, f2, f3, g1, g2, g3] <;> simp

theorem ref_unsigned_loop {R : Type} (N : Nat) (l : List Int) (hb : Bytes l) (hl : l.length ≤ 7) (K : Int → Option R) : ∀ (m k a : Nat) (v : Int), m < k → a + m = l.length → 0 ≤ v → v < 256 ^ a →
    ref10_unsigned_7 N k l v a K = K (uns v (l.drop a))
  | m, 0, _, _, hk, _, _, _ => by omega
  | 0, k + 1, a, v, _, ha, _, _ => by
    unfold ref10_unsigned_7
    rw [if_neg (by simp; omega), List.drop_eq_nil_of_le (by omega)]; rfl
  | m + 1, k + 1, a, v, hk, ha, h0, hv => by
    unfold ref10_unsigned_7
    have hin : (0 : Int) ≤ a ∧ (a : Int) < (l.length : Nat) := by omega
    rw [if_pos (by simp; omega), if_pos hin]
    have hx := hb.get (i := a) (by omega)
    have hv7 : v < 36028797018963968 := by
      have h7 := pow256 (n := a) (by omega)
      omega
    have e1 : Int.toNat (a : Int) = a := by simp
    simp only [e1]
    rw [w64 (x := l.getD a 0) (by omega), orShl8 ⟨h0, hv7⟩ hx, w64 (x := (a : Int) + 1) (by omega)]
    rw [show ((a : Int) + 1) = ((a + 1 : Nat) : Int) by omega, ref_unsigned_loop N l hb hl K m k (a + 1) _ (by omega) (by omega) (by omega) (by rw [Int.pow_succ]; omega)]
    rw [List.drop_eq_getElem_cons (i := a) (by omega)]
    simp only [uns, List.foldl_cons]
    rw [List.getD_eq_getElem?_getD, List.getElem?_eq_getElem (by omega)]; rfl

theorem ref_unsigned_eq {R : Type} (N : Nat) (hN : 8 ≤ N) (l : List Int) (hb : Bytes l) (hl : l.length ≤ 7) (K : Int → Option R) : ref10_unsigned N l K = K (uns 0 l) := by
  unfold ref10_unsigned
  have := ref_unsigned_loop N l hb hl K l.length N 0 0 (by omega) (by omega) (by omega) (by simp)
  simpa using this

theorem ref_signed_eq {R : Type} (N : Nat) (hN : 8 ≤ N) (l : List Int) (hb : Bytes l) (hl : l.length = 0 ∨ l.length = 1 ∨ l.length = 2 ∨ l.length = 4) (K : Int → Option R) : ref10_signed N l K = K (sgn l) := by
  unfold ref10_signed
  rw [ref_unsigned_eq N hN l hb (by omega)]
  have b32 : ∀ x : Int, uns 0 l - x = uns 0 l - x := fun _ => rfl
  obtain rfl | ⟨x, rfl⟩ | ⟨x, y, rfl⟩ | ⟨x, y, z, t, rfl⟩ := len4 rfl hl
  · simp [sgn, uns]
  · have hx := hb x (by simp)
    have e1 : IntKind.i64.wrap (8 * ((([x] : List Int).length : Nat) : Int)) = 8 := by simp; decide
    have e4 : shlI .i64 1 8 = 256 := by decide
    simp only [e1, e4, uns, sgn, List.foldl_cons, List.foldl_nil, List.getD_cons_zero, List.length_cons, List.length_nil]
    simp
    by_cases h2 : 128 ≤ x
    · simp only [if_pos h2]; rw [if_neg (by decide), show IntKind.i64.wrap 8 = 8 from by decide, e4, w64 (by omega)]
    · simp only [if_neg h2]
  · have hx := hb x (by simp)
    have hy := hb y (by simp)
    have e1 : IntKind.i64.wrap (8 * ((([x, y] : List Int).length : Nat) : Int)) = 16 := by simp; decide
    have e4 : shlI .i64 1 16 = 65536 := by decide
    simp only [e1, e4, uns, sgn, List.foldl_cons, List.foldl_nil, List.getD_cons_zero, List.length_cons, List.length_nil]
    simp
    by_cases h2 : 128 ≤ x
    · simp only [if_pos h2]; rw [if_neg (by decide), show IntKind.i64.wrap 16 = 16 from by decide, e4, w64 (by omega)]
    · simp only [if_neg h2]
  · have hx := hb x (by simp)
    have hy := hb y (by simp)
    have hz := hb z (by simp)
    have ht := hb t (by simp)
    have e1 : IntKind.i64.wrap (8 * ((([x, y, z, t] : List Int).length : Nat) : Int)) = 32 := by simp; decide
    have e4 : shlI .i64 1 32 = 4294967296 := by decide
    simp only [e1, e4, uns, sgn, List.foldl_cons, List.foldl_nil, List.getD_cons_zero, List.length_cons, List.length_nil]
    simp
    by_cases h2 : 128 ≤ x
    · simp only [if_pos h2]; rw [if_neg (by decide), show IntKind.i64.wrap 32 = 32 from by decide, e4, w64 (by omega)]
    · simp only [if_neg h2]

/-! ### the instruction at a place -/
def atAns (b : List Int) (p : Int) {R : Type} (K : Int → Int → Int → Int → Int → Option R) : Option R :=
  if p < 0 ∨ b.length ≤ p then K 0 0 0 0 1 else
  let x := b.getD p.toNat 0
  if x % 32 < 1 ∨ 30 < x % 32 ∨ x % 32 = 19 ∨ 3 < x / 32 then K 0 0 0 0 3 else
  let w := (wid (x / 32)).toNat
  let m := (ext (x % 32)).toNat
  let a := p.toNat + 1
  if b.length < a + w + m then K 0 0 0 0 7 else
  let n := sgn (seg b a w)
  if cls n ≠ x / 32 then K 0 0 0 0 3 else
  K (x % 32) n (if x % 32 = 30 then sgn (seg b (a + w) m) else uns 0 (seg b (a + w) m)) ((1 + w + m : Nat) : Int) 0

theorem wid4 {k : Int} (h0 : 0 ≤ k) (h : k ≤ 3) : (k = 0 ∧ wid k = 0) ∨ (k = 1 ∧ wid k = 1) ∨ (k = 2 ∧ wid k = 2) ∨ (k = 3 ∧ wid k = 4) := by
  unfold wid; split <;> omega
theorem ext4 (o : Int) : (ext o = 0 ∨ ext o = 1 ∨ ext o = 2 ∨ ext o = 4) ∧ (o = 30 → ext o = 4) := by
  unfold ext; repeat' split
  all_goals omega

theorem pack_At_24_eq {R : Type} (N : Nat) (p k a1 a2 a3 o n m : Int) (b : List Int) (e : Int) (K : Int → Int → Int → Int → Int → Option R) :
    pack_At_24 N p k a1 a2 a3 o n m b e false K = if cls n ≠ k then K 0 3 0 0 0 else K (IntKind.i64.wrap (e - p)) 0 o n m := by
  unfold pack_At_24
  rw [pack_class_eq]
  simp only [bne_iff_ne, Bool.false_eq_true, if_false]
theorem pack_At_24_bad {R : Type} (N : Nat) (p k a1 a2 a3 o n m : Int) (b : List Int) (e : Int) (K : Int → Int → Int → Int → Int → Option R) :
    pack_At_24 N p k a1 a2 a3 o n m b e true K = K 0 7 0 0 0 := by
  unfold pack_At_24; simp

theorem pack_At_eq {R : Type} (N : Nat) (hN : 8 ≤ N) (b : List Int) (hb : Bytes b) (hl : b.length ≤ reachBytes) (p : Int) (K : Int → Int → Int → Int → Int → Option R) :
    pack_At N b p K = atAns b p K := by
  have hl' := hl
  unfold reachBytes at hl'
  unfold pack_At atAns
  simp only [decide_eq_true_eq, beq_iff_eq]
  by_cases h1 : p < 0
  · rw [if_pos h1, if_pos (.inl h1)]
  rw [if_neg h1]
  by_cases h2 : (b.length : Int) ≤ p
  · rw [if_pos h2, if_pos (.inr h2)]
  have hin : 0 ≤ p ∧ p < (b.length : Int) := by omega
  rw [if_neg h2, if_neg (show ¬ (p < 0 ∨ (b.length : Int) ≤ p) by omega), if_pos hin, if_pos hin]
  have hx := hb.get (i := p.toNat) (by omega)
  generalize b.getD p.toNat 0 = x at hx
  rw [andI31 hx, shrI5 hx, w64 (x := x % 32) (by omega), w64 (x := x / 32) (by omega)]
  by_cases h3 : x % 32 < 1
  · rw [if_pos h3, if_pos (.inl h3)]
  rw [if_neg h3]
  by_cases h4 : x % 32 > 30
  · rw [if_pos h4, if_pos (.inr (.inl h4))]
  rw [if_neg h4]
  by_cases h5 : x % 32 = 19
  · rw [if_pos h5, if_pos (.inr (.inr (.inl h5)))]
  rw [if_neg h5]
  by_cases h6 : x / 32 > 3
  · rw [if_pos h6, if_pos (.inr (.inr (.inr h6)))]
  rw [if_neg h6, if_neg (show ¬ (x % 32 < 1 ∨ 30 < x % 32 ∨ x % 32 = 19 ∨ 3 < x / 32) by omega), if_pos (show 0 ≤ x / 32 ∧ x / 32 < 4 by omega), w64 (x := p + 1) (by omega)]
  have hw := wid4 (k := x / 32) (by omega) (by omega)
  have eW : List.getD [(0 : Int), 1, 2, 4] (x / 32).toNat 0 = wid (x / 32) := by
    rcases hw with ⟨h, e⟩ | ⟨h, e⟩ | ⟨h, e⟩ | ⟨h, e⟩ <;> rw [e, h] <;> rfl
  rw [eW]
  have hm := ext4 (x % 32)
  generalize hwd : wid (x / 32) = w at hw
  obtain ⟨w, rfl⟩ := Int.eq_ofNat_of_zero_le (a := w) (by omega)
  obtain ⟨q, rfl⟩ := Int.eq_ofNat_of_zero_le (a := p) (by omega)
  simp only [Int.toNat_natCast]
  rw [show ((q : Int) + 1) = ((q + 1 : Nat) : Int) by omega, pack_signed_eq N b hb hl w (q + 1) _ hN (by omega) (by omega)]
  by_cases h7 : q + 1 + w ≤ b.length
  · rw [if_pos h7]
    by_cases h8 : x % 32 = 30
    · rw [if_pos h8]
      rw [hm.2 h8]
      rw [show (4 : Int) = ((4 : Nat) : Int) from rfl, pack_signed_eq N b hb hl 4 (q + 1 + w) _ hN (by omega) (by omega)]
      simp only [Int.toNat_natCast]
      by_cases h9 : q + 1 + w + 4 ≤ b.length
      · rw [if_pos h9, if_neg (show ¬ b.length < q + 1 + w + 4 by omega), pack_At_24_eq]
        by_cases h10 : cls (sgn (seg b (q + 1) w)) ≠ x / 32
        · rw [if_pos h10, if_pos h10]
        · rw [if_neg h10, if_neg h10, w64 (by omega), if_pos h8]
          congr 1
          omega
      · rw [if_neg h9, if_pos (show b.length < q + 1 + w + 4 by omega), pack_At_24_bad]
    · rw [if_neg h8, pack_extra_eq]
      generalize hme : ext (x % 32) = m at hm
      obtain ⟨m, rfl⟩ := Int.eq_ofNat_of_zero_le (a := m) (by omega)
      rw [pack_num_eq N b hb hl m (q + 1 + w) _ hN (by omega) (by omega)]
      simp only [Int.toNat_natCast]
      by_cases h9 : q + 1 + w + m ≤ b.length
      · rw [if_pos h9, if_neg (show ¬ b.length < q + 1 + w + m by omega), pack_At_24_eq]
        by_cases h10 : cls (sgn (seg b (q + 1) w)) ≠ x / 32
        · rw [if_pos h10, if_pos h10]
        · rw [if_neg h10, if_neg h10, w64 (by omega), if_neg h8]
          congr 1
          omega
      · rw [if_neg h9, if_pos (show b.length < q + 1 + w + m by omega), pack_At_24_bad]
  · rw [if_neg h7, if_pos (show b.length < q + 1 + w + (ext (x % 32)).toNat by omega)]
    by_cases h8 : x % 32 = 30
    · rw [if_pos h8, pack_signed_bad N b 4 _ (.inr (.inr (.inr rfl))), pack_At_24_bad]
    · rw [if_neg h8, pack_extra_eq, pack_num_bad, pack_At_24_bad]

theorem seg_take {b : List Int} {a n : Nat} : seg b a n = (b.take (a + n)).drop a := by
  unfold seg
  rw [List.drop_take]
  congr 1
  omega

theorem ref10_At_36_eq {R : Type} (N : Nat) (p e o n m : Int) (K : Int → Int → Int → Int → Int → Option R) :
    ref10_At_36 N p e o n m K = K (IntKind.i64.wrap (e - p)) 0 o n m := rfl

theorem ref10_At_eq {R : Type} (N : Nat) (hN : 8 ≤ N) (b : List Int) (hb : Bytes b) (hl : b.length ≤ reachBytes) (p : Int) (K : Int → Int → Int → Int → Int → Option R) :
    ref10_At N b p K = atAns b p K := by
  have hl' := hl
  unfold reachBytes at hl'
  unfold ref10_At atAns
  simp only [decide_eq_true_eq, beq_iff_eq]
  by_cases h1 : p < 0
  · rw [if_pos h1, if_pos (.inl h1)]
  rw [if_neg h1]
  by_cases h2 : (b.length : Int) ≤ p
  · rw [if_pos h2, if_pos (.inr h2)]
  have hin : 0 ≤ p ∧ p < (b.length : Int) := by omega
  rw [if_neg h2, if_neg (show ¬ (p < 0 ∨ (b.length : Int) ≤ p) by omega), if_pos hin, if_pos hin]
  have hx := hb.get (i := p.toNat) (by omega)
  generalize b.getD p.toNat 0 = x at hx
  rw [w64 (x := x) (by omega), Int.tmod_eq_emod_of_nonneg (by omega), Int.tdiv_eq_ediv_of_nonneg (by omega), w64 (x := x / 32) (by omega)]
  by_cases h3 : x % 32 < 1
  · rw [if_pos h3, if_pos (.inl h3)]
  rw [if_neg h3]
  by_cases h4 : x % 32 > 30
  · rw [if_pos h4, if_pos (.inr (.inl h4))]
  rw [if_neg h4]
  by_cases h5 : x % 32 = 19
  · rw [if_pos h5, if_pos (.inr (.inr (.inl h5)))]
  rw [if_neg h5]
  by_cases h6 : x / 32 > 3
  · rw [if_pos h6, if_pos (.inr (.inr (.inr h6)))]
  rw [if_neg h6, if_neg (show ¬ (x % 32 < 1 ∨ 30 < x % 32 ∨ x % 32 = 19 ∨ 3 < x / 32) by omega), w64 (x := p + 1) (by omega), ref10_widths_eq, ref10_behind_eq]
  have hw := wid4 (k := x / 32) (by omega) (by omega)
  have hm := ext4 (x % 32)
  generalize hwd : wid (x / 32) = w at hw
  generalize hme : ext (x % 32) = m at hm
  obtain ⟨w, rfl⟩ := Int.eq_ofNat_of_zero_le (a := w) (by omega)
  obtain ⟨m, rfl⟩ := Int.eq_ofNat_of_zero_le (a := m) (by omega)
  obtain ⟨q, rfl⟩ := Int.eq_ofNat_of_zero_le (a := p) (by omega)
  simp only [Int.toNat_natCast]
  rw [w64 (x := (q : Int) + 1 + w) (by omega), w64 (x := (q : Int) + 1 + w + m) (by omega)]
  by_cases h7 : b.length < q + 1 + w + m
  · rw [if_pos (by omega), if_pos h7]
  rw [if_neg (by omega), if_neg h7, if_pos (by omega), if_pos (by omega)]
  have e1 : Int.toNat ((q : Int) + 1) = q + 1 := by omega
  have e2 : Int.toNat ((q : Int) + 1 + w) = q + 1 + w := by omega
  have e3 : Int.toNat ((q : Int) + 1 + w + m) = q + 1 + w + m := by omega
  rw [e1, e2, e3, ← seg_take, ← seg_take]
  rw [ref_signed_eq N hN _ (seg_bytes hb _ _) (by rw [seg_len (by omega)]; omega), ref10_fewest_eq]
  simp only [bne_iff_ne]
  by_cases h10 : cls (sgn (seg b (q + 1) w)) ≠ x / 32
  · rw [if_pos h10, if_pos h10]
  rw [if_neg h10, if_neg h10, if_pos (by omega), if_pos (by omega)]
  rw [ref_unsigned_eq N hN _ (seg_bytes hb _ _) (by rw [seg_len (by omega)]; omega)]
  by_cases h8 : x % 32 = 30
  · rw [if_pos h8, if_pos (by omega), if_pos (by omega)]
    rw [ref_signed_eq N hN _ (seg_bytes hb _ _) (by rw [seg_len (by omega)]; omega), ref10_At_36_eq, w64 (by omega), if_pos h8]
    congr 1; omega
  · rw [if_neg h8, ref10_At_36_eq, w64 (by omega), if_neg h8]
    congr 1; omega

theorem law10_awake_eq {R : Type} (K : Bool → Option R) : law10_awake 10 K = K true := by kernel_rfl

theorem atAns_same (b : List Int) (p : Int) : ∃ o n m l e, ∀ {R : Type} (K : Int → Int → Int → Int → Int → Option R), atAns b p K = K o n m l e := by
  unfold atAns
  dsimp only
  by_cases h1 : p < 0 ∨ (b.length : Int) ≤ p
  · exact ⟨_, _, _, _, _, fun K => by rw [if_pos h1]⟩
  simp only [if_neg h1]
  split
  · exact ⟨_, _, _, _, _, fun K => rfl⟩
  · split
    · exact ⟨_, _, _, _, _, fun K => rfl⟩
    · split
      · exact ⟨_, _, _, _, _, fun K => rfl⟩
      · exact ⟨_, _, _, _, _, fun K => rfl⟩

theorem law10_PackAt_eq {R : Type} (b : List Int) (hb : Bytes b) (hl : b.length ≤ reachBytes) (p : Int) (K : Bool → Option R) : law10_PackAt 10 b p K = K true := by
  unfold law10_PackAt
  rw [pack_At_eq 10 (by decide) b hb hl p]
  obtain ⟨o, n, m, l, e, h⟩ := atAns_same b p
  rw [h, ref10_At_eq 10 (by decide) b hb hl p, h]
  simp [law10_awake_eq]

theorem packAt_pure (x0 : Ty.den (.list (.int .u8))) (y0 : Wf _ x0) (x1 : Ty.den (.int .i64)) (y1 : Wf (.int .i64) x1) :
    ∃ N, (s_law10_PackAt N).run AV [argAV false (.list (.int .u8)) x0, argAV false (.int .i64) x1] [] (fun v _ _ => some v) = some (vb true) :=
  ⟨10, law10_PackAt_eq x0 (wf_bytes y0) y0.1 x1 (fun b => some (vb b))⟩

end Q

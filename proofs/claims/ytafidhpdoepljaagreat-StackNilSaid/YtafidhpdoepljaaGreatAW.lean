/- The closed call awake() returns true. -/
import Derived.Test.YtafidhpdoepljaaGreatY4
import Derived.Test.YtafidhpdoepljaaGreatX7
import Derived.Test.YtafidhpdoepljaaGreatSh
import Derived.WalkKit
import Derived.Laws.Externs
namespace Go.CE.Aw
noncomputable section
open Go.Proofs Go.Shelf Go.RowKit

/-! ## so many numbers 0 -/
def takeC (v : Value) (m : Nat) : List Value → Option (List Value) := Nat.rec (motive := fun _ => List Value → Option (List Value)) (fun l => some l)
  (fun _ ih l => List.rec (motive := fun _ => Option (List Value)) none (fun x r _ => Bool.rec (motive := fun _ => Option (List Value)) none (ih r) (veq x v)) l) m
def chunks (v : Value) (c : Nat) (k : Nat) : List Value → Bool := Nat.rec (motive := fun _ => List Value → Bool) (fun l => l.isEmpty)
  (fun _ ih l => Option.rec (motive := fun _ => Bool) false (fun r => ih r) (takeC v c l)) k
theorem takeC_ok {v : Value} : ∀ (m : Nat) {l r : List Value}, takeC v m l = some r → l = List.replicate m v ++ r
  | 0, l, r, h => by
    have h : some l = some r := h
    cases h; simp
  | m + 1, [], r, h => by
    have h : (none : Option (List Value)) = some r := h
    cases h
  | m + 1, x :: l, r, h => by
    have h : Bool.rec (motive := fun _ => Option (List Value)) none (takeC v m l) (veq x v) = some r := h
    cases hv : veq x v with
    | false => rw [hv] at h; cases h
    | true =>
      rw [hv] at h
      have h : takeC v m l = some r := h
      rw [veq_ok hv, takeC_ok m h]; rfl
theorem chunks_ok {v : Value} {c : Nat} : ∀ (k : Nat) {l : List Value}, chunks v c k l = true → l = List.replicate (k * c) v
  | 0, l, h => by
    have h : l.isEmpty = true := h
    cases l with
    | nil => simp
    | cons _ _ => cases h
  | k + 1, l, h => by
    have h : Option.rec (motive := fun _ => Bool) false (fun r => chunks v c k r) (takeC v c l) = true := h
    cases ht : takeC v c l with
    | none => rw [ht] at h; cases h
    | some r =>
      rw [ht] at h
      have h : chunks v c k r = true := h
      rw [takeC_ok c ht, chunks_ok k h, Nat.add_mul, Nat.one_mul, Nat.add_comm (k * c) c, ← List.replicate_append_replicate]

def zeroCells (P : Program) (t : TypeId) : List Value := match P.info? t with
  | some i => match i.zero with
    | some z => z.cells.toList
    | none => []
  | none => []
theorem zero_const {P : Program} {t : TypeId} {v : Value} {c k : Nat} (hc : 0 < k * c) (h : chunks v c k (zeroCells P t) = true) : ∃ i z, P.info? t = some i ∧ i.zero = some z ∧ z.cells = Array.replicate (k * c) v := by
  have := chunks_ok k h
  unfold zeroCells at this
  cases hi : P.info? t with
  | none => rw [hi] at this; have := congrArg List.length this; simp at this; omega
  | some i =>
    rw [hi] at this
    simp only at this
    cases hz : i.zero with
    | none => rw [hz] at this; have := congrArg List.length this; simp at this; omega
    | some z =>
      rw [hz] at this
      simp only at this
      exact ⟨i, z, rfl, hz, by apply Array.ext'; rw [this]; simp⟩

set_option maxRecDepth 100000
theorem z132 : chunks (.int .i64 0) 200 160 (zeroCells Tryz.prog 132) = true := by kernel_rfl
theorem z133 : chunks (.int .i64 0) 200 160 (zeroCells Tryz.prog 133) = true := by kernel_rfl

/-! ## strings.Builder -/
theorem bld_size : (Tryz.prog.info? 150).map (·.size) = some 2 := by kernel_rfl
theorem bld_lies : liesAt Tryz.prog Tryz.prog.depth 150 (2 / Tryz.prog.cellsOf 150) 0 150 1 = true := by kernel_rfl
set_option maxHeartbeats 1000000 in
theorem copyCheck_used (b : Nat) (w : World) (h0 : w.cell? ⟨b, 0, none⟩ = some (.pointer (some ⟨b, 0, none⟩))) :
    Calls Tryz.prog 123 #[.pointer (some ⟨b, 0, none⟩)] w fun e w' => e = .returned (.tuple #[]) ∧ w' = w := by
  obtain ⟨j, hj, _⟩ := Option.map_eq_some_iff.1 bld_size
  go_enter Tryz.func123, Tryz.ntmps123
  go_wp2
  rw [Lib.run_neq_ptr_same w _ Tryz.underlying148 hj]
  go_wp2
  go_end0
  exact ⟨rfl, rfl⟩
set_option maxHeartbeats 1000000 in
theorem copyCheck_fresh (b : Nat) (w : World) (h0 : w.cell? ⟨b, 0, none⟩ = some (.pointer none)) (hsh : w.shape? b = some (150, 2)) (hfz : w.frozen? ⟨b, 0, none⟩ = false) :
    Calls Tryz.prog 123 #[.pointer (some ⟨b, 0, none⟩)] w fun e w' => e = .returned (.tuple #[]) ∧ w' = w.setCell ⟨b, 0, none⟩ (.pointer (some ⟨b, 0, none⟩)) := by
  obtain ⟨j, hj, hjs⟩ := Option.map_eq_some_iff.1 bld_size
  go_enter Tryz.func123, Tryz.ntmps123
  go_wp2
  rw [Lib.run_to_unsafe w ⟨b, 0, none⟩ Tryz.underlying148 Tryz.underlying161 hj (by rw [hjs]; decide) hsh (Nat.zero_lt_succ 1)]
  simp only [Result.andThen]
  rw [Oper.upon_value]
  go_wp2
  rw [run_callFunc_extern Tryz.func126 (by kernel_rfl) (by kernel_rfl) (by kernel_rfl) (e := Extern.AbiNoEscape.same) (by kernel_rfl)]
  rw [Lib.run_noEscape]
  simp only [Result.andThen]
  rw [Oper.upon_value]
  go_wp2
  rw [Lib.run_from_unsafe w ⟨b, 0, none⟩ Tryz.underlying161 Tryz.underlying148 hj hsh bld_lies]
  simp only [Result.andThen]
  rw [Oper.upon_value]
  go_wp2
  go_end0
  exact ⟨rfl, rfl⟩

/-! ## the program -/
def consT : T (Nat × Value) := T.set (32000, .int .i64 0) 60 (T.set (32000, .int .i64 0) 60 .e 132) 133
theorem consT_ok (t : TypeId) (n : Nat) (v : Value) (h : consT.get t = some (n, v)) : still v = true ∧ ∃ i z, Tryz.prog.info? t = some i ∧ i.zero = some z ∧ z.cells = Array.replicate n v := by
  unfold consT at h
  by_cases h1 : t = 133
  · subst h1
    rw [T.get_set _ _ _ _ (by decide)] at h
    cases h
    exact ⟨rfl, zero_const (c := 200) (k := 160) (by decide) z133⟩
  · rw [T.get_set_ne _ _ _ _ _ h1] at h
    by_cases h2 : t = 132
    · subst h2
      rw [T.get_set _ _ _ _ (by decide)] at h
      cases h
      exact ⟨rfl, zero_const (c := 200) (k := 160) (by decide) z132⟩
    · rw [T.get_set_ne _ _ _ _ _ h2, T.get_e] at h; cases h

theorem ofL_at {α : Type} {a : Array α} {k : Nat} {v : α} (hb : Nat.blt a.toList.length BIG = true) (h : (ofL a.toList 0 .e).get k = some v) : a[k]? = some v := by
  have hb : a.toList.length < BIG := by simpa [Nat.blt_eq] using hb
  rcases ofL_some a.toList 0 .e k v (by omega) h with ⟨_, h⟩ | h
  · rw [Nat.sub_zero] at h; simpa using h
  · rw [T.get_e] at h; cases h

def PP : PT where
  P := Tryz.prog
  info := ofL Tryz.prog.types.toList 0 .e
  fns := ofL Tryz.prog.funcs.toList 0 .e
  okI := fun t i h => by
    have h1 := ofL_at (a := Tryz.prog.types) (by kernel_rfl) h
    unfold Tables.info?
    rw [if_pos (Array.getElem?_eq_some_iff.1 h1).1]
    exact h1
  okF := fun f g h => ofL_at (by kernel_rfl) h
  cons := consT
  okC := consT_ok

theorem sp_ok (base : Nat → Prop) : SpOK PP base (spBuilder 123 118 150 5) :=
  spBuilder_ok (P := PP) (r := Tryz.lays169_ren) Tryz.lays169 Tryz.Builder_Extra_169 ⟨_, Tryz.func123, by kernel_rfl, by kernel_rfl⟩ ⟨_, Tryz.func118, by kernel_rfl, by kernel_rfl⟩ copyCheck_used copyCheck_fresh base

theorem run_true : isTrue (cfun PP (spBuilder 123 118 150 5) (cdraw PP) 2000 10 [] ⟨0, .e⟩) = true := by kernel_rfl

theorem awake_ok : Go.AX.SpecOK Tryz.prog 10 Go.AX.trueSpec := by
  obtain ⟨H', h⟩ := isTrue_some run_true
  exact Go.AX.true_ok fun W => closed (P := PP) (by kernel_rfl) sp_ok h W
end
end Go.CE.Aw

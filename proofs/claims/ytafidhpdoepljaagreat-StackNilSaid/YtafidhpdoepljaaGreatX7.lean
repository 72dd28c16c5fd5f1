/- A reading of the model's code over typed data, proved sound: part 7. -/
import Derived.Test.YtafidhpdoepljaaGreatX6
import Derived.Shelf.Strings.Builder1
import Derived.Shelf.Small.Strs
import Derived.IntWalk
/- AX, part 36: functions of Go's library, by their contracts. -/
namespace Go.AX
noncomputable section

/-! ## strings.IndexByte -/
def idxByte (s : List UInt8) (c : Int) : Int := Lib.indexByte s c.toNat.toUInt8

def indexByteSpec : Spec where
  pure := [true, true]
  grow := []
  mat := false
  run _ args bl K := match args with
    | [.v (.one (.a (.val .str s))), .v (.one (.a (.val (.int .u8) c)))] => K (vi (idxByte s c)) bl []
    | _ => none

theorem indexByte_ok {P : Program} {f : FuncId} (h : ∀ (s : ByteArray) (c : Int) (w : World), Calls P f #[.string s, .int .u8 c] w fun e w' => e = .returned (.int .i64 (Lib.indexByte s.data.toList c.toNat.toUInt8)) ∧ w' = w) : SpecOK P f indexByteSpec := by
  intro R args bl K r hrun
  simp only [indexByteSpec] at hrun
  split at hrun
  case h_2 => cases hrun
  rename_i s c
  refine ⟨_, bl, [], hrun, fun F ρ W rargs hargs hh => ?_⟩
  obtain ⟨x, r1, e1, hx, h1⟩ := hargs.cons_left
  obtain ⟨y, r2, e2, hy, h2⟩ := h1.cons_left
  have h2 := h2.nil_left
  have hx : [x] = [Value.string ⟨(s : List UInt8).toArray⟩] := hx
  have hy : [y] = [Value.int .u8 c] := hy
  have hx : x = .string ⟨(s : List UInt8).toArray⟩ := by simpa using hx
  have hy : y = .int .u8 c := by simpa using hy
  have hr : rargs = #[.string ⟨(s : List UInt8).toArray⟩, .int .u8 c] := by
    apply Array.ext'
    rw [e1, e2, h2, hx, hy]
  subst hr
  refine (h _ _ W).mono ?_
  rintro e w' ⟨rfl, rfl⟩
  exact ⟨_, F, ρ, rfl, by show [_] = [_]; simp [idxByte], hh, Ext.refl _ _ _ _ _⟩

/-! ## a function at a state of its arguments that no pattern tells -/
theorem fun_okA {P : Program} (hm : P.follows .mixedOrders = true) {tt : TT} (htt : TTok P tt) {Γ : FuncId → Option Spec} (hΓ : CallRule P tt Γ) {g : List Bool} {Λ : Nat → Option Frag} {dom : Nat → Bool} (hdom : ∀ k, (Λ k).isSome = dom k)
    {f : FuncId} {fn : Func} {c : Code} (hf : P.funcs[f]? = some fn) (hb : fn.body = some c) {rs : List ResultVar} (hrs : fn.results.toList = rs)
    (hd : dstsOk dom fn.ntmps c = true) (hc : ∀ p, p ∈ cutList dom c → ∀ F, Λ p.1 = some F → FragOK P fn.ntmps g p.2 F)
    {nb : Nat} {args : List AV} {bl : List ABlock} {qs : List SPat} {G : (R : Type) → Conts R qs → Option R} (hn : args.length ≤ fn.ntmps) (hnb : nb ≤ 32) (hq : (qs.all (qOk nb rs.length)) = true)
    (h : ∀ (R : Type) C, aexec tt Γ g Λ c (startSt args bl) (retM (R := R) tt rs qs C) = G R C) {R : Type} {K : AV → List ABlock → List ABlock → Option R} {r : R} (hrun : G R (runConts K nb qs) = some r) :
    ∃ v bl' nw, K v bl' nw = some r ∧ CallSound P g f args bl v bl' nw := by
  -- a pattern that tells nothing of the arguments, at a function that is told them
  rw [← h] at hrun
  obtain ⟨e, st1, h1, h2⟩ := aexec_ok hm htt hΓ hdom c hd hc R _ _ r hrun
  have hret : ∃ vs pr, pr ∈ qs ∧ ∃ y : pr.den, resEnv tt st1 rs = some vs ∧ dec pr (retSt st1 vs) = some y ∧ K (resAV (vals pr.env y.1)) ((blks pr.hp y.2).take nb) ((blks pr.hp y.2).drop nb) = some r ∧ (e = .normal ∨ e = .ret) := by
    cases e with
    | exit id => cases h1
    | normal =>
      simp only [retM] at h1
      split at h1
      · rename_i vs hvs
        obtain ⟨q, hq1, y, hy, hK⟩ := decFirst_ok h1
        exact ⟨vs, q, hq1, y, hvs, hy, hK, .inl rfl⟩
      · cases h1
    | ret =>
      simp only [retM] at h1
      split at h1
      · rename_i vs hvs
        obtain ⟨q, hq1, y, hy, hK⟩ := decFirst_ok h1
        exact ⟨vs, q, hq1, y, hvs, hy, hK, .inr rfl⟩
      · cases h1
  obtain ⟨vs, pr, hpr, y, hvs, hy, hK, he⟩ := hret
  have hqp := List.all_eq_true.1 hq pr hpr
  simp only [qOk, Bool.and_eq_true, decide_eq_true_eq] at hqp
  obtain ⟨hhp, henv⟩ := hqp
  refine ⟨_, _, _, hK, fun F ρ W rargs hargs hh => ?_⟩
  have hlen : rargs.size = args.length := by have := hargs.length; simp at this; omega
  have hs0 : SInv fn.ntmps F ρ (startSt args bl) { tmps := rargs ++ Array.replicate (fn.ntmps - rargs.size) undef, defers := [] } W := by
    refine ⟨by simp; omega, fun s => ?_, hh⟩
    simp only [startSt, envOf]
    cases ha : args[s]? with
    | none => exact RV.undef
    | some v =>
      obtain ⟨b, hb1, hb2⟩ := hargs.get s v ha
      have hlt : s < rargs.size := by
        rcases Nat.lt_or_ge s rargs.size with h | h
        · exact h
        · rw [List.getElem?_eq_none (by simpa using h)] at hb1; cases hb1
      have : (rargs ++ Array.replicate (fn.ntmps - rargs.size) undef).getD s undef = b := by
        rw [Array.getD_eq_getD_getElem?, Array.getElem?_append_left hlt]
        have : rargs[s]? = some b := by simpa using hb1
        rw [this]; rfl
      rw [this]; exact hb2
  refine calls_of_wp hf hb (wp_mono (h2 F ρ (hpOf bl []) _ W _ W (Leads.refl hs0)) ?_)
  rintro xx a' W' ⟨rfl, hl⟩
  obtain ⟨hdef, F1, ρ1, hs1, he1⟩ := hl
  subst hrs
  obtain ⟨rvs, hres, hrv⟩ := results_run htt hs1 hvs
  have hlv : vs.length = fn.results.toList.length := by
    have : ∀ (l : List ResultVar) (vs : List AV), resEnv tt st1 l = some vs → vs.length = l.length := by
      intro l
      induction l with
      | nil => intro vs h; cases h; rfl
      | cons x l ih =>
        intro vs h
        cases x with
        | tmp t =>
          simp only [resEnv] at h
          split at h
          · rename_i hl; cases h; simp [ih _ hl]
          · cases h
        | cell t T =>
          simp only [resEnv] at h
          split at h
          · rename_i hl; cases h; simp [ih _ hl]
          · cases h
    exact this _ _ hvs
  have hs2 : SInv rvs.length F1 ρ1 (retSt st1 vs) { tmps := rvs.toArray, defers := [] } W' := by
    refine ⟨by simp, fun s => ?_, hs1.heap⟩
    simp only [retSt, envOf]
    cases hv : vs[s]? with
    | none => exact RV.undef
    | some v =>
      obtain ⟨b, hb1, hb2⟩ := hrv.get s v hv
      have : (rvs.toArray).getD s undef = b := by rw [Array.getD_eq_getD_getElem?]; simp [hb1]
      rw [this]; exact hb2
  obtain ⟨_, F2, ρ2, hs3, he3⟩ := dec_ok (g := g) hy hs2
  have hheap : (encS pr y).hp = hpOf ((blks pr.hp y.2).take nb) ((blks pr.hp y.2).drop nb) := hpOf_enc hhp hnb y.2
  have hfin : CallSound.fin P F ρ W bl g (resAV (vals pr.env y.1)) ((blks pr.hp y.2).take nb) ((blks pr.hp y.2).drop nb) (resV rvs) W' := by
    refine ⟨F2, ρ2, ?_, by rw [← hheap]; exact hs3.heap, by rw [← hheap]; exact he1.trans he3⟩
    rw [← hheap]
    obtain ⟨g1, g2⟩ := vals_get (y := y.1) (k := 0) (m := fn.results.size) (by simpa using henv)
    have gets : ∀ i, i < fn.results.size → ∃ v, (vals pr.env y.1)[i]? = some v ∧ RV1 F2 ρ2 (encS pr y).hp v (rvs.getD i undef) := by
      intro i hi
      obtain ⟨v, v1, v2⟩ := g1 i hi
      refine ⟨v, v1, ?_⟩
      have := hs3.env i
      rw [Nat.zero_add] at v2
      have e : (encS pr y).env i = .v v := v2
      rw [e] at this
      have e2 : (rvs.toArray).getD i undef = rvs.getD i undef := by simp [List.getD_eq_getElem?_getD, Array.getD_eq_getD_getElem?]
      rw [← e2]; exact this
    have hl2 : rvs.length = (vals pr.env y.1).length := by
      have q1 := hrv.length
      have q2 := g2
      have q3 := hlv
      simp only [Array.length_toList] at q2 q3
      omega
    revert gets
    rw [← g2]
    revert hl2
    generalize vals pr.env y.1 = vs
    generalize rvs = rs
    intro hl2 gets
    have all : All2 (RV1 F2 ρ2 (encS pr y).hp) vs rs := by
      refine All2.of_get hl2.symm fun i v b hv hb => ?_
      have hi : i < vs.length := by
        rcases Nat.lt_or_ge i vs.length with h | h
        · exact h
        · rw [List.getElem?_eq_none h] at hv; cases hv
      obtain ⟨v', v1, v2⟩ := gets i hi
      rw [hv] at v1; cases v1
      rw [List.getD_eq_getElem?_getD, hb] at v2
      exact v2
    match vs, rs, all with
    | [v], [r], a => exact a.1
    | [], [], _ => exact ⟨#[], rfl, trivial⟩
    | _ :: _ :: _, _ :: _ :: _, a => exact ⟨_, rfl, by simpa using a⟩
    | [_], _ :: _ :: _, a => exact a.2.elim
    | _ :: _ :: _, [_], a => exact a.2.elim
    | [], _ :: _, a => exact a.elim
    | _ :: _, [], a => exact a.elim
  rcases he with rfl | rfl
  · exact ⟨hdef, _, hres, ⟨_, hfin.choose, hfin.choose_spec.choose, rfl, hfin.choose_spec.choose_spec⟩⟩
  · exact ⟨hdef, _, hres, ⟨_, hfin.choose, hfin.choose_spec.choose, rfl, hfin.choose_spec.choose_spec⟩⟩

/-! ## slices.Clone -/
def qClone (E : TypeId) (t : Ty) : SPat := ⟨[(0, .one (.slf 32))], [(32, .row E t)]⟩

def cloneSpec (E : TypeId) (t : Ty) (bytes : Nat) : Spec where
  pure := [true]
  grow := []
  mat := false
  run _ args bl K := match args, bl with
    | [.v (.one (.a (.val (.list t') xs)))], [] => if h : t' = t then (if (List.length xs) * bytes ≤ LIM then K (.at (.slf 32 0)) [] [.row E t 0 false (h ▸ xs : List t.den)] else none) else none
    | _, _ => none

theorem clone_ok {P : Program} {f : FuncId} {E : TypeId} {t : Ty} {bytes : Nat}
    (h1 : ∀ (R : Type) (K : AV → List ABlock → List ABlock → Option R) r, K (.at (.slf 32 0)) [] [.row E t 0 false []] = some r → ∃ v bl' nw, K v bl' nw = some r ∧ CallSound P [] f [.at .nilsl] [] v bl' nw)
    (h2 : ∀ (xs : List t.den), xs.length * bytes ≤ LIM → ∀ (R : Type) (K : AV → List ABlock → List ABlock → Option R) r, K (.at (.slf 32 0)) [] [.row E t 0 false xs] = some r → ∃ v bl' nw, K v bl' nw = some r ∧ CallSound P [] f [.at (.nvl t xs)] [] v bl' nw) :
    SpecOK P f (cloneSpec E t bytes) := by
  intro R args bl K r hrun
  simp only [cloneSpec] at hrun
  split at hrun
  case h_2 => cases hrun
  rename_i t' xs
  split at hrun
  case isFalse => cases hrun
  rename_i ht
  subst ht
  split at hrun
  case isFalse => cases hrun
  rename_i hlim
  refine ⟨_, _, _, hrun, fun F ρ W rargs hargs hh => ?_⟩
  -- what each way leaves
  have get : ∀ (a : AV) (ys : List t'.den), (∀ (R : Type) (K : AV → List ABlock → List ABlock → Option R) r, K (.at (.slf 32 0)) [] [.row E t' 0 false ys] = some r → ∃ v bl' nw, K v bl' nw = some r ∧ CallSound P [] f [a] [] v bl' nw) →
      CallSound P [] f [a] [] (.at (.slf 32 0)) [] [.row E t' 0 false ys] := by
    intro a ys h
    obtain ⟨v, bl', nw, e, hs⟩ := h (AV × List ABlock × List ABlock) (fun v b n => some (v, b, n)) (.at (.slf 32 0), [], [.row E t' 0 false ys]) rfl
    simp only [Option.some.injEq, Prod.mk.injEq] at e
    obtain ⟨rfl, rfl, rfl⟩ := e
    exact hs
  obtain ⟨x, r1, e1, hx, hr1⟩ := hargs.cons_left
  have hr1 := hr1.nil_left
  have hx : RC F (.list t') xs [x] := hx
  have hx0 := hx
  simp only [RC] at hx
  obtain ⟨A, cap, e, hle, hnone, _⟩ := hx
  have e : x = .slice A (List.length xs) cap := by simpa using e
  cases A with
  | none =>
    have hc := hnone rfl
    have hl : List.length xs = 0 := by omega
    have hxs : xs = [] := List.length_eq_zero_iff.1 hl
    subst hxs
    refine get (.at .nilsl) [] (fun R K r h => h1 R K r h) F ρ W rargs ?_ hh
    rw [e1, hr1, e]
    refine ⟨?_, trivial⟩
    show _ = Value.slice none 0 0
    rw [hc]; rfl
  | some A =>
    refine get (.at (.nvl t' xs)) xs (fun R K r h => h2 xs hlim R K r h) F ρ W rargs ?_ hh
    rw [e1, hr1]
    refine ⟨⟨hx0, fun l c h => ?_⟩, trivial⟩
    rw [e] at h; cases h

end
end Go.AX
/- AX, part 37: strings.Builder. -/
namespace Go.AX
noncomputable section
open Go.Proofs Go.Shelf Go.RowKit

theorem hpOf2 (a b : ABlock) (id : Nat) : hpOf [a, b] [] id = if id = 0 then some a else if id = 1 then some b else none := by
  simp only [hpOf]
  cases e : Nat.ble 32 id with
  | true =>
    have := Nat.le_of_ble_eq_true e
    simp
    rw [if_neg (by omega), if_neg (by omega)]
  | false =>
    match id with
    | 0 => rfl
    | 1 => rfl
    | n + 2 => simp

/-- a builder's two blocks, in memory -/
structure Bld (F : Fz) (ρ : Rho) (W : World) (T E : TypeId) (c0 : Cell) (xs : List Int) (b : Nat) where
  bs0 : (ρ 0).bs = [b]
  addr : Value
  buf : Value
  heap : W.heap[b]? = some (.cells #[addr, buf] T (0, 0))

def hput' (hp : Heap) (T : TypeId) : Heap := AX.hput hp 0 (.cells T [.a (.ptr 0 0 0 0), .a (.slf 1 0)])

/-! ### copyCheck -/
def bldIn (T E : TypeId) (c0 : Cell) (xs : List Int) : List ABlock := [.cells T [c0, .a (.slf 1 0)], .row E (.int .u8) 0 false xs]

def copyCheckSpec (T E : TypeId) : Spec where
  pure := [false]
  grow := []
  mat := true
  run _ args bl K := match args, bl with
    | [.v (.one (.a (.ptr 0 0 0 0)))], [.cells T' [.a x0, .a (.slf 1 0)], .row E' (.int .u8) 0 false xs] => match Nat.beq T' T, x0 with
      | true, .nilptr => K (.tup []) [.cells T' [.a (.ptr 0 0 0 0), .a (.slf 1 0)], .row E' (.int .u8) 0 false xs] []
      | true, .ptr 0 0 0 0 => K (.tup []) [.cells T' [.a (.ptr 0 0 0 0), .a (.slf 1 0)], .row E' (.int .u8) 0 false xs] []
      | _, _ => none
    | _, _ => none

theorem copyCheck_ok {P : Program} {f : FuncId} {T E : TypeId}
    (hu : ∀ (b : Nat) (w : World), w.cell? ⟨b, 0, none⟩ = some (.pointer (some ⟨b, 0, none⟩)) → Calls P f #[.pointer (some ⟨b, 0, none⟩)] w fun e w' => e = .returned (.tuple #[]) ∧ w' = w)
    (hf : ∀ (b : Nat) (w : World), w.cell? ⟨b, 0, none⟩ = some (.pointer none) → w.shape? b = some (T, 2) → w.frozen? ⟨b, 0, none⟩ = false → Calls P f #[.pointer (some ⟨b, 0, none⟩)] w fun e w' => e = .returned (.tuple #[]) ∧ w' = w.setCell ⟨b, 0, none⟩ (.pointer (some ⟨b, 0, none⟩))) :
    SpecOK P f (copyCheckSpec T E) := by
  intro R args bl K r hrun
  simp only [copyCheckSpec] at hrun
  split at hrun
  case h_2 => cases hrun
  rename_i T' x0 E' xs
  -- the pointer's block
  have start : ∀ (x0 : Atom) F ρ W (rargs : Array Value), All2 (RV F ρ (hpOf [.cells T' [.a x0, .a (.slf 1 0)], .row E' (.int .u8) 0 false xs] [])) [.v (.one (.a (.ptr 0 0 0 0)))] rargs.toList →
      HeapOK F ρ (hpOf [.cells T' [.a x0, .a (.slf 1 0)], .row E' (.int .u8) 0 false xs] []) W →
      ∃ bb v0 v1 fr, rargs = #[.pointer (some ⟨bb, 0, none⟩)] ∧ (ρ 0).bs = [bb] ∧ W.heap[bb]? = some (.cells #[v0, v1] T' fr) ∧ NF fr 2 ∧ RA F ρ (hpOf [.cells T' [.a x0, .a (.slf 1 0)], .row E' (.int .u8) 0 false xs] []) x0 v0 ∧
        RA F ρ (hpOf [.cells T' [.a x0, .a (.slf 1 0)], .row E' (.int .u8) 0 false xs] []) (.slf 1 0) v1 := by
    intro x0 F ρ W rargs hargs hh
    obtain ⟨x, r1, e1, hx, hr1⟩ := hargs.cons_left
    have hr1 := hr1.nil_left
    obtain ⟨b0, hb0, _, ad, rfl, had⟩ := hx
    rw [hpOf2] at hb0
    simp only [if_true, Option.some.injEq] at hb0
    subst hb0
    obtain ⟨_, bb, hbs, rfl⟩ := had rfl
    obtain ⟨bb', rs, fr, h1, h2, h3, h4⟩ := hh.blocks 0 _ (by rw [hpOf2]; rfl)
    rw [hbs] at h1; cases h1
    obtain ⟨v0, m, e2, g0, h5⟩ := h4.cons_left
    obtain ⟨v1, m', e3, g1, h6⟩ := h5.cons_left
    have h6 := h6.nil_left
    subst h6
    have : rs = #[v0, v1] := by apply Array.ext'; rw [e2, e3]
    subst this
    refine ⟨bb, v0, v1, fr, ?_, hbs, h2, by simpa using h3, g0, g1⟩
    apply Array.ext'; rw [e1, hr1]
  split at hrun
  case h_3 => cases hrun
  · -- fresh
    rename_i hT
    have hT := beq_eq hT
    subst hT
    refine ⟨_, _, _, hrun, fun F ρ W rargs hargs hh => ?_⟩
    obtain ⟨bb, v0, v1, fr, rfl, hbs, hheap, hnf, g0, g1⟩ := start .nilptr F ρ W rargs hargs hh
    have g0 : v0 = .pointer none := g0
    subst g0
    refine (hf bb W (by simp [World.cell?, hheap]) (by simp [World.shape?, hheap]) (frozen_at hheap (by simpa using hnf) (by simp))).mono ?_
    rintro e w' ⟨rfl, rfl⟩
    have hset := setCell_heap hheap (.pointer (some ⟨bb, 0, none⟩)) (o := 0)
    have hp0 : hpOf [.cells T' [.a .nilptr, .a (.slf 1 0)], .row E' (.int .u8) 0 false xs] [] 0 = some (.cells T' [.a .nilptr, .a (.slf 1 0)]) := by rw [hpOf2]; rfl
    have hput : PutOK [] F ρ (hpOf [.cells T' [.a .nilptr, .a (.slf 1 0)], .row E' (.int .u8) 0 false xs] []) W 0 (ρ 0) (.cells T' [.a (.ptr 0 0 0 0), .a (.slf 1 0)]) (W.setCell ⟨bb, 0, none⟩ (.pointer (some ⟨bb, 0, none⟩))) :=
      PutOK.inplace hp0 rfl rfl hbs hset ⟨Nat.le_refl _, fun h => (by cases h), fun _ => rfl⟩ (fun _ => ⟨rfl, rfl, rfl⟩)
    have hhp : hput' (hpOf [.cells T' [.a .nilptr, .a (.slf 1 0)], .row E' (.int .u8) 0 false xs] []) T' = hpOf [.cells T' [.a (.ptr 0 0 0 0), .a (.slf 1 0)], .row E' (.int .u8) 0 false xs] [] := by
      funext id
      by_cases e : id = 0
      · subst e; simp [hput', hpOf2, hput_same]
      · rw [hput', hput_ne e, hpOf2, hpOf2]
        simp [e]
    have hgood := hput.good (v := .tup []) (r := .tuple #[]) hh ?_ ⟨#[], rfl, trivial⟩
    · obtain ⟨F', ρ', k1, k2, k3, k4⟩ := hgood
      rw [show AX.hput (hpOf [.cells T' [.a .nilptr, .a (.slf 1 0)], .row E' (.int .u8) 0 false xs] []) 0 (.cells T' [.a (.ptr 0 0 0 0), .a (.slf 1 0)]) = _ from hhp] at k1 k3 k4
      exact ⟨_, F', ρ', rfl, k3, k1, k4⟩
    · refine ⟨bb, _, fr, by simpa using hbs, hset.at_, by simpa using hnf, ?_, ?_, trivial⟩
      · refine ⟨_, hput_same .., Nat.le_refl _, _, rfl, fun _ => ⟨rfl, bb, by simpa using hbs, rfl⟩⟩
      · exact RA.mono (fun _ _ h => h) hput.keep g1
  · -- used
    rename_i hT
    have hT := beq_eq hT
    subst hT
    refine ⟨_, _, _, hrun, fun F ρ W rargs hargs hh => ?_⟩
    obtain ⟨bb, v0, v1, fr, rfl, hbs, hheap, hnf, g0, g1⟩ := start (.ptr 0 0 0 0) F ρ W rargs hargs hh
    obtain ⟨b0, hb0, _, ad, rfl, had⟩ := g0
    rw [hpOf2] at hb0
    simp only [if_true, Option.some.injEq] at hb0
    subst hb0
    obtain ⟨_, bb', hbs', rfl⟩ := had rfl
    rw [hbs] at hbs'; cases hbs'
    refine (hu bb W (by simp [World.cell?, hheap])).mono ?_
    rintro e w' ⟨rfl, rfl⟩
    exact ⟨_, F, ρ, rfl, ⟨#[], rfl, trivial⟩, hh, Ext.refl _ _ _ _ _⟩

/-! ### String -/
def byteList (xs : List Int) : Bool := xs.all fun n => decide (0 ≤ n ∧ n < 256)
def strOf (xs : List Int) : List UInt8 := xs.map fun n => UInt8.ofNat n.toNat

def stringSpec (T E : TypeId) : Spec where
  pure := [false]
  grow := List.replicate 32 true
  mat := true
  run _ args bl K := match args, bl with
    | [.v (.one (.a (.ptr 0 0 0 0)))], [.cells T' [.a x0, .a (.slf 1 0)], .row E' (.int .u8) 0 false xs] => match Nat.beq T' T && Nat.beq E' E, x0 with
      | true, .ptr 0 0 0 0 => if 0 < List.length xs ∧ List.length xs ≤ LIM ∧ byteList xs = true then K (.at (.val .str (strOf xs))) [.cells T' [.a (.ptr 0 0 0 0), .a .undef], .row E' (.int .u8) 0 false []] [] else none
      | _, _ => none
    | _, _ => none

/-- what String does to the world: the builder's buffer g may be marked, nothing else turns -/
structure Keep1 (b g : Nat) (w w' : World) : Prop where
  os : w'.os = w.os
  tape : w'.tape = w.tape
  output : w'.output = w.output
  size : w.heap.size ≤ w'.heap.size
  ne : ∀ k, k < w.heap.size → k ≠ g → w'.heap[k]? = w.heap[k]?


end
end Go.AX
/- AX, part 38: strings.Builder's String, run. -/
namespace Go.AX
open Go.Proofs Go.Shelf Go.RowKit
variable {P : Program} {ρ : Go.Shelf.Ren}

theorem Keep1.refl (b g : Nat) (w : World) : Keep1 b g w w := ⟨rfl, rfl, rfl, Nat.le_refl _, fun _ _ _ => rfl⟩
theorem Keep1.drew {b g : Nat} {w w' : World} (h : Keep1 b g w w') : Keep1 b g w w'.drew := ⟨h.os, h.tape, h.output, h.size, h.ne⟩
theorem Keep1.alloc {b g : Nat} {w w' : World} (h : Keep1 b g w w') (o : Obj) : Keep1 b g w (w'.alloc o) :=
  ⟨h.os, h.tape, h.output, by have := h.size; simp; omega, fun k hk hg => by
    rw [← h.ne k hk hg]
    exact Below.heap_alloc _ _ _ (Nat.lt_of_lt_of_le hk h.size)⟩
theorem Keep1.freeze {b g : Nat} {w w' : World} (h : Keep1 b g w w') (o n : Nat) : Keep1 b g w (w'.freeze ⟨g, o, none⟩ n) := by
  unfold World.freeze
  split
  · exact h
  · exact ⟨h.os, h.tape, h.output, by have := h.size; simpa using this, fun k hk hg => by
      rw [← h.ne k hk hg]
      simp only [Array.getElem?_modify]
      rw [if_neg (Ne.symm hg)]⟩

set_option maxHeartbeats 1000000 in
set_option maxRecDepth 100000 in
theorem string_some (L : Lays.n169 P ρ) (X : Builder.Extra P ρ) (b g cap : Nat) (cur : Array Value) (p : Value) (f1 f2 : Nat × Nat) (l : List UInt8) (w : World)
    (hbk : w.heap[b]? = some (.cells #[p, .slice (some ⟨g, 0, none⟩) l.length cap] (ρ.t 72) f1)) (hg : w.heap[g]? = some (.cells cur (ρ.t 5) f2)) (hnc : l.length ≤ cap) (hcm : l.length ≤ 9223372036854775807) (hcs : l.length ≤ cur.size)
    (hown : ∀ j x, l[j]? = some x → w.cell? ((⟨g, 0, none⟩ : Addr).add j) = some (.int .u8 x.toNat)) (h0 : l ≠ []) :
    Calls P (ρ.f 169) #[.pointer (some ⟨b, 0, none⟩)] w fun e w' => e = .returned (.string ⟨l.toArray⟩) ∧ Keep1 b g w w' := by
  have hl0 : l.length ≠ 0 := by simpa using h0
  have c1 : w.drew.cell? ⟨b, 1, none⟩ = some (.slice (some ⟨g, 0, none⟩) l.length cap) := by
    have : w.drew.heap[b]? = some (.cells #[p, .slice (some ⟨g, 0, none⟩) l.length cap] (ρ.t 72) f1) := hbk
    simp [World.cell?, this]
  have hSD : (Builtin.unsafeSliceData_ #[(ρ.t 37)] (ρ.t 127) #[.slice (some ⟨g, 0, none⟩) l.length cap]).run P w.drew = .ok (.pointer (some ⟨g, 0, none⟩)) w.drew :=
    Lib.run_unsafeSliceData_row _ _ _ _ _ _ (by omega)
  have hUS : (Builtin.unsafeString_ #[(ρ.t 127), (ρ.t 3)] (ρ.t 9) #[.pointer (some ⟨g, 0, none⟩), .int .i64 l.length]).run P w.drew = .ok (.string ⟨l.toArray⟩) (w.drew.freeze ⟨g, 0, none⟩ l.length) := by
    refine Lib.run_unsafeString_row w.drew (ρ.t 127) (ρ.t 3) (ρ.t 9) (ρ.t 5) L.t127 X.cellsByte g cur.size (by have hg' : w.drew.heap[g]? = some (.cells cur (ρ.t 5) f2) := hg; simp [World.shape?, hg']) l h0 hcs hcm ?_
    exact hown
  clear hown hnc hcm hcs
  have mixed := L.mixed
  have t72 := L.t72; have a72 := L.a72; have z72 := L.z72; have v72 := L.v72; have u72 := run_underlying L.t72
  have t70 := L.t70; have a70 := L.a70; have z70 := L.z70; have v70 := L.v70; have u70 := run_underlying L.t70
  have t37 := L.t37; have a37 := L.a37; have z37 := L.z37; have v37 := L.v37; have u37 := run_underlying L.t37
  have t127 := L.t127; have a127 := L.a127; have z127 := L.z127; have v127 := L.v127; have u127 := run_underlying L.t127
  have t3 := L.t3; have a3 := L.a3; have z3 := L.z3; have v3 := L.v3; have u3 := run_underlying L.t3
  have t9 := L.t9; have a9 := L.a9; have z9 := L.z9; have v9 := L.v9; have u9 := run_underlying L.t9
  have t5 := X.t5; have a5 := X.a5; have z5 := X.z5; have v5 := X.v5; have u5 := run_underlying X.t5
  go_enter L.f169, Body.n169_ntmps ρ
  go_wp2
  go_region_o
  all_goals (go_wp2; go_ret; exact ⟨rfl, (Keep1.refl b g w).drew.freeze 0 _⟩)

theorem string_ok (L : Lays.n169 P ρ) (X : Builder.Extra P ρ) : SpecOK P (ρ.f 169) (stringSpec (ρ.t 72) (ρ.t 5)) := by
  intro R args bl K r hrun
  simp only [stringSpec] at hrun
  split at hrun
  case h_2 => cases hrun
  rename_i T' x0 E' xs
  split at hrun
  case h_2 => cases hrun
  rename_i hT
  simp only [Bool.and_eq_true] at hT
  obtain ⟨hT, hE⟩ := hT
  have hT := beq_eq hT
  have hE := beq_eq hE
  subst hT hE
  split at hrun
  case isFalse => cases hrun
  rename_i hc
  obtain ⟨hpos, hlim, hby⟩ := hc
  refine ⟨_, _, _, hrun, fun F rh W rargs hargs hh => ?_⟩
  obtain ⟨x, r1, e1, hx, hr1⟩ := hargs.cons_left
  have hr1 := hr1.nil_left
  obtain ⟨b0, hb0, _, ad, rfl, had⟩ := hx
  rw [hpOf2] at hb0
  simp only [if_true, Option.some.injEq] at hb0
  subst hb0
  obtain ⟨_, bb, hbs, rfl⟩ := had rfl
  obtain ⟨bb', rs, fr, h1, h2, h3, h4⟩ := hh.blocks 0 _ (by rw [hpOf2]; rfl)
  rw [hbs] at h1; cases h1
  obtain ⟨v0, m, e2, g0, h5⟩ := h4.cons_left
  obtain ⟨v1, m', e3, g1, h6⟩ := h5.cons_left
  have h6 := h6.nil_left
  subst h6
  have : rs = #[v0, v1] := by apply Array.ext'; rw [e2, e3]
  subst this
  have hr : rargs = #[.pointer (some ⟨bb, 0, none⟩)] := by apply Array.ext'; rw [e1, hr1]
  subst hr
  -- the address
  obtain ⟨b0, hb0, _, ad, rfl, had⟩ := g0
  rw [hpOf2] at hb0
  simp only [if_true, Option.some.injEq] at hb0
  subst hb0
  obtain ⟨_, bb', hbs', rfl⟩ := had rfl
  rw [hbs] at hbs'; cases hbs'
  -- the buffer
  obtain ⟨b1, hb1, _, A, l, c, rfl, hsl⟩ := g1
  rw [hpOf2] at hb1
  simp only [Nat.one_ne_zero, if_false, if_true, Option.some.injEq] at hb1
  subst hb1
  obtain ⟨hl, hcap, hA⟩ := hsl rfl
  subst hl hcap
  rcases hh.blocks 1 _ (by rw [hpOf2]; rfl) with ⟨_, hx0, _⟩ | ⟨g, cur, f2, hgb, hgh, hnf, hsz, hle, hel, _⟩
  · subst hx0; simp at hpos
  have hA := hA g hgb
  subst hA
  have hne : g ≠ bb := by
    intro e
    have := hh.inj 0 1 _ _ bb (by rw [hpOf2]; rfl) (by rw [hpOf2]; rfl) (by rw [hbs]; simp) (by rw [hgb, e]; simp)
    cases this
  have hlen : (strOf xs).length = xs.length := by simp [strOf]
  have hsz : cur.size = (rh 1).cap := by simpa [Ty.size] using hsz
  have hget : ∀ j x, (strOf xs)[j]? = some x → W.cell? ((⟨g, 0, none⟩ : Addr).add j) = some (.int .u8 x.toNat) := by
    intro j x hx
    have hj : j < xs.length := by
      have := (List.getElem?_eq_some_iff.1 hx).1
      omega
    have h7 := hel j hj
    simp only [Ty.size, Nat.mul_one, RC] at h7
    have h8 : (segV cur j 1)[0]? = cur[j + 0]? := segV_get (by omega)
    rw [h7] at h8
    have h9 : x = UInt8.ofNat (xs[j]).toNat := by
      simp only [strOf, List.getElem?_map, List.getElem?_eq_getElem hj, Option.map_some, Option.some.injEq] at hx
      exact hx.symm
    have hr := List.all_eq_true.1 hby xs[j] (List.getElem_mem hj)
    simp only [decide_eq_true_eq] at hr
    have h10 : xs.getD j (Ty.int IntKind.u8).dflt = xs[j] := by rw [List.getD_eq_getElem?_getD, List.getElem?_eq_getElem hj]; rfl
    rw [add_eq, cell_at hgh]
    simp only [List.getElem?_cons_zero, Nat.add_zero] at h8
    rw [Nat.zero_add, ← h8, h10, h9]
    congr 2
    have : (UInt8.ofNat (xs[j]).toNat).toNat = (xs[j]).toNat := by
      rw [UInt8.toNat_ofNat']
      exact Nat.mod_eq_of_lt (by omega)
    rw [this]; omega
  have hlt : ∀ k o, W.heap[k]? = some o → k < W.heap.size := fun k o h => by
    rcases Nat.lt_or_ge k W.heap.size with h' | h'
    · exact h'
    · rw [Array.getElem?_eq_none h'] at h; cases h
  refine (string_some L X bb g (rh 1).cap cur _ fr f2 (strOf xs) W (by rw [hlen]; exact h2) hgh (by omega) (by unfold LIM at hlim; omega) (by omega) hget (by intro h; rw [h] at hlen; simp at hlen; omega)).mono ?_
  rintro e w' ⟨rfl, hk⟩
  have hbb := hlt bb _ h2
  refine ⟨_, F, fun i => if i = 1 then ⟨[], 0⟩ else rh i, rfl, ?_, ⟨?_, ?_, ?_, ?_⟩, ⟨hk.os, hk.tape, hk.output, hk.size, ?_, ?_, fun _ _ h => h, fun _ h => .inl h, ?_⟩⟩
  · show [_] = [_]; rfl
  · intro id blk hblk
    rw [hpOf2] at hblk
    by_cases e0 : id = 0
    · subst e0
      simp only [if_true, Option.some.injEq] at hblk
      subst hblk
      refine ⟨bb, _, fr, hbs, (hk.ne bb hbb (Ne.symm hne)).trans h2, h3, ?_, trivial, trivial⟩
      exact ⟨.cells (ρ.t 72) [.a (.ptr 0 0 0 0), .a .undef], by rw [hpOf2]; rfl, Nat.le_refl _, _, rfl, fun _ => ⟨rfl, bb, hbs, rfl⟩⟩
    · by_cases e1 : id = 1
      · subst e1
        simp only [Nat.one_ne_zero, if_false, if_true, Option.some.injEq] at hblk
        subst hblk
        exact .inl ⟨rfl, rfl, rfl⟩
      · rw [if_neg e0, if_neg e1] at hblk; cases hblk
  · intro i j x y k hx hy hi hj
    rw [hpOf2] at hx hy
    have h0 : ∀ i, (∃ x, (if i = 0 then some (ABlock.cells (ρ.t 72) [.a (.ptr 0 0 0 0), .a .undef]) else if i = 1 then some (ABlock.row (ρ.t 5) (.int .u8) 0 false []) else none) = some x) → k ∈ ((fun i => if i = 1 then (⟨[], 0⟩ : Foot) else rh i) i).bs → i = 0 := by
      intro i ⟨x, hx⟩ hi
      by_cases e0 : i = 0
      · exact e0
      · by_cases e1 : i = 1
        · subst e1; simp at hi
        · rw [if_neg e0, if_neg e1] at hx; cases hx
    rw [h0 i ⟨x, hx⟩ hi, h0 j ⟨y, hy⟩ hj]
  · intro k o hF
    have h7 := hh.fz k o hF
    have : k ≠ g := by
      intro e
      subst e
      have := hh.apart k ⟨1, _, by rw [hpOf2]; rfl, rfl, by rw [hgb]; simp⟩
      rw [this] at hF; cases hF
    rw [hk.ne k (hlt k _ h7) this]; exact h7
  · rintro k ⟨i, x, hx, hz, hm⟩
    rw [hpOf2] at hx
    by_cases e0 : i = 0
    · subst e0
      exact hh.apart k ⟨0, _, by rw [hpOf2]; rfl, rfl, hm⟩
    · by_cases e1 : i = 1
      · subst e1; simp at hm
      · rw [if_neg e0, if_neg e1] at hx; cases hx
  · intro k hklt hno
    refine hk.ne k hklt ?_
    intro e
    subst e
    exact hno ⟨1, _, by rw [hpOf2]; rfl, rfl, by rw [hgb]; simp⟩
  · rintro k ⟨i, x, hx, hz, hm⟩
    rw [hpOf2] at hx
    by_cases e0 : i = 0
    · subst e0
      exact .inl ⟨0, _, by rw [hpOf2]; rfl, rfl, hm⟩
    · by_cases e1 : i = 1
      · subst e1; simp at hm
      · rw [if_neg e0, if_neg e1] at hx; cases hx
  · intro id _ blk hblk
    rw [hpOf2] at hblk
    by_cases e0 : id = 0
    · subst e0
      simp only [if_true, Option.some.injEq] at hblk
      subst hblk
      exact ⟨.cells (ρ.t 72) [.a (.ptr 0 0 0 0), .a .undef], by rw [hpOf2]; rfl, rfl, rfl, rfl⟩
    · by_cases e1 : id = 1
      · subst e1
        simp only [Nat.one_ne_zero, if_false, if_true, Option.some.injEq] at hblk
        subst hblk
        refine ⟨.row (ρ.t 5) (.int .u8) 0 false [], by rw [hpOf2]; rfl, rfl, rfl, rfl, fun h => ?_⟩
        exact absurd h (by simp [stringSpec])
      · rw [if_neg e0, if_neg e1] at hblk; cases hblk

end Go.AX
/- AX, part 39: loops whose first round differs. -/
namespace Go.AX
noncomputable section

def LoopOK (P : Program) (n : Nat) (g : List Bool) (c : Code) (F : Frag) : Prop :=
  ∀ (R : Type) (st : ASt) (K : Ex → ASt → Option R) (r : R), F R st K = some r → ∃ e st', K e st' = some r ∧ ∀ F ρ hp a0 W0 a W, Leads n g F ρ hp a0 W0 st a W → LoopWp P c (Goal n g F ρ hp a0 W0 e st') a W

theorem LoopOK.frag {P : Program} {n : Nat} {g : List Bool} {c : Code} {F : Frag} (h : LoopOK P n g c F) : FragOK P n g (.loop c) F := by
  intro R st K r hF
  obtain ⟨e, st', h1, h2⟩ := h R st K r hF
  exact ⟨e, st', h1, fun F ρ hp a0 W0 a W hl => (h2 F ρ hp a0 W0 a W hl).loop⟩

theorem LoopOK.alt {P : Program} {n : Nat} {g : List Bool} {c : Code} {F G : Frag} {fits : ASt → Bool} (hF : LoopOK P n g c F) (hG : LoopOK P n g c G) : LoopOK P n g c (fragAlt F G fits) := by
  intro R st K r h
  unfold fragAlt at h
  split at h
  · exact hF R st K r h
  · exact hG R st K r h

theorem LoopOK.none (P : Program) (n : Nat) (g : List Bool) (c : Code) : LoopOK P n g c (fun _ _ _ => none) := by
  intro R st K r h; cases h

/-- a loop's next round, another pattern's loop, or its ways out -/
def loopV {R : Type} (p : SPat) (next : p.den → Option R) (alt : ASt → (Ex → ASt → Option R) → Option R) (K : Ex → ASt → Option R) (outs : Outs) : Ex → ASt → Option R
  | .normal, st => match dec p st with
    | some y => next y
    | none => alt st K
  | e, st => outE K outs e st

section
variable {P : Program} {tt : TT} {Γ : FuncId → Option Spec} {g : List Bool} {n : Nat} {Λ : Nat → Option Frag} {dom : Nat → Bool}

theorem loop_okV (hm : P.follows .mixedOrders = true) (htt : TTok P tt) (hΓ : CallRule P tt Γ) (hdom : ∀ k, (Λ k).isSome = dom k) {c : Code} (hd : dstsOk dom n c = true) (hc : ∀ p, p ∈ cutList dom c → ∀ F, Λ p.1 = some F → FragOK P n g p.2 F)
    {p : SPat} {G : Nat → Typed p} (outs : Outs) {B : Frag} (hB : LoopOK P n g c B) (h0 : ∀ R x K, G 0 R x K = none)
    (h : ∀ (R : Type) k x K, aexec tt Γ g Λ c (encS p x) (loopV (R := R) p (fun y => G k R y K) (B R) K outs) = G (k + 1) R x K) (N : Nat) :
    LoopOK P n g c (fragOf p (G N)) := by
  have key : ∀ (R : Type) (K : Ex → ASt → Option R) r k x, G k R x K = some r → ∃ e st', K e st' = some r ∧ ∀ F ρ hp a0 W0 a W, Leads n g F ρ hp a0 W0 (encS p x) a W → LoopWp P c (Goal n g F ρ hp a0 W0 e st') a W := by
    intro R K r k
    induction k with
    | zero => intro x hG; rw [h0] at hG; cases hG
    | succ k ih =>
      intro x hG
      rw [← h] at hG
      obtain ⟨e, st1, h1, h2⟩ := aexec_ok hm htt hΓ hdom c hd hc R _ _ r hG
      cases e with
      | normal =>
        simp only [loopV] at h1
        split at h1
        · rename_i y hy
          obtain ⟨e, st', k1, k2⟩ := ih y h1
          refine ⟨e, st', k1, fun F ρ hp a0 W0 a W hl => LoopWp.round (wp_mono (h2 F ρ hp a0 W0 a W hl) ?_)⟩
          rintro x' a' W' ⟨rfl, hl'⟩
          · exact k2 F ρ hp a0 W0 a' W' (Leads.trans hl' fun F1 ρ1 hs => dec_ok hy hs)
        · obtain ⟨e, st', k1, k2⟩ := hB R st1 K r h1
          refine ⟨e, st', k1, fun F ρ hp a0 W0 a W hl => LoopWp.round (wp_mono (h2 F ρ hp a0 W0 a W hl) ?_)⟩
          rintro x' a' W' ⟨rfl, hl'⟩
          · exact k2 F ρ hp a0 W0 a' W' hl'
      | exit id =>
        simp only [loopV] at h1
        obtain ⟨q, y, h3, h4⟩ := outE_ok h1
        refine ⟨.exit id, encS q y, h4, fun F ρ hp a0 W0 a W hl => LoopWp.round (wp_mono ((h2.out h3) F ρ hp a0 W0 a W hl) ?_)⟩
        rintro x' a' W' ⟨rfl, hl'⟩
        · exact ⟨rfl, hl'⟩
      | ret =>
        simp only [loopV] at h1
        obtain ⟨q, y, h3, h4⟩ := outE_ok h1
        refine ⟨.ret, encS q y, h4, fun F ρ hp a0 W0 a W hl => LoopWp.round (wp_mono ((h2.out h3) F ρ hp a0 W0 a W hl) ?_)⟩
        rintro x' a' W' ⟨rfl, hl'⟩
        · exact ⟨rfl, hl'⟩
  intro R st K r hF
  unfold fragOf at hF
  split at hF
  case h_2 => cases hF
  rename_i x hx
  obtain ⟨e, st', h1, h2⟩ := key R K r N x hF
  exact ⟨e, st', h1, fun F ρ hp a0 W0 a W hl => h2 F ρ hp a0 W0 a W (Leads.trans hl fun F1 ρ1 hs => dec_ok hx hs)⟩
end

end
end Go.AX
/- AX, part 40: a function without arguments that returns true and leaves all as it was. -/
namespace Go.AX
noncomputable section

def trueSpec : Spec where
  pure := []
  grow := []
  mat := false
  run _ args bl K := match args with
    | [] => K (.v (.one (.a (.val .bool true)))) bl []
    | _ => none

theorem true_ok {P : Program} {f : FuncId} (h : ∀ W : World, Calls P f #[] W fun e W' => e = .returned (.bool true) ∧ W'.os = W.os ∧ W'.tape = W.tape ∧ W'.output = W.output ∧ W.heap.size ≤ W'.heap.size ∧ ∀ b, b < W.heap.size → W'.heap[b]? = W.heap[b]?) : SpecOK P f trueSpec := by
  intro R args bl K r hrun
  simp only [trueSpec] at hrun
  split at hrun
  case h_2 => cases hrun
  refine ⟨_, bl, [], hrun, fun F ρ W rargs hargs hh => ?_⟩
  have hr : rargs = #[] := by apply Array.ext'; exact hargs.nil_left
  subst hr
  refine (h W).mono ?_
  rintro e w' ⟨rfl, h1, h2, h3, h4, h5⟩
  refine ⟨_, F, ρ, rfl, rfl, ⟨fun id b hb => ?_, hh.inj, fun b o hb => ?_, hh.apart⟩, ⟨h1, h2, h3, h4, fun b hb _ => h5 b hb, fun _ h => .inl h, fun _ _ h => h, fun _ h => .inl h, fun _ _ b hb => ⟨b, hb, Evo.refl _ _ _⟩⟩⟩
  · have hB := hh.blocks id b hb
    refine BR.mono (fun _ _ h => h) (fun id b hb => ⟨b, hb, Keep.refl _ _⟩) rfl (fun k hk => h5 k (hB.lt hk)) hB
  · rw [h5 b (hh.flt (by rw [hb]; simp))]
    exact hh.fz b o hb

end
end Go.AX
/- Short words of the typed functions. -/
namespace Go.AX
@[reducible] def wi (x : Int) : Int := IntKind.i64.wrap x
@[reducible] def len {α : Type} (l : List α) : Int := ((List.length l : Nat) : Int)
end Go.AX
/- Plain words about numbers and lists, used by all laws. -/
namespace Go.AX

theorem w64 {x : Int} (h : -9223372036854775808 ≤ x ∧ x ≤ 9223372036854775807) : IntKind.i64.wrap x = x := IntWalk.i64_in x h
theorem w8 {x : Int} (h : 0 ≤ x ∧ x < 256) : IntKind.u8.wrap x = x := by
  simp only [IntKind.wrap, IntKind.bits, IntKind.signed]
  simp
  omega

theorem ofInt64_nat (n : Nat) : BitVec.ofInt 64 (n : Int) = BitVec.ofNat 64 n := by
  exact BitVec.ofInt_natCast 64 n

/-- (v << 8) | c -/
theorem orShl8 {v c : Int} (hv : 0 ≤ v ∧ v < 36028797018963968) (hc : 0 ≤ c ∧ c < 256) : orI .i64 (shlI .i64 v 8) c = v * 256 + c := by
  obtain ⟨n, rfl⟩ := Int.eq_ofNat_of_zero_le hv.1
  obtain ⟨m, rfl⟩ := Int.eq_ofNat_of_zero_le hc.1
  have e1 : shlI .i64 (n : Int) 8 = ((n * 256 : Nat) : Int) := by
    unfold shlI
    have : min (Int.toNat 8) IntKind.i64.bits = 8 := by decide
    rw [this, w64 (by omega)]; omega
  rw [e1]
  unfold orI
  have e2 : IntKind.i64.bits = 64 := rfl
  rw [e2, ofInt64_nat, ofInt64_nat]
  rw [BitVec.toNat_or, BitVec.toNat_ofNat, BitVec.toNat_ofNat, Nat.mod_eq_of_lt (by omega), Nat.mod_eq_of_lt (by omega)]
  have e3 : n * 256 ||| m = n * 256 + m := by
    have := Nat.shiftLeft_add_eq_or_of_lt (b := m) (i := 8) (by omega) n
    rw [Nat.shiftLeft_eq] at this
    exact this.symm
  rw [e3, w64 (by omega)]; omega

theorem and31 : ∀ x : Fin 256, andI .u8 (x.val : Int) 31 = (x.val : Int) % 32 := by decide +kernel
theorem shr5 : ∀ x : Fin 256, shrI .u8 (x.val : Int) 5 = (x.val : Int) / 32 := by decide +kernel
theorem andI31 {x : Int} (h : 0 ≤ x ∧ x < 256) : andI .u8 x 31 = x % 32 := by
  obtain ⟨n, rfl⟩ := Int.eq_ofNat_of_zero_le h.1
  exact and31 ⟨n, by omega⟩
theorem shrI5 {x : Int} (h : 0 ≤ x ∧ x < 256) : shrI .u8 x 5 = x / 32 := by
  obtain ⟨n, rfl⟩ := Int.eq_ofNat_of_zero_le h.1
  exact shr5 ⟨n, by omega⟩

theorem getD_mem {α : Type} {l : List α} {i : Nat} {d : α} (h : i < l.length) : l.getD i d ∈ l := by
  rw [List.getD_eq_getElem?_getD, List.getElem?_eq_getElem h]; simp

/-- a list of bytes -/
def Bytes (l : List Int) : Prop := ∀ x, x ∈ l → 0 ≤ x ∧ x < 256

theorem Bytes.get {l : List Int} (h : Bytes l) {i : Nat} (hi : i < l.length) : 0 ≤ l.getD i 0 ∧ l.getD i 0 < 256 := h _ (getD_mem hi)
theorem Bytes.take {l : List Int} (h : Bytes l) (n : Nat) : Bytes (l.take n) := fun x hx => h x (List.mem_of_mem_take hx)
theorem Bytes.drop {l : List Int} (h : Bytes l) (n : Nat) : Bytes (l.drop n) := fun x hx => h x (List.mem_of_mem_drop hx)

theorem wf_bytes {l : List Int} (h : Wf (.list (.int .u8)) l) : Bytes l := by
  intro x hx
  obtain ⟨i, hi, rfl⟩ := List.getElem_of_mem hx
  have h1 := h.2 i hi
  simp only [Wf] at h1
  have : List.getD l i (Ty.int IntKind.u8).dflt = l[i] := by rw [List.getD_eq_getElem?_getD, List.getElem?_eq_getElem hi]; rfl
  rw [this] at h1
  simp [Lit.wf, IntKind.min, IntKind.max, IntKind.signed, IntKind.bits] at h1
  omega

theorem wf_i64 {n : Int} (h : Wf (.int .i64) n) : -9223372036854775808 ≤ n ∧ n ≤ 9223372036854775807 := by
  simp [Wf, Lit.wf, IntKind.min, IntKind.max, IntKind.signed, IntKind.bits] at h
  omega

/-- bytes as a number, the highest first -/
def uns (v : Int) (l : List Int) : Int := l.foldl (fun v x => v * 256 + x) v

def seg (b : List Int) (at_ n : Nat) : List Int := (b.drop at_).take n

theorem seg_succ {b : List Int} {a n : Nat} (h : a < b.length) : seg b a (n + 1) = b.getD a 0 :: seg b (a + 1) n := by
  unfold seg
  rw [List.drop_eq_getElem_cons h, List.take_succ_cons, List.getD_eq_getElem?_getD, List.getElem?_eq_getElem h]; rfl

end Go.AX

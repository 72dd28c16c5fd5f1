/- A reading of the model's code over typed data, proved sound: part 5. -/
import Derived.Test.YtafidhpdoepljaaGreatX4
/- AX, part 28: a state, told anew by a pattern. -/
namespace Go.AX
noncomputable section

def impOk (p : SPat) (hp : Heap) : Bool := (List.range 32).all fun id => match hp id with | none => true | some _ => memN id (p.hp.map (·.1))

/-- an array's cells, told as a row -/
def convX (E : TypeId) (t : Ty) (T : TypeId) (cs : List Cell) : Option (List t.den) := match Nat.beq T E && Nat.ble 2 (cs.length / t.size) with
  | true => toTys t (cs.length / t.size) cs
  | false => none
def convB (E : TypeId) (t : Ty) : ABlock → ABlock
  | .cells T cs => match convX E t T cs with
    | some xs => .row T t 0 false xs
    | none => .cells T cs
  | b => b
def convHp (E : TypeId) (t : Ty) (hp : Heap) : Heap := fun id => match Nat.ble 32 id with
  | true => (match hp id with | some b => some (convB E t b) | none => none)
  | false => hp id
/-- names from 1000 on: arrays that are told as rows -/
def convs : List (Nat × BPat) → ASt → ASt
  | [], st => st
  | (id, .row E t) :: r, st => match Nat.ble 1000 id with
    | true => convs r ⟨st.env, convHp E t st.hp⟩
    | false => convs r st
  | _ :: r, st => convs r st

/-- a state by a pattern: the data, if the pattern fits -/
def dec0 (p : SPat) (st : ASt) : Option p.den := match decS p st with
  | some x => match impOk p st.hp with
    | true => some x
    | false => none
  | none => none

def dec (p : SPat) (st : ASt) : Option p.den := dec0 p (convs p.hp st)

theorem optBeq_iff : ∀ {a b : Option Nat}, optBeq a b = true ↔ a = b
  | none, none => by simp [optBeq]
  | some a, some b => by simp [optBeq]
  | none, some _ => by simp [optBeq]
  | some _, none => by simp [optBeq]

structure Le (a b : DSt) : Prop where
  src : ∀ id o, srcGet a.src id = some o → srcGet b.src id = some o
  fz : ∀ z, z ∈ a.fz → z ∈ b.fz

theorem Le.refl (a : DSt) : Le a a := ⟨fun _ _ h => h, fun _ h => h⟩
theorem Le.trans {a b c : DSt} (h : Le a b) (k : Le b c) : Le a c := ⟨fun id o x => k.src id o (h.src id o x), fun z x => k.fz z (h.fz z x)⟩

structure DecOK (hp : Heap) (σ : DSt) : Prop where
  inj : ∀ i j o, srcGet σ.src i = some (some o) → srcGet σ.src j = some (some o) → i = j
  low : ∀ i o, i < 32 → srcGet σ.src i = some o → o = some i
  rows : RowsIn hp σ.fz

theorem srcGet_cons {k id : Nat} {o : Option Nat} {r : Src} : srcGet ((k, o) :: r) id = if id = k then some o else srcGet r id := by
  simp only [srcGet]
  by_cases e : id = k
  · subst e; simp
  · rw [beq_ne e]; simp [e]

theorem srcGet_mem : ∀ {s : Src} {id : Nat} {o : Option Nat}, srcGet s id = some o → (id, o) ∈ s
  | [], _, _, h => by cases h
  | (k, o') :: r, id, o, h => by
    rw [srcGet_cons] at h
    split at h
    · rename_i e; cases h; subst e; exact List.mem_cons_self ..
    · exact List.mem_cons_of_mem _ (srcGet_mem h)

theorem srcPut_ok {hp : Heap} {σ : DSt} {id : Nat} {o : Option Nat} {s : Src} (h : srcPut σ.src id o = some s) (hs : DecOK hp σ) : DecOK hp ⟨s, σ.fz⟩ ∧ Le σ ⟨s, σ.fz⟩ ∧ srcGet s id = some o := by
  unfold srcPut at h
  split at h
  · rename_i o' ho
    split at h
    · rename_i e
      cases h
      rw [optBeq_iff] at e
      exact ⟨⟨hs.inj, hs.low, hs.rows⟩, ⟨fun _ _ h => h, fun _ h => h⟩, by rw [ho, e]⟩
    · cases h
  · rename_i hn
    have le : ∀ o, Le σ ⟨(id, o) :: σ.src, σ.fz⟩ := fun o => ⟨fun i o' hx => by
      rw [srcGet_cons]
      split
      · rename_i e; subst e; rw [hn] at hx; cases hx
      · exact hx, fun _ h => h⟩
    split at h
    · split at h
      · rename_i hge
        have hge := Nat.le_of_ble_eq_true hge
        cases h
        refine ⟨⟨fun i j o h1 h2 => ?_, fun i o hi h1 => ?_, hs.rows⟩, le _, by rw [srcGet_cons]; simp⟩
        · simp only [srcGet_cons] at h1 h2
          split at h1
          · cases h1
          · split at h2
            · cases h2
            · exact hs.inj i j o h1 h2
        · simp only [srcGet_cons] at h1
          split at h1
          · rename_i e; omega
          · exact hs.low i o hi h1
      · cases h
    · rename_i old
      split at h
      · cases h
      · rename_i hc
        cases h
        simp only [Bool.or_eq_false_iff] at hc
        obtain ⟨⟨hc1, hc2⟩, hc3⟩ := hc
        have no : ∀ i, srcGet σ.src i ≠ some (some old) := by
          intro i hi
          have := List.any_eq_false.1 hc1 _ (srcGet_mem hi)
          rw [optBeq_iff] at this
          exact this rfl
        refine ⟨⟨fun i j o h1 h2 => ?_, fun i o hi h1 => ?_, hs.rows⟩, le _, by rw [srcGet_cons]; simp⟩
        · simp only [srcGet_cons] at h1 h2
          split at h1
          · rename_i e1
            cases h1
            split at h2
            · rename_i e2; rw [e1, e2]
            · exact absurd h2 (no j)
          · split at h2
            · cases h2; exact absurd h1 (no i)
            · exact hs.inj i j o h1 h2
        · simp only [srcGet_cons] at h1
          split at h1
          · rename_i e
            cases h1
            subst e
            have : Nat.ble 32 i = false := by
              cases e : Nat.ble 32 i with
              | false => rfl
              | true => have := Nat.le_of_ble_eq_true e; omega
            rw [this] at hc2
            simp only [Bool.not_false, Bool.true_and, Bool.not_eq_false'] at hc2
            rw [beq_eq hc2]
          · exact hs.low i o hi h1

theorem decC_le {hp : Heap} {p : CPat} {c : Cell} {σ σ' : DSt} {v : p.den} (h : decC hp p c σ = some (v, σ')) (hs : DecOK hp σ) : DecOK hp σ' ∧ Le σ σ' := by
  unfold decC at h
  split at h
  · split at h
    · rename_i hf
      split at h
      · cases h
        refine ⟨⟨hs.inj, hs.low, fun z hz => ?_⟩, fun _ _ h => h, fun z hz => by simp [hz]⟩
        simp only [List.mem_append] at hz
        rcases hz with hz | hz
        · exact frz_rows_atom hf z hz
        · exact hs.rows z hz
      · cases h
    · cases h
  · split at h
    · rename_i hp'; cases h; obtain ⟨a, b, _⟩ := srcPut_ok hp' hs; exact ⟨a, b⟩
    · cases h
  · split at h
    · rename_i hp'; cases h; obtain ⟨a, b, _⟩ := srcPut_ok hp' hs; exact ⟨a, b⟩
    · cases h
  · split at h
    · split at h
      · rename_i hp'; cases h; obtain ⟨a, b, _⟩ := srcPut_ok hp' hs; exact ⟨a, b⟩
      · cases h
    · cases h
  · split at h
    · rename_i hp' _
      split at h
      · cases h; obtain ⟨a, b, _⟩ := srcPut_ok hp' hs; exact ⟨a, b⟩
      · cases h
    · cases h
  · split at h
    · rename_i hp'; cases h; obtain ⟨a, b, _⟩ := srcPut_ok hp' hs; exact ⟨a, b⟩
    · cases h
  all_goals first
    | (cases h; exact ⟨hs, Le.refl _⟩)
    | (
      split at h
      · cases h; exact ⟨hs, Le.refl _⟩
      · cases h)
    | cases h

theorem decCs_le {hp : Heap} : ∀ {ps : List CPat} {cs : List Cell} {σ σ' : DSt} {v : denCs ps}, decCs hp ps cs σ = some (v, σ') → DecOK hp σ → DecOK hp σ' ∧ Le σ σ'
  | [], [], σ, σ', v, h, hs => by cases h; exact ⟨hs, Le.refl _⟩
  | [], _ :: _, _, _, _, h, _ => by cases h
  | _ :: _, [], _, _, _, h, _ => by cases h
  | p :: r, c :: cs, σ, σ', v, h, hs => by
    simp only [decCs] at h
    split at h
    · rename_i h1
      split at h
      · rename_i h2
        cases h
        obtain ⟨a, b⟩ := decC_le h1 hs
        obtain ⟨c, d⟩ := decCs_le h2 a
        exact ⟨c, b.trans d⟩
      · cases h
    · cases h

theorem decV_le {hp : Heap} {p : VPat} {x : AV} {σ σ' : DSt} {v : p.den} (h : decV hp p x σ = some (v, σ')) (hs : DecOK hp σ) : DecOK hp σ' ∧ Le σ σ' := by
  unfold decV at h
  split at h
  · exact decC_le h hs
  · exact decCs_le h hs
  · cases h

theorem decB_le {hp : Heap} {id : Nat} {p : BPat} {σ σ' : DSt} {v : p.den} (h : decB hp id p σ = some (v, σ')) (hs : DecOK hp σ) : DecOK hp σ' ∧ Le σ σ' := by
  unfold decB at h
  split at h
  · split at h
    · split at h
      · split at h
        · exact decCs_le h hs
        · cases h
      · cases h
    · cases h
  · split at h
    · cases h; exact ⟨hs, Le.refl _⟩
    · split at h
      · split at h
        · split at h
          · cases h; exact ⟨hs, Le.refl _⟩
          · cases h
        · cases h
      · cases h
    · cases h
  · split at h
    · split at h
      · split at h
        · split at h
          · split at h
            · cases h; exact ⟨hs, Le.refl _⟩
            · cases h
          · cases h
        · cases h
      · cases h
    · cases h

theorem decEnv_le {env : Env} {hp : Heap} : ∀ {ps : List (Nat × VPat)} {σ σ' : DSt} {x : denEnv ps}, decEnv env hp ps σ = some (x, σ') → DecOK hp σ → DecOK hp σ' ∧ Le σ σ' ∧
    ∀ s, encEnv ps x s = .at .undef ∨ ∃ p v σa σb, decV hp p (env s) σa = some (v, σb) ∧ DecOK hp σa ∧ Le σb σ' ∧ encEnv ps x s = encV p v
  | [], σ, σ', x, h, hs => by cases h; exact ⟨hs, Le.refl _, fun s => .inl rfl⟩
  | (t, p) :: r, σ, σ', x, h, hs => by
    simp only [decEnv] at h
    split at h
    · rename_i v σ1 h1
      split at h
      · rename_i w σ2 h2
        cases h
        obtain ⟨a, b⟩ := decV_le h1 hs
        obtain ⟨c, d, e⟩ := decEnv_le h2 a
        refine ⟨c, b.trans d, fun s => ?_⟩
        simp only [encEnv]
        by_cases hst : s = t
        · subst hst
          rw [beq_same]
          exact .inr ⟨p, v, σ, σ1, h1, hs, d, rfl⟩
        · rw [beq_ne hst]
          rcases e s with e | ⟨p', v', σa, σb, e1, e2, e3, e4⟩
          · exact .inl e
          · exact .inr ⟨p', v', σa, σb, e1, e2, e3, e4⟩
      · cases h
    · cases h

theorem decHp_le {hp : Heap} : ∀ {ps : List (Nat × BPat)} {σ σ' : DSt} {x : denHp ps}, decHp hp ps σ = some (x, σ') → DecOK hp σ → DecOK hp σ' ∧ Le σ σ' ∧
    (∀ id b, encHp ps x id = some b → ∃ p v σa σb, decB hp id p σa = some (v, σb) ∧ DecOK hp σa ∧ Le σb σ' ∧ b = encB p v) ∧ ∀ id, id ∈ ps.map (·.1) → ∃ b, encHp ps x id = some b
  | [], σ, σ', x, h, hs => by cases h; exact ⟨hs, Le.refl _, (fun id b hb => by cases hb), (fun id h => by simp at h)⟩
  | (t, p) :: r, σ, σ', x, h, hs => by
    simp only [decHp] at h
    split at h
    · rename_i v σ1 h1
      split at h
      · rename_i w σ2 h2
        cases h
        obtain ⟨a, b⟩ := decB_le h1 hs
        obtain ⟨c, d, e, f⟩ := decHp_le h2 a
        refine ⟨c, b.trans d, fun id bl hbl => ?_, fun id hid => ?_⟩
        · simp only [encHp] at hbl
          by_cases hst : id = t
          · subst hst
            rw [beq_same] at hbl
            cases hbl
            exact ⟨p, v, σ, σ1, h1, hs, d, rfl⟩
          · rw [beq_ne hst] at hbl
            exact e id bl hbl
        · simp only [encHp]
          by_cases hst : id = t
          · subst hst; rw [beq_same]; exact ⟨_, rfl⟩
          · rw [beq_ne hst]
            simp only [List.map_cons, List.mem_cons, hst, false_or] at hid
            exact f id hid
      · cases h
    · cases h

theorem encCs_length : ∀ {ps : List CPat} {v : denCs ps}, (encCs ps v).length = ps.length
  | [], _ => rfl
  | _ :: r, v => by simp [encCs, encCs_length (ps := r)]

theorem decCs_length {hp : Heap} : ∀ {ps : List CPat} {cs : List Cell} {σ σ' : DSt} {v : denCs ps}, decCs hp ps cs σ = some (v, σ') → cs.length = ps.length
  | [], [], _, _, _, _ => rfl
  | [], _ :: _, _, _, _, h => by cases h
  | _ :: _, [], _, _, _, h => by cases h
  | p :: r, c :: cs, σ, σ', v, h => by
    simp only [decCs] at h
    split at h
    · split at h
      · rename_i h2; simp [decCs_length h2]
      · cases h
    · cases h

/-- what a name of the pattern stands for -/
def Named (hp hp' : Heap) (S : Src) : Prop := (∀ id, srcGet S id = some none → ∃ E t, hp' id = some (.row E t 0 false [])) ∧
  ∀ id old, srcGet S id = some (some old) → ∃ b b', hp old = some b ∧ hp' id = some b' ∧ match b, b' with
    | .cells T cs, .cells T' cs' => T = T' ∧ cs.length = cs'.length
    | .row E t _ fz xs, b' => fz = false ∧ b' = .row E t 0 false xs
    | .amap T kt et m, b' => b' = .amap T kt et m
    | _, _ => False

theorem named_of {hp hp' : Heap} {σ : DSt} (hb : ∀ id b, hp' id = some b → ∃ p v σa σb, decB hp id p σa = some (v, σb) ∧ DecOK hp σa ∧ Le σb σ ∧ b = encB p v)
    (hn : ∀ id o, srcGet σ.src id = some o → ∃ b, hp' id = some b) : Named hp hp' σ.src ∧ ∀ id b, hp' id = some b → ∃ o, srcGet σ.src id = some o ∧ ((o = none ∧ ∃ E t, b = .row E t 0 false []) ∨ ∃ old, o = some old) := by
  have key : ∀ id b, hp' id = some b → (srcGet σ.src id = some none ∧ ∃ E t, b = .row E t 0 false []) ∨ ∃ old b0, srcGet σ.src id = some (some old) ∧ hp old = some b0 ∧ match b0, b with
    | .cells T cs, .cells T' cs' => T = T' ∧ cs.length = cs'.length
    | .row E t _ fz xs, b' => fz = false ∧ b' = .row E t 0 false xs
    | .amap T kt et m, b' => b' = .amap T kt et m
    | _, _ => False := by
    intro id b h
    obtain ⟨p, v, σa, σb, h1, hsa, h3, rfl⟩ := hb id b h
    have hle := (decB_le h1 hsa).2.trans h3
    unfold decB at h1
    split at h1
    · split at h1
      · rename_i old hg
        split at h1
        · rename_i T' xs ho
          split at h1
          · rename_i e
            have e := beq_eq e; subst e
            refine .inr ⟨old, _, hle.src _ _ hg, ho, ?_⟩
            simp only [encB]
            exact ⟨trivial, by rw [encCs_length, decCs_length h1]⟩
          · cases h1
        · cases h1
      · cases h1
    · split at h1
      · rename_i hg
        cases h1
        exact .inl ⟨hle.src _ _ hg, _, _, rfl⟩
      · rename_i old hg
        split at h1
        · rename_i E' t' ver xs ho
          split at h1
          · rename_i e _
            split at h1
            · rename_i et
              have e := beq_eq e; subst e
              subst et
              cases h1
              refine .inr ⟨old, _, hle.src _ _ hg, ho, ?_⟩
              exact ⟨rfl, rfl⟩
            · cases h1
          · cases h1
        · cases h1
      · cases h1
    · split at h1
      · rename_i old hg
        split at h1
        · rename_i T' kt' et' m ho
          split at h1
          · rename_i e
            split at h1
            · rename_i ek
              split at h1
              · rename_i ee
                have e := beq_eq e; subst e
                subst ek; subst ee
                cases h1
                exact .inr ⟨old, _, hle.src _ _ hg, ho, rfl⟩
              · cases h1
            · cases h1
          · cases h1
        · cases h1
      · cases h1
  refine ⟨⟨fun id hid => ?_, fun id old hid => ?_⟩, fun id b h => ?_⟩
  · obtain ⟨b, h⟩ := hn id _ hid
    rcases key id b h with ⟨_, E, t, rfl⟩ | ⟨old, b0, h1, _⟩
    · exact ⟨E, t, h⟩
    · rw [hid] at h1; cases h1
  · obtain ⟨b, h⟩ := hn id _ hid
    rcases key id b h with ⟨h1, _⟩ | ⟨old', b0, h1, h2, h3⟩
    · rw [hid] at h1; cases h1
    · rw [hid] at h1; cases h1
      exact ⟨b0, b, h2, h, h3⟩
  · rcases key id b h with ⟨h1, h2⟩ | ⟨old, b0, h1, _⟩
    · exact ⟨_, h1, .inl ⟨rfl, h2⟩⟩
    · exact ⟨_, h1, .inr ⟨old, rfl⟩⟩

end
end Go.AX
/- AX, part 29: a state told anew holds of what it held of. -/
namespace Go.AX
noncomputable section

section
variable {F F' : Fz} {ρ ρ' : Rho} {hp hp' : Heap} {W : World} {S : DSt}

theorem decC_ok (hh : HeapOK F ρ hp W) (hF : ∀ b o, F b = some o → F' b = some o) (hl : ∀ id, id ∈ S.fz → ∀ k, k ∈ (ρ id).bs → F' k = W.heap[k]?)
    (hN : Named hp hp' S.src) (hρn : ∀ id, srcGet S.src id = some none → ρ' id = ⟨[], 0⟩) (hρs : ∀ id old, srcGet S.src id = some (some old) → ρ' id = ρ old)
    {p : CPat} {c : Cell} {σ σ' : DSt} {v : p.den} {r : Value} (h : decC hp p c σ = some (v, σ')) (hs : DecOK hp σ) (hle : Le σ' S) (hr : RCell F ρ hp c r) : RCell F' ρ' hp' (encC p v) r := by
  unfold decC at h
  split at h
  · split at h
    · rename_i x y l hf
      split at h
      · rename_i w hg
        cases h
        have := Atom.frz_ok hh (fun _ _ h => h) hf hr F' hF (fun id hid => hl id (hle.fz id (by simp [hid])))
        exact Atom.get_ok hg this
      · cases h
    · cases h
  · split at h
    · rename_i hp'
      cases h
      obtain ⟨_, _, hg⟩ := srcPut_ok hp' hs
      have hg := hle.src _ _ hg
      obtain ⟨E, t, hb⟩ := hN.1 _ hg
      simp only [RCell, RA] at hr
      simp only [encC, RCell, RA]
      refine ⟨_, hb, Nat.le_refl _, none, 0, 0, hr, fun _ => ?_⟩
      simp [hρn _ hg]
    · cases h
  · split at h
    · rename_i hp'
      cases h
      obtain ⟨_, _, hg⟩ := srcPut_ok hp' hs
      have hg := hle.src _ _ hg
      obtain ⟨E, t, hb⟩ := hN.1 _ hg
      simp only [RCell, RA] at hr
      obtain ⟨A, hr⟩ := hr
      simp only [encC, RCell, RA]
      refine ⟨_, hb, Nat.le_refl _, A, 0, 0, hr, fun _ => ?_⟩
      simp [hρn _ hg]
    · cases h
  · split at h
    · rename_i b hb
      split at h
      · rename_i hv hp'
        cases h
        have hv := beq_eq hv
        subst hv
        obtain ⟨_, _, hg⟩ := srcPut_ok hp' hs
        have hg := hle.src _ _ hg
        obtain ⟨b0, b', h1, h2, h3⟩ := hN.2 _ _ hg
        rw [hb] at h1; cases h1
        simp only [RCell, RA] at hr
        obtain ⟨b1, e1, _, A, l, c, rfl, hc⟩ := hr
        rw [hb] at e1; cases e1
        replace hc := hc rfl
        cases b <;> simp only at hc
        simp only at h3
        obtain ⟨rfl, rfl⟩ := h3
        simp only [encC, RCell, RA]
        refine ⟨_, h2, Nat.le_refl _, A, l, c, rfl, fun _ => ?_⟩
        simp only [hρs _ _ hg]
        exact hc
      · cases h
    · cases h
  · split at h
    · rename_i hv hi hf hp' hb
      split at h
      · rename_i hbv
        cases h
        have hv := beq_eq hv; have hi := beq_eq hi; have hf := beq_eq hf; have hbv := beq_eq hbv
        subst hv; subst hi; subst hf
        obtain ⟨_, _, hg⟩ := srcPut_ok hp' hs
        have hg := hle.src _ _ hg
        obtain ⟨b0, b', h1, h2, h3⟩ := hN.2 _ _ hg
        rw [hb] at h1; cases h1
        simp only [RCell, RA] at hr
        obtain ⟨b1, e1, _, ad, rfl, hc⟩ := hr
        rw [hb] at e1; cases e1
        replace hc := hc hbv
        simp only [encC, RCell, RA]
        rename_i bq _ hbq _ _ _ _
        clear hb hbv hbq
        cases bq <;> simp only at hc
        · cases b' <;> simp only at h3
          refine ⟨_, h2, Nat.le_refl _, ad, rfl, fun _ => ?_⟩
          simp only [hρs _ _ hg]
          exact hc
        · simp only at h3
          obtain ⟨rfl, rfl⟩ := h3
          refine ⟨_, h2, Nat.le_refl _, ad, rfl, fun _ => ?_⟩
          simp only [hρs _ _ hg]
          exact hc
      · cases h
    · cases h
  · split at h
    · rename_i hp'
      cases h
      obtain ⟨_, _, hg⟩ := srcPut_ok hp' hs
      have hg := hle.src _ _ hg
      obtain ⟨b0, b', h1, h2, h3⟩ := hN.2 _ _ hg
      simp only [RCell, RA] at hr
      obtain ⟨T, kt, et, m, bb, e1, e2, rfl⟩ := hr
      rw [e1] at h1; cases h1
      simp only at h3
      subst h3
      exact ⟨T, kt, et, m, bb, h2, by rw [hρs _ _ hg]; exact e2, rfl⟩
    · cases h
  all_goals first
    | (cases h; exact hr)
    | (
      split at h
      · rename_i e
        cases h
        have e := beq_eq e
        subst e
        obtain ⟨cs, rfl, h2⟩ := hr
        have := h2.nil_left
        exact ⟨cs, rfl, by rw [this]; trivial⟩
      · cases h)
    | (cases h; exact trivial)
    | cases h

theorem decCs_ok (hh : HeapOK F ρ hp W) (hF : ∀ b o, F b = some o → F' b = some o) (hl : ∀ id, id ∈ S.fz → ∀ k, k ∈ (ρ id).bs → F' k = W.heap[k]?)
    (hN : Named hp hp' S.src) (hρn : ∀ id, srcGet S.src id = some none → ρ' id = ⟨[], 0⟩) (hρs : ∀ id old, srcGet S.src id = some (some old) → ρ' id = ρ old) :
    ∀ {ps : List CPat} {cs : List Cell} {σ σ' : DSt} {v : denCs ps} {rs : List Value}, decCs hp ps cs σ = some (v, σ') → DecOK hp σ → Le σ' S → All2 (RCell F ρ hp) cs rs → All2 (RCell F' ρ' hp') (encCs ps v) rs
  | [], [], _, _, _, rs, _, _, _, hr => by have := hr.nil_left; subst this; trivial
  | [], _ :: _, _, _, _, _, h, _, _, _ => by cases h
  | _ :: _, [], _, _, _, _, h, _, _, _ => by cases h
  | p :: r, c :: cs, σ, σ', v, rs, h, hs, hle, hr => by
    simp only [decCs] at h
    split at h
    · rename_i h1
      split at h
      · rename_i h2
        cases h
        obtain ⟨b, rs', rfl, hr1, hr2⟩ := hr.cons_left
        obtain ⟨a, _⟩ := decC_le h1 hs
        obtain ⟨_, d⟩ := decCs_le h2 a
        exact ⟨decC_ok hh hF hl hN hρn hρs h1 hs (d.trans hle) hr1, decCs_ok hh hF hl hN hρn hρs h2 a hle hr2⟩
      · cases h
    · cases h

theorem decV_ok (hh : HeapOK F ρ hp W) (hF : ∀ b o, F b = some o → F' b = some o) (hl : ∀ id, id ∈ S.fz → ∀ k, k ∈ (ρ id).bs → F' k = W.heap[k]?)
    (hN : Named hp hp' S.src) (hρn : ∀ id, srcGet S.src id = some none → ρ' id = ⟨[], 0⟩) (hρs : ∀ id old, srcGet S.src id = some (some old) → ρ' id = ρ old)
    {p : VPat} {x : AV} {σ σ' : DSt} {v : p.den} {r : Value} (h : decV hp p x σ = some (v, σ')) (hs : DecOK hp σ) (hle : Le σ' S) (hr : RV F ρ hp x r) : RV F' ρ' hp' (encV p v) r := by
  unfold decV at h
  split at h
  · exact decC_ok hh hF hl hN hρn hρs h hs hle hr
  · obtain ⟨rs, rfl, h2⟩ := hr
    exact ⟨rs, rfl, decCs_ok hh hF hl hN hρn hρs h hs hle h2⟩
  · cases h
end

theorem dec0_ok {n : Nat} {g : List Bool} {p : SPat} {st : ASt} {x : p.den} (h : dec0 p st = some x) {F : Fz} {ρ : Rho} {a : Act} {W : World} (hi : SInv n F ρ st a W) :
    Leads n g F ρ st.hp a W (encS p x) a W := by
  unfold dec0 at h
  split at h
  case h_2 => cases h
  rename_i x' hdec
  split at h
  case h_2 => cases h
  rename_i himp
  cases h
  unfold decS at hdec
  split at hdec
  case h_2 => cases hdec
  rename_i xe σ1 h1
  split at hdec
  case h_2 => cases hdec
  rename_i xh σ2 h2
  split at hdec
  case h_2 => cases hdec
  rename_i hn
  cases hdec
  have himps : ∀ (l : List (Nat × BPat)) i o, srcGet (imports l) i = some o → o = some i := by
    intro l
    induction l with
    | nil => intro i o h; cases h
    | cons q r ih =>
      obtain ⟨id, b⟩ := q
      intro i o h
      simp only [imports] at h
      split at h
      · exact ih i o h
      · rw [srcGet_cons] at h
        split at h
        · rename_i e; cases h; rw [e]
        · exact ih i o h
  have s0 : DecOK st.hp ⟨imports p.hp, []⟩ := ⟨fun i j o h k => (by have a := himps _ _ _ h; have b := himps _ _ _ k; cases a; cases b; rfl), fun i o _ h => himps _ _ _ h, fun z hz => (by simp at hz)⟩
  obtain ⟨d1, l1, e1⟩ := decEnv_le h1 s0
  obtain ⟨d2, l2, e2, e3⟩ := decHp_le h2 d1
  simp only [namesOk, Bool.and_eq_true, List.all_eq_true] at hn
  obtain ⟨⟨n1, n2⟩, n3⟩ := hn
  have hh := hi.heap
  let hp' : Heap := encHp p.hp xh
  have nm : ∀ id o, srcGet σ2.src id = some o → ∃ b, hp' id = some b := fun id o h => e3 id (memN_iff.1 (n1 _ (srcGet_mem h)))
  obtain ⟨hN, hN'⟩ := named_of e2 nm
  have notfz : ∀ id old, srcGet σ2.src id = some (some old) → old ∉ σ2.fz := by
    intro id old h hm
    have := n2 _ (srcGet_mem h)
    simp only [memN_iff.2 hm, Bool.not_true, Bool.false_eq_true] at this
  let ρ' : Rho := fun id => match srcGet σ2.src id with | some (some old) => ρ old | _ => ⟨[], 0⟩
  have hρs : ∀ id old, srcGet σ2.src id = some (some old) → ρ' id = ρ old := fun id old h => by simp only [ρ', h]
  have hρn : ∀ id, srcGet σ2.src id = some none → ρ' id = ⟨[], 0⟩ := fun id h => by simp only [ρ', h]
  let F' : Fz := fun k => if ∃ id, id ∈ σ2.fz ∧ k ∈ (ρ id).bs then W.heap[k]? else F k
  have hF : ∀ b o, F b = some o → F' b = some o := by
    intro b o h
    simp only [F']
    split
    · exact hh.fz b o h
    · exact h
  have hl : ∀ id, id ∈ σ2.fz → ∀ k, k ∈ (ρ id).bs → F' k = W.heap[k]? := fun id hid k hk => if_pos ⟨id, hid, hk⟩
  -- who is behind a block
  have back : ∀ {id b k}, hp' id = some b → k ∈ (ρ' id).bs → ∃ old b0, srcGet σ2.src id = some (some old) ∧ st.hp old = some b0 ∧ b0.fz = false ∧ k ∈ (ρ old).bs := by
    intro id b k hb hk
    obtain ⟨o, h1, h2⟩ := hN' id b hb
    rcases h2 with ⟨rfl, _⟩ | ⟨old, rfl⟩
    · rw [hρn id h1] at hk; simp at hk
    · rw [hρs id old h1] at hk
      obtain ⟨b0, b', k1, k2, k3⟩ := hN.2 id old h1
      refine ⟨old, b0, h1, k1, ?_, hk⟩
      cases b0 with
      | cells => rfl
      | amap => rfl
      | row E t v fz xs => exact k3.1
  refine ⟨rfl, F', ρ', ⟨hi.size, fun s => ?_, ⟨?_, ?_, ?_, ?_⟩⟩, ⟨rfl, rfl, rfl, Nat.le_refl _, fun _ _ _ => rfl, ?_, hF, ?_, ?_⟩⟩
  · show RV F' ρ' hp' (encEnv p.env xe s) _
    rcases e1 s with e | ⟨q, v, σa, σb, k1, k2, k3, k4⟩
    · rw [e]; exact RV.undef
    · rw [k4]
      exact decV_ok hh hF hl hN hρn hρs k1 k2 (k3.trans l2) (hi.env s)
  · intro id b hb
    obtain ⟨q, v, σa, σb, k1, k2, k3, rfl⟩ := e2 id b hb
    have hle := (decB_le k1 k2).2.trans k3
    have k1' := k1
    unfold decB at k1
    split at k1
    · split at k1
      · rename_i old hg
        split at k1
        · rename_i T' xs ho
          split at k1
          · rename_i e
            have e := beq_eq e; subst e
            obtain ⟨bb, rs, fr, j1, j2, j3, j4⟩ := hh.blocks _ _ ho
            exact ⟨bb, rs, fr, by rw [hρs _ _ (hle.src _ _ hg)]; exact j1, j2, j3, decCs_ok hh hF hl hN hρn hρs k1 k2 k3 j4⟩
          · cases k1
        · cases k1
      · cases k1
    · split at k1
      · rename_i hg
        cases k1
        exact .inl ⟨by rw [hρn _ (hle.src _ _ hg)], rfl, by rw [hρn _ (hle.src _ _ hg)]⟩
      · rename_i old hg
        split at k1
        · rename_i E' t' ver xs ho
          split at k1
          · split at k1
            · rename_i e _ et
              have e := beq_eq e; subst e
              subst et
              cases k1
              have er := hρs _ _ (hle.src _ _ hg)
              rcases hh.blocks _ _ ho with ⟨j1, j2, j3⟩ | ⟨bb, rs, fr, j1, j2, j3, j4, j5, j6, j7⟩
              · exact .inl ⟨by rw [er]; exact j1, j2, by rw [er]; exact j3⟩
              · exact .inr ⟨bb, rs, fr, by rw [er]; exact j1, j2, j3, by rw [er]; exact j4, by rw [er]; exact j5, fun i hi => (j6 i hi).mono hF, fun h => by cases h⟩
            · cases k1
          · cases k1
        · cases k1
      · cases k1
    · split at k1
      · rename_i old hg
        split at k1
        · rename_i T' kt' et' m ho
          split at k1
          · split at k1
            · split at k1
              · rename_i e ek ee
                have e := beq_eq e; subst e
                subst ek; subst ee
                cases k1
                obtain ⟨bb, es, clk, j1, j2, j3⟩ := hh.blocks _ _ ho
                exact ⟨bb, es, clk, by rw [hρs _ _ (hle.src _ _ hg)]; exact j1, j2, j3.mono fun _ _ ⟨p, q⟩ => ⟨p.mono hF, q.mono hF⟩⟩
              · cases k1
            · cases k1
          · cases k1
        · cases k1
      · cases k1
  · intro i j x y k hx hy hki hkj
    obtain ⟨oi, bi, a1, a2, a3, a4⟩ := back hx hki
    obtain ⟨oj, bj, b1, b2, b3, b4⟩ := back hy hkj
    have := hh.inj oi oj bi bj k a2 b2 a4 b4
    subst this
    exact d2.inj i j oi a1 b1
  · intro b o h
    simp only [F'] at h
    split at h
    · exact h
    · exact hh.fz b o h
  · rintro k ⟨id, b, hb, _, hk⟩
    obtain ⟨old, b0, a1, a2, a3, a4⟩ := back hb hk
    simp only [F']
    rw [if_neg]
    · exact hh.apart k ⟨old, b0, a2, a3, a4⟩
    · rintro ⟨z, hz, hkz⟩
      obtain ⟨E, t, ver, fz, xs, hrow⟩ := d2.rows z hz
      have := hh.inj old z b0 _ k a2 hrow a4 hkz
      subst this
      exact notfz _ _ a1 hz
  · rintro k ⟨id, b, hb, _, hk⟩
    obtain ⟨old, b0, a1, a2, a3, a4⟩ := back hb hk
    exact .inl ⟨old, b0, a2, a3, a4⟩
  · intro k hk
    simp only [F'] at hk
    split at hk
    · rename_i hz
      obtain ⟨z, hz, hkz⟩ := hz
      obtain ⟨E, t, ver, fz, xs, hrow⟩ := d2.rows z hz
      cases fz with
      | false => exact .inr (.inl ⟨z, _, hrow, rfl, hkz⟩)
      | true =>
        left
        rcases hh.blocks z _ hrow with ⟨j1, _⟩ | ⟨bb, rs, fr, j1, j2, _, _, _, _, j7⟩
        · rw [j1] at hkz; simp at hkz
        · rw [j1] at hkz; simp at hkz; subst hkz
          rw [j7 rfl]; simp
    · exact .inl hk
  · intro id hlt blk hblk
    have hm : id ∈ p.hp.map (·.1) := by
      have := List.all_eq_true.1 himp id (List.mem_range.2 hlt)
      rw [hblk] at this
      exact memN_iff.1 this
    obtain ⟨b, hb⟩ := e3 id hm
    obtain ⟨o, h1, h2⟩ := hN' id b hb
    have := d2.low id o hlt h1
    subst this
    obtain ⟨b0, b', k1, k2, k3⟩ := hN.2 id id h1
    rw [hblk] at k1; cases k1
    refine ⟨b', k2, ?_⟩
    rw [hρs id id h1]
    cases blk with
    | cells T cs =>
      cases b' with
      | cells T' cs' => exact ⟨k3.1, k3.2, rfl⟩
      | row => exact k3.elim
      | amap => exact k3.elim
    | row E t v fz xs =>
      obtain ⟨rfl, rfl⟩ := k3
      exact ⟨rfl, rfl, rfl, fun _ => ⟨rfl, rfl⟩⟩
    | amap T kt et m =>
      have : b' = .amap T kt et m := k3
      subst this
      exact ⟨rfl, rfl, rfl, rfl⟩

def convFoot (E : TypeId) (t : Ty) (f : Foot) : ABlock → Foot
  | .cells T cs => match convX E t T cs with
    | some xs => ⟨f.bs, xs.length⟩
    | none => f
  | _ => f

theorem conv_cases (E : TypeId) (t : Ty) (f : Foot) (b : ABlock) : (convB E t b = b ∧ convFoot E t f b = f) ∨
    ∃ T cs xs n, b = .cells T cs ∧ toTys t n cs = some xs ∧ 2 ≤ n ∧ convB E t b = .row T t 0 false xs ∧ convFoot E t f b = ⟨f.bs, xs.length⟩ := by
  cases b with
  | row => exact .inl ⟨rfl, rfl⟩
  | amap => exact .inl ⟨rfl, rfl⟩
  | cells T cs =>
    simp only [convB, convFoot]
    cases h : convX E t T cs with
    | none => exact .inl ⟨rfl, rfl⟩
    | some xs =>
      right
      unfold convX at h
      split at h
      · rename_i hc
        simp only [Bool.and_eq_true] at hc
        exact ⟨T, cs, xs, _, rfl, h, Nat.le_of_ble_eq_true hc.2, rfl, rfl⟩
      · cases h

theorem conv_ok {n : Nat} {g : List Bool} {E : TypeId} {t : Ty} {st : ASt} {F : Fz} {ρ : Rho} {a : Act} {W : World} (hi : SInv n F ρ st a W) :
    Leads n g F ρ st.hp a W ⟨st.env, convHp E t st.hp⟩ a W := by
  let ρ' : Rho := fun i => match Nat.ble 32 i, st.hp i with
    | true, some b => convFoot E t (ρ i) b
    | _, _ => ρ i
  have hh := hi.heap
  -- each block, before and after
  have key : ∀ i b, st.hp i = some b → ∃ b', convHp E t st.hp i = some b' ∧ ((b' = b ∧ ρ' i = ρ i) ∨ (32 ≤ i ∧ ∃ T cs xs n, b = .cells T cs ∧ toTys t n cs = some xs ∧ 2 ≤ n ∧ b' = .row T t 0 false xs ∧ ρ' i = ⟨(ρ i).bs, xs.length⟩)) := by
    intro i b hb
    cases hlt : Nat.ble 32 i with
    | false => exact ⟨b, by simp only [convHp, hlt]; exact hb, .inl ⟨rfl, by simp only [ρ', hlt]⟩⟩
    | true =>
      refine ⟨convB E t b, by simp only [convHp, hlt, hb], ?_⟩
      have hr : ρ' i = convFoot E t (ρ i) b := by simp only [ρ', hlt, hb]
      rw [hr]
      rcases conv_cases E t (ρ i) b with ⟨h1, h2⟩ | ⟨T, cs, xs, n, h1, h2, h3, h4, h5⟩
      · exact .inl ⟨h1, h2⟩
      · exact .inr ⟨Nat.le_of_ble_eq_true hlt, T, cs, xs, n, h1, h2, h3, h4, h5⟩
  have back : ∀ i b', convHp E t st.hp i = some b' → ∃ b, st.hp i = some b := by
    intro i b' h
    simp only [convHp] at h
    split at h
    · split at h
      · rename_i b hb; exact ⟨b, hb⟩
      · cases h
    · exact ⟨b', h⟩
  have bsame : ∀ i, (ρ' i).bs = (ρ i).bs := by
    intro i
    cases hb : st.hp i with
    | none =>
      have : ρ' i = ρ i := by
        simp only [ρ', hb]
        split
        · rename_i h; cases h
        · rfl
      rw [this]
    | some b =>
      obtain ⟨b', _, h | ⟨_, _, _, _, _, _, _, _, _, h⟩⟩ := key i b hb
      · rw [h.2]
      · rw [h]
  have hlen : ∀ {cs : List Cell} {xs : List t.den} {n : Nat} {rs : List Value}, toTys t n cs = some xs → All2 (RCell F ρ st.hp) cs rs → xs.length = n := fun h k => (toTys_ok h k).1
  have keep : ∀ i x, st.hp i = some x → ∃ y, convHp E t st.hp i = some y ∧ Keep (ρ i) x (ρ' i) y := by
    intro i x hx
    obtain ⟨b', hb', h | ⟨_, T, cs, xs, n, rfl, h2, h3, h4, h5⟩⟩ := key i x hx
    · refine ⟨b', hb', ?_⟩
      rw [h.1, h.2]; exact Keep.refl _ _
    · refine ⟨b', hb', ?_⟩
      subst h4
      obtain ⟨_, rs, _, _, _, _, h6⟩ := hh.blocks i _ hx
      have := hlen h2 h6
      exact ⟨Nat.le_refl _, fun h => (by cases h), fun _ => ⟨by rw [h5], by omega⟩⟩
  have fzsame : ∀ i b b', st.hp i = some b → convHp E t st.hp i = some b' → b'.fz = b.fz := by
    intro i b b' hb hb'
    obtain ⟨b2, h1, h | ⟨_, T, cs, xs, n, rfl, _, _, h4, _⟩⟩ := key i b hb
    · rw [h1] at hb'; cases hb'; rw [h.1]
    · rw [h1] at hb'; cases hb'; rw [h4]; rfl
  refine ⟨rfl, F, ρ', ⟨hi.size, fun s => RV.mono (fun _ _ h => h) keep (hi.env s), ⟨?_, ?_, hh.fz, ?_⟩⟩, ⟨rfl, rfl, rfl, Nat.le_refl _, fun _ _ _ => rfl, ?_, fun _ _ h => h, fun _ h => .inl h, ?_⟩⟩
  · intro i b' hb'
    replace hb' : convHp E t st.hp i = some b' := hb'
    obtain ⟨b, hb⟩ := back i b' hb'
    obtain ⟨b2, h1, h | ⟨_, T, cs, xs, n, rfl, h2, h3, h4, h5⟩⟩ := key i b hb
    · rw [h1] at hb'; cases hb'
      rw [h.1]
      exact BR.mono (fun _ _ h => h) keep h.2 (fun _ _ => rfl) (hh.blocks i b hb)
    · rw [h1] at hb'; cases hb'
      subst h4
      obtain ⟨bb, rs, fr, j1, j2, j3, j4⟩ := hh.blocks i _ hb
      obtain ⟨k1, k2, k3⟩ := toTys_ok h2 j4
      refine .inr ⟨bb, rs, fr, by rw [h5]; exact j1, j2, j3, ?_, by rw [h5]; exact Nat.le_refl _, fun j hj => ?_, fun h => by cases h⟩
      · rw [h5]
        show rs.size = xs.length * t.size
        rw [k1]
        simpa using k2
      · have := k3 j (by omega)
        simpa [segV] using this
  · intro i j x y k hx hy hki hkj
    obtain ⟨bx, hbx⟩ := back i x hx
    obtain ⟨by_, hby⟩ := back j y hy
    rw [bsame] at hki hkj
    exact hh.inj i j bx by_ k hbx hby hki hkj
  · rintro k ⟨i, b', hb', hz, hk⟩
    obtain ⟨b, hb⟩ := back i b' hb'
    rw [bsame] at hk
    exact hh.apart k ⟨i, b, hb, by rw [← fzsame i b b' hb hb']; exact hz, hk⟩
  · rintro k ⟨i, b', hb', hz, hk⟩
    obtain ⟨b, hb⟩ := back i b' hb'
    rw [bsame] at hk
    exact .inl ⟨i, b, hb, by rw [← fzsame i b b' hb hb']; exact hz, hk⟩
  · intro i hlt blk hblk
    obtain ⟨b2, h1, h | ⟨hge, _⟩⟩ := key i blk hblk
    · refine ⟨b2, h1, ?_⟩
      rw [h.1, h.2]; exact Evo.refl _ _ _
    · omega

theorem convs_ok {n : Nat} {g : List Bool} {a : Act} {W : World} : ∀ {l : List (Nat × BPat)} {st : ASt} {F : Fz} {ρ : Rho}, SInv n F ρ st a W → Leads n g F ρ st.hp a W (convs l st) a W
  | [], st, F, ρ, hi => ⟨rfl, F, ρ, hi, Ext.refl _ _ _ _ _⟩
  | (id, .row E t) :: r, st, F, ρ, hi => by
    simp only [convs]
    split
    · obtain ⟨h0, F1, ρ1, h1, h2⟩ := conv_ok (g := g) (E := E) (t := t) hi
      obtain ⟨k0, F2, ρ2, k1, k2⟩ := convs_ok (g := g) (l := r) h1
      exact ⟨k0.trans h0, F2, ρ2, k1, h2.trans k2⟩
    · exact convs_ok hi
  | (id, .cells _ _) :: r, st, F, ρ, hi => convs_ok (l := r) hi
  | (id, .amap _ _ _) :: r, st, F, ρ, hi => convs_ok (l := r) hi

theorem dec_ok {n : Nat} {g : List Bool} {p : SPat} {st : ASt} {x : p.den} (h : dec p st = some x) {F : Fz} {ρ : Rho} {a : Act} {W : World} (hi : SInv n F ρ st a W) :
    Leads n g F ρ st.hp a W (encS p x) a W := by
  obtain ⟨h0, F1, ρ1, h1, h2⟩ := convs_ok (g := g) (l := p.hp) hi
  obtain ⟨k0, F2, ρ2, k1, k2⟩ := dec0_ok (g := g) h h1
  exact ⟨k0.trans h0, F2, ρ2, k1, h2.trans k2⟩

end
end Go.AX
/- AX, part 30: cuts, loops, functions. -/
namespace Go.AX
noncomputable section

/-- a state on its way out, laid anew by the way's pattern -/
def outD {R : Type} (K : Ex → ASt → Option R) : Outs → Ex → ASt → Option R
  | .nil, _, _ => none
  | .cons e p r, e', st => match exBeq e e' with
    | true => match dec p st with
      | some y => K e' (encS p y)
      | none => none
    | false => outD K r e' st

theorem outD_ok {R : Type} {K : Ex → ASt → Option R} : ∀ {outs : Outs} {e : Ex} {st : ASt} {r : R}, outD K outs e st = some r → ∃ p y, dec p st = some y ∧ K e (encS p y) = some r
  | .nil, _, _, _, h => by cases h
  | .cons e p o, e', st, r, h => by
    simp only [outD] at h
    split at h
    · split at h
      · rename_i y hy; exact ⟨p, y, hy, h⟩
      · cases h
    · exact outD_ok h

abbrev Typed (p : SPat) := (R : Type) → p.den → (Ex → ASt → Option R) → Option R

/-- a typed function as a piece -/
def fragOf (p : SPat) (G : Typed p) : Frag := fun R st K => match dec p st with
  | some x => G R x K
  | none => none

theorem fragOf_ok {P : Program} {n : Nat} {g : List Bool} {c : Code} {p : SPat} {G : Typed p} (h : ∀ R x K r, G R x K = some r → ∃ e st', K e st' = some r ∧ RunsL P n g c (encS p x) e st') : FragOK P n g c (fragOf p G) := by
  intro R st K r hF
  unfold fragOf at hF
  split at hF
  case h_2 => cases hF
  rename_i x hx
  obtain ⟨e, st', h1, h2⟩ := h R x K r hF
  refine ⟨e, st', h1, fun F ρ hp a0 W0 a W hl => ?_⟩
  exact h2 F ρ hp a0 W0 a W (Leads.trans hl fun F1 ρ1 hs => dec_ok hx hs)

theorem RunsL.out {P : Program} {n : Nat} {g : List Bool} {c : Code} {st st1 : ASt} {e : Ex} {p : SPat} {y : p.den} (h : RunsL P n g c st e st1) (hy : dec p st1 = some y) : RunsL P n g c st e (encS p y) := by
  intro F ρ hp a0 W0 a W hl
  refine wp_mono (h F ρ hp a0 W0 a W hl) ?_
  rintro x a' W' ⟨rfl, hl'⟩
  · exact ⟨rfl, Leads.trans hl' fun F1 ρ1 hs => dec_ok hy hs⟩

section
variable {P : Program} {tt : TT} {Γ : FuncId → Option Spec} {g : List Bool} {n : Nat} {Λ : Nat → Option Frag} {dom : Nat → Bool}

theorem cut_ok (hm : P.follows .mixedOrders = true) (htt : TTok P tt) (hΓ : CallRule P tt Γ) (hdom : ∀ k, (Λ k).isSome = dom k) {c : Code} (hd : dstsOk dom n c = true) (hc : ∀ p, p ∈ cutList dom c → ∀ F, Λ p.1 = some F → FragOK P n g p.2 F)
    {p : SPat} {G : Typed p} (outs : Outs) (h : ∀ (R : Type) x K, aexec tt Γ g Λ c (encS p x) (outD (R := R) K outs) = G R x K) : FragOK P n g c (fragOf p G) := by
  refine fragOf_ok fun R x K r hG => ?_
  rw [← h] at hG
  obtain ⟨e, st1, h1, h2⟩ := aexec_ok hm htt hΓ hdom c hd hc R _ _ r hG
  obtain ⟨q, y, h3, h4⟩ := outD_ok h1
  exact ⟨e, encS q y, h4, h2.out h3⟩

/-- a loop's next round, or its ways out -/
def loopK {R : Type} (p : SPat) (next : p.den → Option R) (K : Ex → ASt → Option R) (outs : Outs) : Ex → ASt → Option R
  | .normal, st => match dec p st with
    | some y => next y
    | none => none
  | e, st => outD K outs e st

/-- the loop's body, and the loop again behind it -/
def LoopWp (P : Program) (c : Code) (Q : Exit → Act → World → Prop) (a : Act) (w : World) : Prop :=
  ∀ (b : Frame) (k : List Item) (cs : List Frame), ∃ e a' w', Q e a' w' ∧ Arrives P (lone (b.at a (.code c :: .inLoop c :: k)) cs w) b k cs e a' w'

theorem LoopWp.loop {c : Code} {Q : Exit → Act → World → Prop} {a : Act} {w : World} (h : LoopWp P c Q a w) : (Code.loop c).wp P Q a w := by
  intro b k cs
  obtain ⟨e, a', w', hq, harr⟩ := h b k cs
  exact ⟨e, a', w', hq, .of_steps (.one step_loop) harr⟩

theorem LoopWp.round {c : Code} {Q : Exit → Act → World → Prop} {a : Act} {w : World} (h : c.wp P (Exit.then (LoopWp P c Q) Q) a w) : LoopWp P c Q a w := by
  intro b k cs
  obtain ⟨e, a₁, w₁, hq, harr⟩ := h b (.inLoop c :: k) cs
  cases e with
  | normal =>
    obtain ⟨e₂, a₂, w₂, hq₂, harr₂⟩ := hq b k cs
    exact ⟨e₂, a₂, w₂, hq₂, .of_steps (Steps.trans harr (.one step_inLoop)) harr₂⟩
  | exit id => exact ⟨_, a₁, w₁, hq, .pass (x := .inLoop c) rfl (fun _ _ => .inl (by simp)) harr⟩
  | goto l => exact ⟨_, a₁, w₁, hq, .pass (x := .inLoop c) rfl (fun _ _ => .inl (by simp)) harr⟩
  | ret => exact ⟨_, a₁, w₁, hq, .pass (x := .inLoop c) rfl (fun _ _ => .inl (by simp)) harr⟩
  | panic ch => exact ⟨_, a₁, w₁, hq, .pass (x := .inLoop c) rfl (fun _ _ => .inl (by simp)) harr⟩
  | outgrown => exact ⟨_, a₁, w₁, hq, .pass (x := .inLoop c) rfl (fun _ _ => .inl (by simp)) harr⟩

theorem loop_ok (hm : P.follows .mixedOrders = true) (htt : TTok P tt) (hΓ : CallRule P tt Γ) (hdom : ∀ k, (Λ k).isSome = dom k) {c : Code} (hd : dstsOk dom n c = true) (hc : ∀ p, p ∈ cutList dom c → ∀ F, Λ p.1 = some F → FragOK P n g p.2 F)
    {p : SPat} {G : Nat → Typed p} (outs : Outs) (h0 : ∀ R x K, G 0 R x K = none) (h : ∀ (R : Type) k x K, aexec tt Γ g Λ c (encS p x) (loopK (R := R) p (fun y => G k R y K) K outs) = G (k + 1) R x K) (N : Nat) :
    FragOK P n g (.loop c) (fragOf p (G N)) := by
  refine fragOf_ok fun R x K r hG => ?_
  have key : ∀ k x, G k R x K = some r → ∃ e st', K e st' = some r ∧ ∀ F ρ hp a0 W0 a W, Leads n g F ρ hp a0 W0 (encS p x) a W → LoopWp P c (Goal n g F ρ hp a0 W0 e st') a W := by
    intro k
    induction k with
    | zero => intro x hG; rw [h0] at hG; cases hG
    | succ k ih =>
      intro x hG
      rw [← h] at hG
      obtain ⟨e, st1, h1, h2⟩ := aexec_ok hm htt hΓ hdom c hd hc R _ _ r hG
      cases e with
      | normal =>
        simp only [loopK] at h1
        split at h1
        case h_2 => cases h1
        rename_i y hy
        obtain ⟨e, st', k1, k2⟩ := ih y h1
        refine ⟨e, st', k1, fun F ρ hp a0 W0 a W hl => LoopWp.round (wp_mono (h2 F ρ hp a0 W0 a W hl) ?_)⟩
        rintro x' a' W' ⟨rfl, hl'⟩
        · exact k2 F ρ hp a0 W0 a' W' (Leads.trans hl' fun F1 ρ1 hs => dec_ok hy hs)
      | exit id =>
        simp only [loopK] at h1
        obtain ⟨q, y, h3, h4⟩ := outD_ok h1
        refine ⟨.exit id, encS q y, h4, fun F ρ hp a0 W0 a W hl => LoopWp.round (wp_mono ((h2.out h3) F ρ hp a0 W0 a W hl) ?_)⟩
        rintro x' a' W' ⟨rfl, hl'⟩
        · exact ⟨rfl, hl'⟩
      | ret =>
        simp only [loopK] at h1
        obtain ⟨q, y, h3, h4⟩ := outD_ok h1
        refine ⟨.ret, encS q y, h4, fun F ρ hp a0 W0 a W hl => LoopWp.round (wp_mono ((h2.out h3) F ρ hp a0 W0 a W hl) ?_)⟩
        rintro x' a' W' ⟨rfl, hl'⟩
        · exact ⟨rfl, hl'⟩
  obtain ⟨e, st', h1, h2⟩ := key N x hG
  exact ⟨e, st', h1, fun F ρ hp a0 W0 a W hl => (h2 F ρ hp a0 W0 a W hl).loop⟩
end

/-! ## Functions -/
def encV1 : (p : VPat) → p.den → V1
  | .one c, v => .one (encC c v)
  | .agg cs, v => .agg (encCs cs v)

def vals : (ps : List (Nat × VPat)) → denEnv ps → List V1
  | [], _ => []
  | (_, p) :: r, v => encV1 p v.1 :: vals r v.2

def blks : (ps : List (Nat × BPat)) → denHp ps → List ABlock
  | [], _ => []
  | (_, p) :: r, v => encB p v.1 :: blks r v.2

/-- the state that a function hands back: its results in slots 0, 1, .. -/
def retSt (st : ASt) (vs : List AV) : ASt := ⟨envOf vs, st.hp⟩

def retK {R : Type} (tt : TT) (rs : List ResultVar) (pr : SPat) (K : pr.den → Option R) : Ex → ASt → Option R
  | .exit _, _ => none
  | _, st => match resEnv tt st rs with
    | some vs => match dec pr (retSt st vs) with
      | some y => K y
      | none => none
    | none => none

abbrev TypedF (p q : SPat) := (R : Type) → p.den → (q.den → Option R) → Option R

def specOf (pure grow : List Bool) (mat : Bool) (nargs nb : Nat) (p0 pr : SPat) (G : TypedF p0 pr) : Spec where
  pure := pure
  grow := grow
  mat := mat
  run R args bl K := match Nat.beq args.length nargs, dec p0 (startSt args bl) with
    | true, some x => G R x fun y => K (resAV (vals pr.env y.1)) ((blks pr.hp y.2).take nb) ((blks pr.hp y.2).drop nb)
    | _, _ => none

theorem blks_length : ∀ {ps : List (Nat × BPat)} {y : denHp ps}, (blks ps y).length = ps.length
  | [], _ => rfl
  | _ :: r, y => by simp [blks, blks_length (ps := r)]

theorem encHp_get : ∀ {ps : List (Nat × BPat)} {y : denHp ps} {id i : Nat}, idxOf id (ps.map (·.1)) 0 = some i → encHp ps y id = (blks ps y)[i]?
  | [], _, _, _, h => by cases h
  | (t, p) :: r, y, id, i, h => by
    simp only [List.map_cons, idxOf] at h
    simp only [encHp, blks]
    split at h
    · rename_i e; cases h; (try rw [e]); rfl
    · rename_i e
      (try rw [e])
      have shift : ∀ (l : List Nat) (a b k : Nat), idxOf id l (a + 1) = some k → idxOf id l a = some (k - 1) ∧ a + 1 ≤ k := by
        intro l
        induction l with
        | nil => intro a b k h; cases h
        | cons x l ih =>
          intro a b k h
          simp only [idxOf] at h ⊢
          split at h
          · cases h; simp
          · obtain ⟨h1, h2⟩ := ih (a + 1) b k h
            exact ⟨h1, by omega⟩
      obtain ⟨h1, h2⟩ := shift _ 0 0 i h
      have := encHp_get (y := y.2) h1
      (try simp only)
      rw [this]
      have : i = (i - 1) + 1 := by omega
      rw [this]; simp

theorem encHp_none : ∀ {ps : List (Nat × BPat)} {y : denHp ps} {id : Nat}, id ∉ ps.map (·.1) → encHp ps y id = none
  | [], _, _, _ => rfl
  | (t, p) :: r, y, id, h => by
    simp only [List.map_cons, List.mem_cons, not_or] at h
    simp only [encHp, beq_ne h.1]
    exact encHp_none h.2

theorem hpOf_enc {ps : List (Nat × BPat)} {nb m : Nat} (hn : ps.map (·.1) = List.range nb ++ (List.range m).map (32 + ·)) (hnb : nb ≤ 32) (y : denHp ps) : encHp ps y = hpOf ((blks ps y).take nb) ((blks ps y).drop nb) := by
  have nd : (ps.map (·.1)).Nodup := by
    rw [hn, List.nodup_append]
    refine ⟨List.nodup_range, ?_, ?_⟩
    · rw [List.nodup_iff_pairwise_ne, List.pairwise_map]
      have := List.nodup_range (n := m)
      rw [List.nodup_iff_pairwise_ne] at this
      exact this.imp fun {a b} h e => h (by omega)
    · intro a ha b hb
      simp only [List.mem_map, List.mem_range] at ha hb
      obtain ⟨c, _, rfl⟩ := hb
      omega
  have hlen : ps.length = nb + m := by
    have := congrArg List.length hn
    simpa using this
  have bl := blks_length (ps := ps) (y := y)
  funext id
  simp only [hpOf]
  cases e : Nat.ble 32 id with
  | false =>
    have hlt : id < 32 := by
      rcases Nat.lt_or_ge id 32 with h | h
      · exact h
      · rw [Nat.ble_eq_true_of_le h] at e; cases e
    simp only
    by_cases h : id < nb
    · have : (ps.map (·.1))[id]? = some id := by
        rw [hn, List.getElem?_append_left (by simpa using h)]
        simp [h]
      rw [encHp_get (idxOf_get (i := 0) nd this)]
      simp [h]
    · rw [encHp_none, List.getElem?_eq_none]
      · simp; omega
      · rw [hn]
        simp only [List.mem_append, List.mem_range, List.mem_map, not_or, not_exists, not_and]
        exact ⟨h, fun x _ => by omega⟩
  | true =>
    have hle := Nat.le_of_ble_eq_true e
    simp only
    by_cases h : id - 32 < m
    · have : (ps.map (·.1))[nb + (id - 32)]? = some id := by
        rw [hn, List.getElem?_append_right (by simp)]
        simp [h]; omega
      rw [encHp_get (idxOf_get (i := 0) nd this)]
      simp [List.getElem?_drop]
    · rw [encHp_none, List.getElem?_eq_none]
      · simp; omega
      · rw [hn]
        simp only [List.mem_append, List.mem_range, List.mem_map, not_or, not_exists, not_and]
        exact ⟨by omega, fun x hx => by omega⟩

theorem encV_V1 : ∀ (p : VPat) (v : p.den), encV p v = .v (encV1 p v)
  | .one _, _ => rfl
  | .agg _, _ => rfl

theorem vals_get : ∀ {ps : List (Nat × VPat)} {y : denEnv ps} {k m : Nat}, ps.map (·.1) = (List.range m).map (k + ·) → (∀ i, i < m → ∃ v, (vals ps y)[i]? = some v ∧ encEnv ps y (k + i) = .v v) ∧ (vals ps y).length = m
  | [], y, k, m, h => by
    have : m = 0 := by have := congrArg List.length h; simpa using this.symm
    subst this
    exact ⟨fun i hi => by omega, rfl⟩
  | (t, p) :: r, y, k, m, h => by
    cases m with
    | zero => simp at h
    | succ m =>
      rw [List.range_succ_eq_map, List.map_cons, List.map_cons] at h
      simp only [List.cons.injEq, Nat.add_zero] at h
      obtain ⟨rfl, h2⟩ := h
      have h3 : r.map (·.1) = (List.range m).map ((t + 1) + ·) := by
        rw [h2, List.map_map]
        apply List.map_congr_left
        intro i _; simp [Function.comp]; omega
      obtain ⟨i1, i2⟩ := vals_get (y := y.2) h3
      refine ⟨fun i hi => ?_, by simp [vals, i2]⟩
      cases i with
      | zero => exact ⟨_, rfl, by simp [encEnv, encV_V1]⟩
      | succ i =>
        obtain ⟨v, v1, v2⟩ := i1 i (by omega)
        refine ⟨v, by simpa [vals] using v1, ?_⟩
        simp only [encEnv]
        rw [beq_ne (by omega)]
        rw [show t + (i + 1) = t + 1 + i by omega]; exact v2

def resF (tmps : Array Value) : ResultVar → Sem Value := fun
    | .tmp t => pure (tmps.getD t undef)
    | .cell a t => do loadVar t (← asAddr (tmps.getD a undef))

theorem results_eq (fn : Func) (tmps : Array Value) : results fn tmps = (do
  let vs ← fn.results.mapM (resF tmps)
  pure (if h : vs.size = 1 then vs[0] else .tuple vs)) := rfl

def resV : List Value → Value
  | [v] => v
  | l => .tuple l.toArray

theorem results_run {P : Program} {tt : TT} (htt : TTok P tt) {n : Nat} {F : Fz} {ρ : Rho} {st : ASt} {a : Act} {W : World} (hs : SInv n F ρ st a W) {fn : Func} {vs : List AV} (h : resEnv tt st fn.results.toList = some vs) :
    ∃ rs : List Value, (results fn a.tmps).run P W = .ok (resV rs) W ∧ All2 (RV F ρ st.hp) vs rs := by
  have key : ∀ (l : List ResultVar) (vs : List AV), resEnv tt st l = some vs → ∃ rs : List Value, (l.mapM (resF a.tmps) : Sem (List Value)).run P W = Result.ok rs W ∧ All2 (RV F ρ st.hp) vs rs := by
    intro l
    induction l with
    | nil => intro vs h; cases h; exact ⟨[], by simp, trivial⟩
    | cons x l ih =>
      intro vs h
      cases x with
      | tmp t =>
        simp only [resEnv] at h
        split at h
        · rename_i l' hl; cases h
          obtain ⟨rs, h1, h2⟩ := ih l' hl
          refine ⟨a.tmps.getD t undef :: rs, ?_, hs.env t, h2⟩
          rw [List.mapM_cons]
          simp only [Sem.run_bind, h1, Result.andThen_ok, resF, Sem.run_pure]
        · cases h
      | cell t T =>
        simp only [resEnv] at h
        split at h
        · rename_i v l' hv hl; cases h
          obtain ⟨rs, h1, h2⟩ := ih l' hl
          obtain ⟨v', hv', hload⟩ := aload_ok htt hv
          cases hv'
          obtain ⟨r, hr, hrv⟩ := hload F ρ st.hp W (a.tmps.getD t undef) hs.heap (fun _ _ h => h) (hs.env t)
          refine ⟨r :: rs, ?_, hrv, h2⟩
          rw [List.mapM_cons]
          have hx : (resF a.tmps (.cell t T)).run P W = .ok r W := by
            simp only [resF]
            generalize a.tmps.getD t undef = q at hr
            cases q with
            | pointer p =>
              cases p with
              | some ad => simpa [Instr.loadAt, Instr.sureAddr, asAddr] using hr
              | none => simp [Instr.loadAt, Instr.sureAddr] at hr
            | _ => simp [Instr.loadAt, Instr.sureAddr] at hr
          simp only [Sem.run_bind, hx, h1, Result.andThen_ok, Sem.run_pure]
        · cases h
  obtain ⟨rs, h1, h2⟩ := key _ _ h
  refine ⟨rs, ?_, h2⟩
  rw [results_eq, ← Array.toArray_toList (xs := fn.results)]
  rw [List.mapM_toArray]
  simp only [Sem.run_bind, Sem.run_map, h1, Result.andThen_ok, Sem.run_pure]
  congr 1
  match rs with
  | [] => rfl
  | [a] => rfl
  | a :: b :: r => simp [resV]

def CallSound.fin (P : Program) (F : Fz) (ρ : Rho) (W : World) (bl : List ABlock) (g : List Bool) (v : AV) (bl' nw : List ABlock) (r : Value) (W' : World) : Prop :=
  ∃ F' ρ', RV F' ρ' (hpOf bl' nw) v r ∧ HeapOK F' ρ' (hpOf bl' nw) W' ∧ Ext g F ρ (hpOf bl []) W F' ρ' (hpOf bl' nw) W'

theorem fun_ok {P : Program} (hm : P.follows .mixedOrders = true) {tt : TT} (htt : TTok P tt) {Γ : FuncId → Option Spec} (hΓ : CallRule P tt Γ) {g : List Bool} {Λ : Nat → Option Frag} {dom : Nat → Bool} (hdom : ∀ k, (Λ k).isSome = dom k)
    {f : FuncId} {fn : Func} {c : Code} (hf : P.funcs[f]? = some fn) (hb : fn.body = some c) {rs : List ResultVar} (hrs : fn.results.toList = rs)
    (hd : dstsOk dom fn.ntmps c = true) (hc : ∀ p, p ∈ cutList dom c → ∀ F, Λ p.1 = some F → FragOK P fn.ntmps g p.2 F)
    {pure : List Bool} {mat : Bool} {nargs nb m : Nat} {p0 pr : SPat} {G : TypedF p0 pr} (hn : nargs ≤ fn.ntmps) (hnb : nb ≤ 32) (hhp : pr.hp.map (·.1) = List.range nb ++ (List.range m).map (32 + ·)) (henv : pr.env.map (·.1) = List.range rs.length)
    (h : ∀ (R : Type) x K, aexec tt Γ g Λ c (encS p0 x) (retK (R := R) tt rs pr K) = G R x K) : SpecOK P f (specOf pure g mat nargs nb p0 pr G) := by
  intro R args bl K r hrun
  simp only [specOf] at hrun
  split at hrun
  case h_2 => cases hrun
  rename_i x hna hx
  have hna := beq_eq hna
  rw [← h] at hrun
  obtain ⟨e, st1, h1, h2⟩ := aexec_ok hm htt hΓ hdom c hd hc R _ _ r hrun
  have hret : ∃ vs y, resEnv tt st1 rs = some vs ∧ dec pr (retSt st1 vs) = some y ∧ K (resAV (vals pr.env y.1)) ((blks pr.hp y.2).take nb) ((blks pr.hp y.2).drop nb) = some r ∧ (e = .normal ∨ e = .ret) := by
    cases e with
    | exit id => cases h1
    | normal =>
      simp only [retK] at h1
      split at h1
      · rename_i vs hvs
        split at h1
        · rename_i y hy; exact ⟨vs, y, hvs, hy, h1, .inl rfl⟩
        · cases h1
      · cases h1
    | ret =>
      simp only [retK] at h1
      split at h1
      · rename_i vs hvs
        split at h1
        · rename_i y hy; exact ⟨vs, y, hvs, hy, h1, .inr rfl⟩
        · cases h1
      · cases h1
  obtain ⟨vs, y, hvs, hy, hK, he⟩ := hret
  refine ⟨_, _, _, hK, fun F ρ W rargs hargs hh => ?_⟩
  have hlen : rargs.size = nargs := by have := hargs.length; simp at this; omega
  -- the start
  have hs0 : SInv fn.ntmps F ρ (startSt args bl) { tmps := rargs ++ Array.replicate (fn.ntmps - rargs.size) undef, defers := [] } W := by
    refine ⟨by simp; omega, fun s => ?_, hh⟩
    simp only [startSt, envOf]
    cases ha : args[s]? with
    | none => exact RV.undef
    | some v =>
      obtain ⟨b, hb1, hb2⟩ := hargs.get s v ha
      have hlt : s < rargs.size := by
        rcases Nat.lt_or_ge s rargs.size with h | h
        · exact h
        · rw [List.getElem?_eq_none (by simpa using h)] at hb1; cases hb1
      have : (rargs ++ Array.replicate (fn.ntmps - rargs.size) undef).getD s undef = b := by
        rw [Array.getD_eq_getD_getElem?, Array.getElem?_append_left hlt]
        have : rargs[s]? = some b := by simpa using hb1
        rw [this]; rfl
      rw [this]; exact hb2
  refine calls_of_wp hf hb (wp_mono (h2 F ρ (hpOf bl []) _ W _ W (dec_ok hx hs0)) ?_)
  rintro xx a' W' ⟨rfl, hl⟩
  obtain ⟨hdef, F1, ρ1, hs1, he1⟩ := hl
  -- the results
  subst hrs
  obtain ⟨rvs, hres, hrv⟩ := results_run htt hs1 hvs
  have hlv : vs.length = fn.results.toList.length := by
    have : ∀ (l : List ResultVar) (vs : List AV), resEnv tt st1 l = some vs → vs.length = l.length := by
      intro l
      induction l with
      | nil => intro vs h; cases h; rfl
      | cons x l ih =>
        intro vs h
        cases x with
        | tmp t =>
          simp only [resEnv] at h
          split at h
          · rename_i hl; cases h; simp [ih _ hl]
          · cases h
        | cell t T =>
          simp only [resEnv] at h
          split at h
          · rename_i hl; cases h; simp [ih _ hl]
          · cases h
    exact this _ _ hvs
  have hs2 : SInv rvs.length F1 ρ1 (retSt st1 vs) { tmps := rvs.toArray, defers := [] } W' := by
    refine ⟨by simp, fun s => ?_, hs1.heap⟩
    simp only [retSt, envOf]
    cases hv : vs[s]? with
    | none => exact RV.undef
    | some v =>
      obtain ⟨b, hb1, hb2⟩ := hrv.get s v hv
      have : (rvs.toArray).getD s undef = b := by rw [Array.getD_eq_getD_getElem?]; simp [hb1]
      rw [this]; exact hb2
  obtain ⟨_, F2, ρ2, hs3, he3⟩ := dec_ok (g := g) hy hs2
  have hheap : (encS pr y).hp = hpOf ((blks pr.hp y.2).take nb) ((blks pr.hp y.2).drop nb) := hpOf_enc hhp hnb y.2
  have hfin : CallSound.fin P F ρ W bl g (resAV (vals pr.env y.1)) ((blks pr.hp y.2).take nb) ((blks pr.hp y.2).drop nb) (resV rvs) W' := by
    refine ⟨F2, ρ2, ?_, by rw [← hheap]; exact hs3.heap, by rw [← hheap]; exact he1.trans he3⟩
    rw [← hheap]
    obtain ⟨g1, g2⟩ := vals_get (y := y.1) (k := 0) (m := fn.results.size) (by simpa using henv)
    have gets : ∀ i, i < fn.results.size → ∃ v, (vals pr.env y.1)[i]? = some v ∧ RV1 F2 ρ2 (encS pr y).hp v (rvs.getD i undef) := by
      intro i hi
      obtain ⟨v, v1, v2⟩ := g1 i hi
      refine ⟨v, v1, ?_⟩
      have := hs3.env i
      rw [Nat.zero_add] at v2
      have e : (encS pr y).env i = .v v := v2
      rw [e] at this
      have e2 : (rvs.toArray).getD i undef = rvs.getD i undef := by simp [List.getD_eq_getElem?_getD, Array.getD_eq_getD_getElem?]
      rw [← e2]; exact this
    have hl2 : rvs.length = (vals pr.env y.1).length := by
      have q1 := hrv.length
      have q2 := g2
      have q3 := hlv
      simp only [Array.length_toList] at q2 q3
      omega
    revert gets
    rw [← g2]
    revert hl2
    generalize vals pr.env y.1 = vs
    generalize rvs = rs
    intro hl2 gets
    have all : All2 (RV1 F2 ρ2 (encS pr y).hp) vs rs := by
      refine All2.of_get hl2.symm fun i v b hv hb => ?_
      have hi : i < vs.length := by
        rcases Nat.lt_or_ge i vs.length with h | h
        · exact h
        · rw [List.getElem?_eq_none h] at hv; cases hv
      obtain ⟨v', v1, v2⟩ := gets i hi
      rw [hv] at v1; cases v1
      rw [List.getD_eq_getElem?_getD, hb] at v2
      exact v2
    match vs, rs, all with
    | [v], [r], a => exact a.1
    | [], [], _ => exact ⟨#[], rfl, trivial⟩
    | _ :: _ :: _, _ :: _ :: _, a => exact ⟨_, rfl, by simpa using a⟩
    | [_], _ :: _ :: _, a => exact a.2.elim
    | _ :: _ :: _, [_], a => exact a.2.elim
    | [], _ :: _, a => exact a.elim
    | _ :: _, [], a => exact a.elim
  rcases he with rfl | rfl
  · exact ⟨hdef, _, hres, ⟨_, hfin.choose, hfin.choose_spec.choose, rfl, hfin.choose_spec.choose_spec⟩⟩
  · exact ⟨hdef, _, hres, ⟨_, hfin.choose, hfin.choose_spec.choose, rfl, hfin.choose_spec.choose_spec⟩⟩

end
end Go.AX

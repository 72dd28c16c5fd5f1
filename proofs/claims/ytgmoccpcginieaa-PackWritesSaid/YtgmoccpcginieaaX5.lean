/- A reading of the model's code over typed data, proved sound: patterns, loops, functions. -/
import Derived.Test.YtgmoccpcginieaaX4
namespace Go.AX
noncomputable section
def Cil (p : Aac) (hp : Aak) : Bool := (List.range 32).all fun id => match hp id with | none => true | some _ => Aq0 id (p.hp.map (·.1))
def B5l (E : TypeId) (t : Ty) (T : TypeId) (cs : List Ac3) : Option (List t.den) := match Nat.beq T E && Nat.ble 2 (cs.length / t.size) with
  | true => A8k t (cs.length / t.size) cs
  | false => none
def Bwt (E : TypeId) (t : Ty) : Aau → Aau
  | .cells T cs => match B5l E t T cs with
    | some xs => .row T t 0 false xs
    | none => .cells T cs
  | b => b
def A1h (E : TypeId) (t : Ty) (hp : Aak) : Aak := fun id => match Nat.ble 32 id with
  | true => (match hp id with | some b => some (Bwt E t b) | none => none)
  | false => hp id
def Bq4 : List (Nat × Aui) → ASt → ASt
  | [], st => st
  | (id, .row E t) :: r, st => match Nat.ble 1000 id with
    | true => Bq4 r ⟨st.env, A1h E t st.hp⟩
    | false => Bq4 r st
  | _ :: r, st => Bq4 r st
def Cdx (p : Aac) (st : ASt) : Option p.den := match Cdq p st with
  | some x => match Cil p st.hp with
    | true => some x
    | false => none
  | none => none
def dec (p : Aac) (st : ASt) : Option p.den := Cdx p (Bq4 p.hp st)
theorem Bwu : ∀ {a b : Option Nat}, Bdi a b = true ↔ a = b
  | none, none => by simp [Bdi]
  | some a, some b => by simp [Bdi]
  | none, some _ => by simp [Bdi]
  | some _, none => by simp [Bdi]
structure Le (a b : DSt) : Prop where
  src : ∀ id o, Afs a.src id = some o → Afs b.src id = some o
  fz : ∀ z, z ∈ a.fz → z ∈ b.fz
theorem Le.refl (a : DSt) : Le a a := ⟨fun _ _ h => h, fun _ h => h⟩
theorem Le.trans {a b c : DSt} (h : Le a b) (k : Le b c) : Le a c := ⟨fun id o x => k.src id o (h.src id o x), fun z x => k.fz z (h.fz z x)⟩
structure Anw (hp : Aak) (σ : DSt) : Prop where
  inj : ∀ i j o, Afs σ.src i = some (some o) → Afs σ.src j = some (some o) → i = j
  low : ∀ i o, i < 32 → Afs σ.src i = some o → o = some i
  rows : Bdl hp σ.fz
theorem Anx {k id : Nat} {o : Option Nat} {r : Src} : Afs ((k, o) :: r) id = if id = k then some o else Afs r id := by
  simp only [Afs]
  by_cases e : id = k
  · subst e; simp
  · rw [Ax8 e]; simp [e]
theorem Bcz : ∀ {s : Src} {id : Nat} {o : Option Nat}, Afs s id = some o → (id, o) ∈ s
  | [], _, _, h => by cases h
  | (k, o') :: r, id, o, h => by
    rw [Anx] at h
    split at h
    · rename_i e; cases h; subst e; exact List.mem_cons_self ..
    · exact List.mem_cons_of_mem _ (Bcz h)
theorem Apl {hp : Aak} {σ : DSt} {id : Nat} {o : Option Nat} {s : Src} (h : Bdj σ.src id o = some s) (hs : Anw hp σ) : Anw hp ⟨s, σ.fz⟩ ∧ Le σ ⟨s, σ.fz⟩ ∧ Afs s id = some o := by
  unfold Bdj at h
  split at h
  · rename_i o' ho
    split at h
    · rename_i e
      cases h
      rw [Bwu] at e
      exact ⟨⟨hs.inj, hs.low, hs.rows⟩, ⟨fun _ _ h => h, fun _ h => h⟩, by rw [ho, e]⟩
    · cases h
  · rename_i hn
    have le : ∀ o, Le σ ⟨(id, o) :: σ.src, σ.fz⟩ := fun o => ⟨fun i o' hx => by
      rw [Anx]
      split
      · rename_i e; subst e; rw [hn] at hx; cases hx
      · exact hx, fun _ h => h⟩
    split at h
    · split at h
      · rename_i hge
        have hge := Nat.le_of_ble_eq_true hge
        cases h
        refine ⟨⟨fun i j o h1 h2 => ?_, fun i o hi h1 => ?_, hs.rows⟩, le _, by rw [Anx]; simp⟩
        · simp only [Anx] at h1 h2
          split at h1
          · cases h1
          · split at h2
            · cases h2
            · exact hs.inj i j o h1 h2
        · simp only [Anx] at h1
          split at h1
          · rename_i e; omega
          · exact hs.low i o hi h1
      · cases h
    · rename_i old
      split at h
      · cases h
      · rename_i hc
        cases h
        simp only [Bool.or_eq_false_iff] at hc
        obtain ⟨⟨hc1, hc2⟩, hc3⟩ := hc
        have no : ∀ i, Afs σ.src i ≠ some (some old) := by
          intro i hi
          have := List.any_eq_false.1 hc1 _ (Bcz hi)
          rw [Bwu] at this
          exact this rfl
        refine ⟨⟨fun i j o h1 h2 => ?_, fun i o hi h1 => ?_, hs.rows⟩, le _, by rw [Anx]; simp⟩
        · simp only [Anx] at h1 h2
          split at h1
          · rename_i e1
            cases h1
            split at h2
            · rename_i e2; rw [e1, e2]
            · exact absurd h2 (no j)
          · split at h2
            · cases h2; exact absurd h1 (no i)
            · exact hs.inj i j o h1 h2
        · simp only [Anx] at h1
          split at h1
          · rename_i e
            cases h1
            subst e
            have : Nat.ble 32 i = false := by
              cases e : Nat.ble 32 i with
              | false => rfl
              | true => have := Nat.le_of_ble_eq_true e; omega
            rw [this] at hc2
            simp only [Bool.not_false, Bool.true_and, Bool.not_eq_false'] at hc2
            rw [Abk hc2]
          · exact hs.low i o hi h1
theorem Bzk {hp : Aak} {p : A2h} {c : Ac3} {σ σ' : DSt} {v : p.den} (h : Bzc hp p c σ = some (v, σ')) (hs : Anw hp σ) : Anw hp σ' ∧ Le σ σ' := by
  unfold Bzc at h
  split at h
  · split at h
    · rename_i hf
      split at h
      · cases h
        refine ⟨⟨hs.inj, hs.low, fun z hz => ?_⟩, fun _ _ h => h, fun z hz => by simp [hz]⟩
        simp only [List.mem_append] at hz
        rcases hz with hz | hz
        · exact Bl2 hf z hz
        · exact hs.rows z hz
      · cases h
    · cases h
  · split at h
    · rename_i hp'; cases h; obtain ⟨a, b, _⟩ := Apl hp' hs; exact ⟨a, b⟩
    · cases h
  · split at h
    · rename_i hp'; cases h; obtain ⟨a, b, _⟩ := Apl hp' hs; exact ⟨a, b⟩
    · cases h
  · split at h
    · split at h
      · rename_i hp'; cases h; obtain ⟨a, b, _⟩ := Apl hp' hs; exact ⟨a, b⟩
      · cases h
    · cases h
  · split at h
    · rename_i hp' _
      split at h
      · cases h; obtain ⟨a, b, _⟩ := Apl hp' hs; exact ⟨a, b⟩
      · cases h
    · cases h
  · split at h
    · rename_i hp'; cases h; obtain ⟨a, b, _⟩ := Apl hp' hs; exact ⟨a, b⟩
    · cases h
  all_goals first
    | (cases h; exact ⟨hs, Le.refl _⟩)
    | (split at h
       · cases h; exact ⟨hs, Le.refl _⟩
       · cases h)
    | cases h
theorem Bk8 {hp : Aak} : ∀ {ps : List A2h} {cs : List Ac3} {σ σ' : DSt} {v : Bcu ps}, Bcv hp ps cs σ = some (v, σ') → Anw hp σ → Anw hp σ' ∧ Le σ σ'
  | [], [], σ, σ', v, h, hs => by cases h; exact ⟨hs, Le.refl _⟩
  | [], _ :: _, _, _, _, h, _ => by cases h
  | _ :: _, [], _, _, _, h, _ => by cases h
  | p :: r, c :: cs, σ, σ', v, h, hs => by
    simp only [Bcv] at h
    split at h
    · rename_i h1
      split at h
      · rename_i h2
        cases h
        obtain ⟨a, b⟩ := Bzk h1 hs
        obtain ⟨c, d⟩ := Bk8 h2 a
        exact ⟨c, b.trans d⟩
      · cases h
    · cases h
theorem Cfk {hp : Aak} {p : A2i} {x : AV} {σ σ' : DSt} {v : p.den} (h : Bzd hp p x σ = some (v, σ')) (hs : Anw hp σ) : Anw hp σ' ∧ Le σ σ' := by
  unfold Bzd at h
  split at h
  · exact Bzk h hs
  · exact Bk8 h hs
  · cases h
theorem Bzl {hp : Aak} {id : Nat} {p : Aui} {σ σ' : DSt} {v : p.den} (h : Btm hp id p σ = some (v, σ')) (hs : Anw hp σ) : Anw hp σ' ∧ Le σ σ' := by
  unfold Btm at h
  split at h
  · split at h
    · split at h
      · split at h
        · exact Bk8 h hs
        · cases h
      · cases h
    · cases h
  · split at h
    · cases h; exact ⟨hs, Le.refl _⟩
    · split at h
      · split at h
        · split at h
          · cases h; exact ⟨hs, Le.refl _⟩
          · cases h
        · cases h
      · cases h
    · cases h
  · split at h
    · split at h
      · split at h
        · split at h
          · split at h
            · cases h; exact ⟨hs, Le.refl _⟩
            · cases h
          · cases h
        · cases h
      · cases h
    · cases h
theorem B2i {env : Env} {hp : Aak} : ∀ {ps : List (Nat × A2i)} {σ σ' : DSt} {x : Bdh ps}, Bwe env hp ps σ = some (x, σ') → Anw hp σ → Anw hp σ' ∧ Le σ σ' ∧
    ∀ s, A34 ps x s = .at .undef ∨ ∃ p v σa σb, Bzd hp p (env s) σa = some (v, σb) ∧ Anw hp σa ∧ Le σb σ' ∧ A34 ps x s = B90 p v
  | [], σ, σ', x, h, hs => by cases h; exact ⟨hs, Le.refl _, fun s => .inl rfl⟩
  | (t, p) :: r, σ, σ', x, h, hs => by
    simp only [Bwe] at h
    split at h
    · rename_i v σ1 h1
      split at h
      · rename_i w σ2 h2
        cases h
        obtain ⟨a, b⟩ := Cfk h1 hs
        obtain ⟨c, d, e⟩ := B2i h2 a
        refine ⟨c, b.trans d, fun s => ?_⟩
        simp only [A34]
        by_cases hst : s = t
        · subst hst
          rw [A6u]
          exact .inr ⟨p, v, σ, σ1, h1, hs, d, rfl⟩
        · rw [Ax8 hst]
          rcases e s with e | ⟨p', v', σa, σb, e1, e2, e3, e4⟩
          · exact .inl e
          · exact .inr ⟨p', v', σa, σb, e1, e2, e3, e4⟩
      · cases h
    · cases h
theorem B6d {hp : Aak} : ∀ {ps : List (Nat × Aui)} {σ σ' : DSt} {x : A8l ps}, B5i hp ps σ = some (x, σ') → Anw hp σ → Anw hp σ' ∧ Le σ σ' ∧
    (∀ id b, A1s ps x id = some b → ∃ p v σa σb, Btm hp id p σa = some (v, σb) ∧ Anw hp σa ∧ Le σb σ' ∧ b = B5w p v) ∧ ∀ id, id ∈ ps.map (·.1) → ∃ b, A1s ps x id = some b
  | [], σ, σ', x, h, hs => by cases h; exact ⟨hs, Le.refl _, (fun id b hb => by cases hb), (fun id h => by simp at h)⟩
  | (t, p) :: r, σ, σ', x, h, hs => by
    simp only [B5i] at h
    split at h
    · rename_i v σ1 h1
      split at h
      · rename_i w σ2 h2
        cases h
        obtain ⟨a, b⟩ := Bzl h1 hs
        obtain ⟨c, d, e, f⟩ := B6d h2 a
        refine ⟨c, b.trans d, fun id bl hbl => ?_, fun id hid => ?_⟩
        · simp only [A1s] at hbl
          by_cases hst : id = t
          · subst hst
            rw [A6u] at hbl
            cases hbl
            exact ⟨p, v, σ, σ1, h1, hs, d, rfl⟩
          · rw [Ax8 hst] at hbl
            exact e id bl hbl
        · simp only [A1s]
          by_cases hst : id = t
          · subst hst; rw [A6u]; exact ⟨_, rfl⟩
          · rw [Ax8 hst]
            simp only [List.map_cons, List.mem_cons, hst, false_or] at hid
            exact f id hid
      · cases h
    · cases h
theorem Boq : ∀ {ps : List A2h} {v : Bcu ps}, (Bk0 ps v).length = ps.length
  | [], _ => rfl
  | _ :: r, v => by simp [Bk0, Boq (ps := r)]
theorem Bor {hp : Aak} : ∀ {ps : List A2h} {cs : List Ac3} {σ σ' : DSt} {v : Bcu ps}, Bcv hp ps cs σ = some (v, σ') → cs.length = ps.length
  | [], [], _, _, _, _ => rfl
  | [], _ :: _, _, _, _, h => by cases h
  | _ :: _, [], _, _, _, h => by cases h
  | p :: r, c :: cs, σ, σ', v, h => by
    simp only [Bcv] at h
    split at h
    · split at h
      · rename_i h2; simp [Bor h2]
      · cases h
    · cases h
def B5m (hp hp' : Aak) (S : Src) : Prop := (∀ id, Afs S id = some none → ∃ E t, hp' id = some (.row E t 0 false [])) ∧
  ∀ id old, Afs S id = some (some old) → ∃ b b', hp old = some b ∧ hp' id = some b' ∧ match b, b' with
    | .cells T cs, .cells T' cs' => T = T' ∧ cs.length = cs'.length
    | .row E t _ fz xs, b' => fz = false ∧ b' = .row E t 0 false xs
    | .amap T kt et m, b' => b' = .amap T kt et m
    | _, _ => False
theorem Cdy {hp hp' : Aak} {σ : DSt} (hb : ∀ id b, hp' id = some b → ∃ p v σa σb, Btm hp id p σa = some (v, σb) ∧ Anw hp σa ∧ Le σb σ ∧ b = B5w p v)
    (hn : ∀ id o, Afs σ.src id = some o → ∃ b, hp' id = some b) : B5m hp hp' σ.src ∧ ∀ id b, hp' id = some b → ∃ o, Afs σ.src id = some o ∧ ((o = none ∧ ∃ E t, b = .row E t 0 false []) ∨ ∃ old, o = some old) := by
  have key : ∀ id b, hp' id = some b → (Afs σ.src id = some none ∧ ∃ E t, b = .row E t 0 false []) ∨ ∃ old b0, Afs σ.src id = some (some old) ∧ hp old = some b0 ∧ match b0, b with
    | .cells T cs, .cells T' cs' => T = T' ∧ cs.length = cs'.length
    | .row E t _ fz xs, b' => fz = false ∧ b' = .row E t 0 false xs
    | .amap T kt et m, b' => b' = .amap T kt et m
    | _, _ => False := by
    intro id b h
    obtain ⟨p, v, σa, σb, h1, hsa, h3, rfl⟩ := hb id b h
    have hle := (Bzl h1 hsa).2.trans h3
    unfold Btm at h1
    split at h1
    · split at h1
      · rename_i old hg
        split at h1
        · rename_i T' xs ho
          split at h1
          · rename_i e
            have e := Abk e; subst e
            refine .inr ⟨old, _, hle.src _ _ hg, ho, ?_⟩
            simp only [B5w]
            exact ⟨trivial, by rw [Boq, Bor h1]⟩
          · cases h1
        · cases h1
      · cases h1
    · split at h1
      · rename_i hg
        cases h1
        exact .inl ⟨hle.src _ _ hg, _, _, rfl⟩
      · rename_i old hg
        split at h1
        · rename_i E' t' ver xs ho
          split at h1
          · rename_i e _
            split at h1
            · rename_i et
              have e := Abk e; subst e
              subst et
              cases h1
              refine .inr ⟨old, _, hle.src _ _ hg, ho, ?_⟩
              exact ⟨rfl, rfl⟩
            · cases h1
          · cases h1
        · cases h1
      · cases h1
    · split at h1
      · rename_i old hg
        split at h1
        · rename_i T' kt' et' m ho
          split at h1
          · rename_i e
            split at h1
            · rename_i ek
              split at h1
              · rename_i ee
                have e := Abk e; subst e
                subst ek; subst ee
                cases h1
                exact .inr ⟨old, _, hle.src _ _ hg, ho, rfl⟩
              · cases h1
            · cases h1
          · cases h1
        · cases h1
      · cases h1
  refine ⟨⟨fun id hid => ?_, fun id old hid => ?_⟩, fun id b h => ?_⟩
  · obtain ⟨b, h⟩ := hn id _ hid
    rcases key id b h with ⟨_, E, t, rfl⟩ | ⟨old, b0, h1, _⟩
    · exact ⟨E, t, h⟩
    · rw [hid] at h1; cases h1
  · obtain ⟨b, h⟩ := hn id _ hid
    rcases key id b h with ⟨h1, _⟩ | ⟨old', b0, h1, h2, h3⟩
    · rw [hid] at h1; cases h1
    · rw [hid] at h1; cases h1
      exact ⟨b0, b, h2, h, h3⟩
  · rcases key id b h with ⟨h1, h2⟩ | ⟨old, b0, h1, _⟩
    · exact ⟨_, h1, .inl ⟨rfl, h2⟩⟩
    · exact ⟨_, h1, .inr ⟨old, rfl⟩⟩
end
end Go.AX
namespace Go.AX
noncomputable section
section
variable {F F' : Fz} {ρ ρ' : Rho} {hp hp' : Aak} {W : World} {S : DSt}
theorem B9s (hh : Acl F ρ hp W) (hF : ∀ b o, F b = some o → F' b = some o) (hl : ∀ id, id ∈ S.fz → ∀ k, k ∈ (ρ id).bs → F' k = W.heap[k]?)
    (hN : B5m hp hp' S.src) (hρn : ∀ id, Afs S.src id = some none → ρ' id = ⟨[], 0⟩) (hρs : ∀ id old, Afs S.src id = some (some old) → ρ' id = ρ old)
    {p : A2h} {c : Ac3} {σ σ' : DSt} {v : p.den} {r : Value} (h : Bzc hp p c σ = some (v, σ')) (hs : Anw hp σ) (hle : Le σ' S) (hr : Ab2 F ρ hp c r) : Ab2 F' ρ' hp' (Boa p v) r := by
  unfold Bzc at h
  split at h
  · split at h
    · rename_i x y l hf
      split at h
      · rename_i w hg
        cases h
        have := Apu.frz_ok hh (fun _ _ h => h) hf hr F' hF (fun id hid => hl id (hle.fz id (by simp [hid])))
        exact Apu.get_ok hg this
      · cases h
    · cases h
  · split at h
    · rename_i hp'
      cases h
      obtain ⟨_, _, hg⟩ := Apl hp' hs
      have hg := hle.src _ _ hg
      obtain ⟨E, t, hb⟩ := hN.1 _ hg
      simp only [Ab2, RA] at hr
      simp only [Boa, Ab2, RA]
      refine ⟨_, hb, Nat.le_refl _, none, 0, 0, hr, fun _ => ?_⟩
      simp [hρn _ hg]
    · cases h
  · split at h
    · rename_i hp'
      cases h
      obtain ⟨_, _, hg⟩ := Apl hp' hs
      have hg := hle.src _ _ hg
      obtain ⟨E, t, hb⟩ := hN.1 _ hg
      simp only [Ab2, RA] at hr
      obtain ⟨A, hr⟩ := hr
      simp only [Boa, Ab2, RA]
      refine ⟨_, hb, Nat.le_refl _, A, 0, 0, hr, fun _ => ?_⟩
      simp [hρn _ hg]
    · cases h
  · split at h
    · rename_i b hb
      split at h
      · rename_i hv hp'
        cases h
        have hv := Abk hv
        subst hv
        obtain ⟨_, _, hg⟩ := Apl hp' hs
        have hg := hle.src _ _ hg
        obtain ⟨b0, b', h1, h2, h3⟩ := hN.2 _ _ hg
        rw [hb] at h1; cases h1
        simp only [Ab2, RA] at hr
        obtain ⟨b1, e1, _, A, l, c, rfl, hc⟩ := hr
        rw [hb] at e1; cases e1
        replace hc := hc rfl
        cases b <;> simp only at hc
        simp only at h3
        obtain ⟨rfl, rfl⟩ := h3
        simp only [Boa, Ab2, RA]
        refine ⟨_, h2, Nat.le_refl _, A, l, c, rfl, fun _ => ?_⟩
        simp only [hρs _ _ hg]
        exact hc
      · cases h
    · cases h
  · split at h
    · rename_i hv hi hf hp' hb
      split at h
      · rename_i hbv
        cases h
        have hv := Abk hv; have hi := Abk hi; have hf := Abk hf; have hbv := Abk hbv
        subst hv; subst hi; subst hf
        obtain ⟨_, _, hg⟩ := Apl hp' hs
        have hg := hle.src _ _ hg
        obtain ⟨b0, b', h1, h2, h3⟩ := hN.2 _ _ hg
        rw [hb] at h1; cases h1
        simp only [Ab2, RA] at hr
        obtain ⟨b1, e1, _, ad, rfl, hc⟩ := hr
        rw [hb] at e1; cases e1
        replace hc := hc hbv
        simp only [Boa, Ab2, RA]
        rename_i bq _ hbq _ _ _ _
        clear hb hbv hbq
        cases bq <;> simp only at hc
        · cases b' <;> simp only at h3
          refine ⟨_, h2, Nat.le_refl _, ad, rfl, fun _ => ?_⟩
          simp only [hρs _ _ hg]
          exact hc
        · simp only at h3
          obtain ⟨rfl, rfl⟩ := h3
          refine ⟨_, h2, Nat.le_refl _, ad, rfl, fun _ => ?_⟩
          simp only [hρs _ _ hg]
          exact hc
      · cases h
    · cases h
  · split at h
    · rename_i hp'
      cases h
      obtain ⟨_, _, hg⟩ := Apl hp' hs
      have hg := hle.src _ _ hg
      obtain ⟨b0, b', h1, h2, h3⟩ := hN.2 _ _ hg
      simp only [Ab2, RA] at hr
      obtain ⟨T, kt, et, m, bb, e1, e2, rfl⟩ := hr
      rw [e1] at h1; cases h1
      simp only at h3
      subst h3
      exact ⟨T, kt, et, m, bb, h2, by rw [hρs _ _ hg]; exact e2, rfl⟩
    · cases h
  all_goals first
    | (cases h; exact hr)
    | (split at h
       · rename_i e
         cases h
         have e := Abk e
         subst e
         obtain ⟨cs, rfl, h2⟩ := hr
         have := h2.nil_left
         exact ⟨cs, rfl, by rw [this]; trivial⟩
       · cases h)
    | (cases h; exact trivial)
    | cases h
theorem Btt (hh : Acl F ρ hp W) (hF : ∀ b o, F b = some o → F' b = some o) (hl : ∀ id, id ∈ S.fz → ∀ k, k ∈ (ρ id).bs → F' k = W.heap[k]?)
    (hN : B5m hp hp' S.src) (hρn : ∀ id, Afs S.src id = some none → ρ' id = ⟨[], 0⟩) (hρs : ∀ id old, Afs S.src id = some (some old) → ρ' id = ρ old) :
    ∀ {ps : List A2h} {cs : List Ac3} {σ σ' : DSt} {v : Bcu ps} {rs : List Value}, Bcv hp ps cs σ = some (v, σ') → Anw hp σ → Le σ' S → Acv (Ab2 F ρ hp) cs rs → Acv (Ab2 F' ρ' hp') (Bk0 ps v) rs
  | [], [], _, _, _, rs, _, _, _, hr => by have := hr.nil_left; subst this; trivial
  | [], _ :: _, _, _, _, _, h, _, _, _ => by cases h
  | _ :: _, [], _, _, _, _, h, _, _, _ => by cases h
  | p :: r, c :: cs, σ, σ', v, rs, h, hs, hle, hr => by
    simp only [Bcv] at h
    split at h
    · rename_i h1
      split at h
      · rename_i h2
        cases h
        obtain ⟨b, rs', rfl, hr1, hr2⟩ := hr.cons_left
        obtain ⟨a, _⟩ := Bzk h1 hs
        obtain ⟨_, d⟩ := Bk8 h2 a
        exact ⟨B9s hh hF hl hN hρn hρs h1 hs (d.trans hle) hr1, Btt hh hF hl hN hρn hρs h2 a hle hr2⟩
      · cases h
    · cases h
theorem Cfl (hh : Acl F ρ hp W) (hF : ∀ b o, F b = some o → F' b = some o) (hl : ∀ id, id ∈ S.fz → ∀ k, k ∈ (ρ id).bs → F' k = W.heap[k]?)
    (hN : B5m hp hp' S.src) (hρn : ∀ id, Afs S.src id = some none → ρ' id = ⟨[], 0⟩) (hρs : ∀ id old, Afs S.src id = some (some old) → ρ' id = ρ old)
    {p : A2i} {x : AV} {σ σ' : DSt} {v : p.den} {r : Value} (h : Bzd hp p x σ = some (v, σ')) (hs : Anw hp σ) (hle : Le σ' S) (hr : RV F ρ hp x r) : RV F' ρ' hp' (B90 p v) r := by
  unfold Bzd at h
  split at h
  · exact B9s hh hF hl hN hρn hρs h hs hle hr
  · obtain ⟨rs, rfl, h2⟩ := hr
    exact ⟨rs, rfl, Btt hh hF hl hN hρn hρs h hs hle h2⟩
  · cases h
end
theorem Cfm {n : Nat} {g : List Bool} {p : Aac} {st : ASt} {x : p.den} (h : Cdx p st = some x) {F : Fz} {ρ : Rho} {a : Act} {W : World} (hi : An6 n F ρ st a W) :
    Ai2 n g F ρ st.hp a W (Aab p x) a W := by
  unfold Cdx at h
  split at h
  case h_2 => cases h
  rename_i x' hdec
  split at h
  case h_2 => cases h
  rename_i himp
  cases h
  unfold Cdq at hdec
  split at hdec
  case h_2 => cases hdec
  rename_i xe σ1 h1
  split at hdec
  case h_2 => cases hdec
  rename_i xh σ2 h2
  split at hdec
  case h_2 => cases hdec
  rename_i hn
  cases hdec
  have himps : ∀ (l : List (Nat × Aui)) i o, Afs (Bc9 l) i = some o → o = some i := by
    intro l
    induction l with
    | nil => intro i o h; cases h
    | cons q r ih =>
      obtain ⟨id, b⟩ := q
      intro i o h
      simp only [Bc9] at h
      split at h
      · exact ih i o h
      · rw [Anx] at h
        split at h
        · rename_i e; cases h; rw [e]
        · exact ih i o h
  have s0 : Anw st.hp ⟨Bc9 p.hp, []⟩ := ⟨fun i j o h k => (by have a := himps _ _ _ h; have b := himps _ _ _ k; cases a; cases b; rfl), fun i o _ h => himps _ _ _ h, fun z hz => (by simp at hz)⟩
  obtain ⟨d1, l1, e1⟩ := B2i h1 s0
  obtain ⟨d2, l2, e2, e3⟩ := B6d h2 d1
  simp only [B9k, Bool.and_eq_true, List.all_eq_true] at hn
  obtain ⟨⟨n1, n2⟩, n3⟩ := hn
  have hh := hi.heap
  let hp' : Aak := A1s p.hp xh
  have nm : ∀ id o, Afs σ2.src id = some o → ∃ b, hp' id = some b := fun id o h => e3 id (Aj0.1 (n1 _ (Bcz h)))
  obtain ⟨hN, hN'⟩ := Cdy e2 nm
  have notfz : ∀ id old, Afs σ2.src id = some (some old) → old ∉ σ2.fz := by
    intro id old h hm
    have := n2 _ (Bcz h)
    simp only [Aj0.2 hm, Bool.not_true, Bool.false_eq_true] at this
  let ρ' : Rho := fun id => match Afs σ2.src id with | some (some old) => ρ old | _ => ⟨[], 0⟩
  have hρs : ∀ id old, Afs σ2.src id = some (some old) → ρ' id = ρ old := fun id old h => by simp only [ρ', h]
  have hρn : ∀ id, Afs σ2.src id = some none → ρ' id = ⟨[], 0⟩ := fun id h => by simp only [ρ', h]
  let F' : Fz := fun k => if ∃ id, id ∈ σ2.fz ∧ k ∈ (ρ id).bs then W.heap[k]? else F k
  have hF : ∀ b o, F b = some o → F' b = some o := by
    intro b o h
    simp only [F']
    split
    · exact hh.fz b o h
    · exact h
  have hl : ∀ id, id ∈ σ2.fz → ∀ k, k ∈ (ρ id).bs → F' k = W.heap[k]? := fun id hid k hk => if_pos ⟨id, hid, hk⟩
  have back : ∀ {id b k}, hp' id = some b → k ∈ (ρ' id).bs → ∃ old b0, Afs σ2.src id = some (some old) ∧ st.hp old = some b0 ∧ b0.fz = false ∧ k ∈ (ρ old).bs := by
    intro id b k hb hk
    obtain ⟨o, h1, h2⟩ := hN' id b hb
    rcases h2 with ⟨rfl, _⟩ | ⟨old, rfl⟩
    · rw [hρn id h1] at hk; simp at hk
    · rw [hρs id old h1] at hk
      obtain ⟨b0, b', k1, k2, k3⟩ := hN.2 id old h1
      refine ⟨old, b0, h1, k1, ?_, hk⟩
      cases b0 with
      | cells => rfl
      | amap => rfl
      | row E t v fz xs => exact k3.1
  refine ⟨rfl, F', ρ', ⟨hi.size, fun s => ?_, ⟨?_, ?_, ?_, ?_⟩⟩, ⟨rfl, rfl, rfl, Nat.le_refl _, fun _ _ _ => rfl, ?_, hF, ?_, ?_⟩⟩
  · show RV F' ρ' hp' (A34 p.env xe s) _
    rcases e1 s with e | ⟨q, v, σa, σb, k1, k2, k3, k4⟩
    · rw [e]; exact RV.undef
    · rw [k4]
      exact Cfl hh hF hl hN hρn hρs k1 k2 (k3.trans l2) (hi.env s)
  · intro id b hb
    obtain ⟨q, v, σa, σb, k1, k2, k3, rfl⟩ := e2 id b hb
    have hle := (Bzl k1 k2).2.trans k3
    have k1' := k1
    unfold Btm at k1
    split at k1
    · split at k1
      · rename_i old hg
        split at k1
        · rename_i T' xs ho
          split at k1
          · rename_i e
            have e := Abk e; subst e
            obtain ⟨bb, rs, fr, j1, j2, j3, j4⟩ := hh.blocks _ _ ho
            exact ⟨bb, rs, fr, by rw [hρs _ _ (hle.src _ _ hg)]; exact j1, j2, j3, Btt hh hF hl hN hρn hρs k1 k2 k3 j4⟩
          · cases k1
        · cases k1
      · cases k1
    · split at k1
      · rename_i hg
        cases k1
        exact .inl ⟨by rw [hρn _ (hle.src _ _ hg)], rfl, by rw [hρn _ (hle.src _ _ hg)]⟩
      · rename_i old hg
        split at k1
        · rename_i E' t' ver xs ho
          split at k1
          · split at k1
            · rename_i e _ et
              have e := Abk e; subst e
              subst et
              cases k1
              have er := hρs _ _ (hle.src _ _ hg)
              rcases hh.blocks _ _ ho with ⟨j1, j2, j3⟩ | ⟨bb, rs, fr, j1, j2, j3, j4, j5, j6, j7⟩
              · exact .inl ⟨by rw [er]; exact j1, j2, by rw [er]; exact j3⟩
              · exact .inr ⟨bb, rs, fr, by rw [er]; exact j1, j2, j3, by rw [er]; exact j4, by rw [er]; exact j5, fun i hi => (j6 i hi).mono hF, fun h => by cases h⟩
            · cases k1
          · cases k1
        · cases k1
      · cases k1
    · split at k1
      · rename_i old hg
        split at k1
        · rename_i T' kt' et' m ho
          split at k1
          · split at k1
            · split at k1
              · rename_i e ek ee
                have e := Abk e; subst e
                subst ek; subst ee
                cases k1
                obtain ⟨bb, es, clk, j1, j2, j3⟩ := hh.blocks _ _ ho
                exact ⟨bb, es, clk, by rw [hρs _ _ (hle.src _ _ hg)]; exact j1, j2, j3.mono fun _ _ ⟨p, q⟩ => ⟨p.mono hF, q.mono hF⟩⟩
              · cases k1
            · cases k1
          · cases k1
        · cases k1
      · cases k1
  · intro i j x y k hx hy hki hkj
    obtain ⟨oi, bi, a1, a2, a3, a4⟩ := back hx hki
    obtain ⟨oj, bj, b1, b2, b3, b4⟩ := back hy hkj
    have := hh.inj oi oj bi bj k a2 b2 a4 b4
    subst this
    exact d2.inj i j oi a1 b1
  · intro b o h
    simp only [F'] at h
    split at h
    · exact h
    · exact hh.fz b o h
  · rintro k ⟨id, b, hb, _, hk⟩
    obtain ⟨old, b0, a1, a2, a3, a4⟩ := back hb hk
    simp only [F']
    rw [if_neg]
    · exact hh.apart k ⟨old, b0, a2, a3, a4⟩
    · rintro ⟨z, hz, hkz⟩
      obtain ⟨E, t, ver, fz, xs, hrow⟩ := d2.rows z hz
      have := hh.inj old z b0 _ k a2 hrow a4 hkz
      subst this
      exact notfz _ _ a1 hz
  · rintro k ⟨id, b, hb, _, hk⟩
    obtain ⟨old, b0, a1, a2, a3, a4⟩ := back hb hk
    exact .inl ⟨old, b0, a2, a3, a4⟩
  · intro k hk
    simp only [F'] at hk
    split at hk
    · rename_i hz
      obtain ⟨z, hz, hkz⟩ := hz
      obtain ⟨E, t, ver, fz, xs, hrow⟩ := d2.rows z hz
      cases fz with
      | false => exact .inr (.inl ⟨z, _, hrow, rfl, hkz⟩)
      | true =>
        left
        rcases hh.blocks z _ hrow with ⟨j1, _⟩ | ⟨bb, rs, fr, j1, j2, _, _, _, _, j7⟩
        · rw [j1] at hkz; simp at hkz
        · rw [j1] at hkz; simp at hkz; subst hkz
          rw [j7 rfl]; simp
    · exact .inl hk
  · intro id hlt blk hblk
    have hm : id ∈ p.hp.map (·.1) := by
      have := List.all_eq_true.1 himp id (List.mem_range.2 hlt)
      rw [hblk] at this
      exact Aj0.1 this
    obtain ⟨b, hb⟩ := e3 id hm
    obtain ⟨o, h1, h2⟩ := hN' id b hb
    have := d2.low id o hlt h1
    subst this
    obtain ⟨b0, b', k1, k2, k3⟩ := hN.2 id id h1
    rw [hblk] at k1; cases k1
    refine ⟨b', k2, ?_⟩
    rw [hρs id id h1]
    cases blk with
    | cells T cs =>
      cases b' with
      | cells T' cs' => exact ⟨k3.1, k3.2, rfl⟩
      | row => exact k3.elim
      | amap => exact k3.elim
    | row E t v fz xs =>
      obtain ⟨rfl, rfl⟩ := k3
      exact ⟨rfl, rfl, rfl, fun _ => ⟨rfl, rfl⟩⟩
    | amap T kt et m =>
      have : b' = .amap T kt et m := k3
      subst this
      exact ⟨rfl, rfl, rfl, rfl⟩
def Bdp (E : TypeId) (t : Ty) (f : Awq) : Aau → Awq
  | .cells T cs => match B5l E t T cs with
    | some xs => ⟨f.bs, xs.length⟩
    | none => f
  | _ => f
theorem Cac (E : TypeId) (t : Ty) (f : Awq) (b : Aau) : (Bwt E t b = b ∧ Bdp E t f b = f) ∨
    ∃ T cs xs n, b = .cells T cs ∧ A8k t n cs = some xs ∧ 2 ≤ n ∧ Bwt E t b = .row T t 0 false xs ∧ Bdp E t f b = ⟨f.bs, xs.length⟩ := by
  cases b with
  | row => exact .inl ⟨rfl, rfl⟩
  | amap => exact .inl ⟨rfl, rfl⟩
  | cells T cs =>
    simp only [Bwt, Bdp]
    cases h : B5l E t T cs with
    | none => exact .inl ⟨rfl, rfl⟩
    | some xs =>
      right
      unfold B5l at h
      split at h
      · rename_i hc
        simp only [Bool.and_eq_true] at hc
        exact ⟨T, cs, xs, _, rfl, h, Nat.le_of_ble_eq_true hc.2, rfl, rfl⟩
      · cases h
theorem Cfn {n : Nat} {g : List Bool} {E : TypeId} {t : Ty} {st : ASt} {F : Fz} {ρ : Rho} {a : Act} {W : World} (hi : An6 n F ρ st a W) :
    Ai2 n g F ρ st.hp a W ⟨st.env, A1h E t st.hp⟩ a W := by
  let ρ' : Rho := fun i => match Nat.ble 32 i, st.hp i with
    | true, some b => Bdp E t (ρ i) b
    | _, _ => ρ i
  have hh := hi.heap
  have key : ∀ i b, st.hp i = some b → ∃ b', A1h E t st.hp i = some b' ∧ ((b' = b ∧ ρ' i = ρ i) ∨ (32 ≤ i ∧ ∃ T cs xs n, b = .cells T cs ∧ A8k t n cs = some xs ∧ 2 ≤ n ∧ b' = .row T t 0 false xs ∧ ρ' i = ⟨(ρ i).bs, xs.length⟩)) := by
    intro i b hb
    cases hlt : Nat.ble 32 i with
    | false => exact ⟨b, by simp only [A1h, hlt]; exact hb, .inl ⟨rfl, by simp only [ρ', hlt]⟩⟩
    | true =>
      refine ⟨Bwt E t b, by simp only [A1h, hlt, hb], ?_⟩
      have hr : ρ' i = Bdp E t (ρ i) b := by simp only [ρ', hlt, hb]
      rw [hr]
      rcases Cac E t (ρ i) b with ⟨h1, h2⟩ | ⟨T, cs, xs, n, h1, h2, h3, h4, h5⟩
      · exact .inl ⟨h1, h2⟩
      · exact .inr ⟨Nat.le_of_ble_eq_true hlt, T, cs, xs, n, h1, h2, h3, h4, h5⟩
  have back : ∀ i b', A1h E t st.hp i = some b' → ∃ b, st.hp i = some b := by
    intro i b' h
    simp only [A1h] at h
    split at h
    · split at h
      · rename_i b hb; exact ⟨b, hb⟩
      · cases h
    · exact ⟨b', h⟩
  have bsame : ∀ i, (ρ' i).bs = (ρ i).bs := by
    intro i
    cases hb : st.hp i with
    | none =>
      have : ρ' i = ρ i := by
        simp only [ρ', hb]
        split
        · rename_i h; cases h
        · rfl
      rw [this]
    | some b =>
      obtain ⟨b', _, h | ⟨_, _, _, _, _, _, _, _, _, h⟩⟩ := key i b hb
      · rw [h.2]
      · rw [h]
  have hlen : ∀ {cs : List Ac3} {xs : List t.den} {n : Nat} {rs : List Value}, A8k t n cs = some xs → Acv (Ab2 F ρ st.hp) cs rs → xs.length = n := fun h k => (Bdk h k).1
  have keep : ∀ i x, st.hp i = some x → ∃ y, A1h E t st.hp i = some y ∧ Ao8 (ρ i) x (ρ' i) y := by
    intro i x hx
    obtain ⟨b', hb', h | ⟨_, T, cs, xs, n, rfl, h2, h3, h4, h5⟩⟩ := key i x hx
    · refine ⟨b', hb', ?_⟩
      rw [h.1, h.2]; exact Ao8.refl _ _
    · refine ⟨b', hb', ?_⟩
      subst h4
      obtain ⟨_, rs, _, _, _, _, h6⟩ := hh.blocks i _ hx
      have := hlen h2 h6
      exact ⟨Nat.le_refl _, fun h => (by cases h), fun _ => ⟨by rw [h5], by omega⟩⟩
  have fzsame : ∀ i b b', st.hp i = some b → A1h E t st.hp i = some b' → b'.fz = b.fz := by
    intro i b b' hb hb'
    obtain ⟨b2, h1, h | ⟨_, T, cs, xs, n, rfl, _, _, h4, _⟩⟩ := key i b hb
    · rw [h1] at hb'; cases hb'; rw [h.1]
    · rw [h1] at hb'; cases hb'; rw [h4]; rfl
  refine ⟨rfl, F, ρ', ⟨hi.size, fun s => RV.mono (fun _ _ h => h) keep (hi.env s), ⟨?_, ?_, hh.fz, ?_⟩⟩, ⟨rfl, rfl, rfl, Nat.le_refl _, fun _ _ _ => rfl, ?_, fun _ _ h => h, fun _ h => .inl h, ?_⟩⟩
  · intro i b' hb'
    replace hb' : A1h E t st.hp i = some b' := hb'
    obtain ⟨b, hb⟩ := back i b' hb'
    obtain ⟨b2, h1, h | ⟨_, T, cs, xs, n, rfl, h2, h3, h4, h5⟩⟩ := key i b hb
    · rw [h1] at hb'; cases hb'
      rw [h.1]
      exact BR.mono (fun _ _ h => h) keep h.2 (fun _ _ => rfl) (hh.blocks i b hb)
    · rw [h1] at hb'; cases hb'
      subst h4
      obtain ⟨bb, rs, fr, j1, j2, j3, j4⟩ := hh.blocks i _ hb
      obtain ⟨k1, k2, k3⟩ := Bdk h2 j4
      refine .inr ⟨bb, rs, fr, by rw [h5]; exact j1, j2, j3, ?_, by rw [h5]; exact Nat.le_refl _, fun j hj => ?_, fun h => by cases h⟩
      · rw [h5]
        show rs.size = xs.length * t.size
        rw [k1]
        simpa using k2
      · have := k3 j (by omega)
        simpa [Ae9] using this
  · intro i j x y k hx hy hki hkj
    obtain ⟨bx, hbx⟩ := back i x hx
    obtain ⟨by_, hby⟩ := back j y hy
    rw [bsame] at hki hkj
    exact hh.inj i j bx by_ k hbx hby hki hkj
  · rintro k ⟨i, b', hb', hz, hk⟩
    obtain ⟨b, hb⟩ := back i b' hb'
    rw [bsame] at hk
    exact hh.apart k ⟨i, b, hb, by rw [← fzsame i b b' hb hb']; exact hz, hk⟩
  · rintro k ⟨i, b', hb', hz, hk⟩
    obtain ⟨b, hb⟩ := back i b' hb'
    rw [bsame] at hk
    exact .inl ⟨i, b, hb, by rw [← fzsame i b b' hb hb']; exact hz, hk⟩
  · intro i hlt blk hblk
    obtain ⟨b2, h1, h | ⟨hge, _⟩⟩ := key i blk hblk
    · refine ⟨b2, h1, ?_⟩
      rw [h.1, h.2]; exact Evo.refl _ _ _
    · omega
theorem Bdq {n : Nat} {g : List Bool} {a : Act} {W : World} : ∀ {l : List (Nat × Aui)} {st : ASt} {F : Fz} {ρ : Rho}, An6 n F ρ st a W → Ai2 n g F ρ st.hp a W (Bq4 l st) a W
  | [], st, F, ρ, hi => ⟨rfl, F, ρ, hi, Ext.refl _ _ _ _ _⟩
  | (id, .row E t) :: r, st, F, ρ, hi => by
    simp only [Bq4]
    split
    · obtain ⟨h0, F1, ρ1, h1, h2⟩ := Cfn (g := g) (E := E) (t := t) hi
      obtain ⟨k0, F2, ρ2, k1, k2⟩ := Bdq (g := g) (l := r) h1
      exact ⟨k0.trans h0, F2, ρ2, k1, h2.trans k2⟩
    · exact Bdq hi
  | (id, .cells _ _) :: r, st, F, ρ, hi => Bdq (l := r) hi
  | (id, .amap _ _ _) :: r, st, F, ρ, hi => Bdq (l := r) hi
theorem Aye {n : Nat} {g : List Bool} {p : Aac} {st : ASt} {x : p.den} (h : dec p st = some x) {F : Fz} {ρ : Rho} {a : Act} {W : World} (hi : An6 n F ρ st a W) :
    Ai2 n g F ρ st.hp a W (Aab p x) a W := by
  obtain ⟨h0, F1, ρ1, h1, h2⟩ := Bdq (g := g) (l := p.hp) hi
  obtain ⟨k0, F2, ρ2, k1, k2⟩ := Cfm (g := g) h h1
  exact ⟨k0.trans h0, F2, ρ2, k1, h2.trans k2⟩
end
end Go.AX
namespace Go.AX
noncomputable section
def B6e {R : Type} (K : Ex → ASt → Option R) : Acj → Ex → ASt → Option R
  | .nil, _, _ => none
  | .cons e p r, e', st => match B91 e e' with
    | true => match dec p st with
      | some y => K e' (Aab p y)
      | none => none
    | false => B6e K r e' st
theorem Bq5 {R : Type} {K : Ex → ASt → Option R} : ∀ {outs : Acj} {e : Ex} {st : ASt} {r : R}, B6e K outs e st = some r → ∃ p y, dec p st = some y ∧ K e (Aab p y) = some r
  | .nil, _, _, _, h => by cases h
  | .cons e p o, e', st, r, h => by
    simp only [B6e] at h
    split at h
    · split at h
      · rename_i y hy; exact ⟨p, y, hy, h⟩
      · cases h
    · exact Bq5 h
abbrev Aap (p : Aac) := (R : Type) → p.den → (Ex → ASt → Option R) → Option R
def Aaa (p : Aac) (G : Aap p) : Acn := fun R st K => match dec p st with
  | some x => G R x K
  | none => none
theorem Bgl {P : Program} {n : Nat} {g : List Bool} {c : Code} {p : Aac} {G : Aap p} (h : ∀ R x K r, G R x K = some r → ∃ e st', K e st' = some r ∧ Bq3 P n g c (Aab p x) e st') : Aax P n g c (Aaa p G) := by
  intro R st K r hF
  unfold Aaa at hF
  split at hF
  case h_2 => cases hF
  rename_i x hx
  obtain ⟨e, st', h1, h2⟩ := h R x K r hF
  refine ⟨e, st', h1, fun F ρ hp a0 W0 a W hl => ?_⟩
  exact h2 F ρ hp a0 W0 a W (Ai2.trans hl fun F1 ρ1 hs => Aye hx hs)
theorem Bq3.out {P : Program} {n : Nat} {g : List Bool} {c : Code} {st st1 : ASt} {e : Ex} {p : Aac} {y : p.den} (h : Bq3 P n g c st e st1) (hy : dec p st1 = some y) : Bq3 P n g c st e (Aab p y) := by
  intro F ρ hp a0 W0 a W hl
  refine wp_mono (h F ρ hp a0 W0 a W hl) ?_
  rintro x a' W' ⟨rfl, hl'⟩
  · exact ⟨rfl, Ai2.trans hl' fun F1 ρ1 hs => Aye hy hs⟩
section
variable {P : Program} {tt : TT} {Γ : FuncId → Option Aai} {g : List Bool} {n : Nat} {Λ : Nat → Option Acn} {dom : Nat → Bool}
theorem Cjd (hm : P.follows .mixedOrders = true) (htt : Aib P tt) (hΓ : Ama P tt Γ) (hdom : ∀ k, (Λ k).isSome = dom k) {c : Code} (hd : An7 dom n c = true) (hc : ∀ p, p ∈ Ahh dom c → ∀ F, Λ p.1 = some F → Aax P n g p.2 F)
    {p : Aac} {G : Aap p} (outs : Acj) (h : ∀ (R : Type) x K, Aao tt Γ g Λ c (Aab p x) (B6e (R := R) K outs) = G R x K) : Aax P n g c (Aaa p G) := by
  refine Bgl fun R x K r hG => ?_
  rw [← h] at hG
  obtain ⟨e, st1, h1, h2⟩ := Ayd hm htt hΓ hdom c hd hc R _ _ r hG
  obtain ⟨q, y, h3, h4⟩ := Bq5 h1
  exact ⟨e, Aab q y, h4, h2.out h3⟩
def B5n {R : Type} (p : Aac) (next : p.den → Option R) (K : Ex → ASt → Option R) (outs : Acj) : Ex → ASt → Option R
  | .normal, st => match dec p st with
    | some y => next y
    | none => none
  | e, st => B6e K outs e st
def Bdr (P : Program) (c : Code) (Q : Exit → Act → World → Prop) (a : Act) (w : World) : Prop :=
  ∀ (b : Frame) (k : List Item) (cs : List Frame), ∃ e a' w', Q e a' w' ∧ Arrives P (lone (b.at a (.code c :: .inLoop c :: k)) cs w) b k cs e a' w'
theorem Bdr.loop {c : Code} {Q : Exit → Act → World → Prop} {a : Act} {w : World} (h : Bdr P c Q a w) : (Code.loop c).wp P Q a w := by
  intro b k cs
  obtain ⟨e, a', w', hq, harr⟩ := h b k cs
  exact ⟨e, a', w', hq, .of_steps (.one step_loop) harr⟩
theorem Bdr.round {c : Code} {Q : Exit → Act → World → Prop} {a : Act} {w : World} (h : c.wp P (Exit.then (Bdr P c Q) Q) a w) : Bdr P c Q a w := by
  intro b k cs
  obtain ⟨e, a₁, w₁, hq, harr⟩ := h b (.inLoop c :: k) cs
  cases e with
  | normal =>
    obtain ⟨e₂, a₂, w₂, hq₂, harr₂⟩ := hq b k cs
    exact ⟨e₂, a₂, w₂, hq₂, .of_steps (Steps.trans harr (.one step_inLoop)) harr₂⟩
  | exit id => exact ⟨_, a₁, w₁, hq, .pass (x := .inLoop c) rfl (fun _ _ => .inl (by simp)) harr⟩
  | goto l => exact ⟨_, a₁, w₁, hq, .pass (x := .inLoop c) rfl (fun _ _ => .inl (by simp)) harr⟩
  | ret => exact ⟨_, a₁, w₁, hq, .pass (x := .inLoop c) rfl (fun _ _ => .inl (by simp)) harr⟩
  | panic ch => exact ⟨_, a₁, w₁, hq, .pass (x := .inLoop c) rfl (fun _ _ => .inl (by simp)) harr⟩
  | outgrown => exact ⟨_, a₁, w₁, hq, .pass (x := .inLoop c) rfl (fun _ _ => .inl (by simp)) harr⟩
theorem Ci8 (hm : P.follows .mixedOrders = true) (htt : Aib P tt) (hΓ : Ama P tt Γ) (hdom : ∀ k, (Λ k).isSome = dom k) {c : Code} (hd : An7 dom n c = true) (hc : ∀ p, p ∈ Ahh dom c → ∀ F, Λ p.1 = some F → Aax P n g p.2 F)
    {p : Aac} {G : Nat → Aap p} (outs : Acj) (h0 : ∀ R x K, G 0 R x K = none) (h : ∀ (R : Type) k x K, Aao tt Γ g Λ c (Aab p x) (B5n (R := R) p (fun y => G k R y K) K outs) = G (k + 1) R x K) (N : Nat) :
    Aax P n g (.loop c) (Aaa p (G N)) := by
  refine Bgl fun R x K r hG => ?_
  have key : ∀ k x, G k R x K = some r → ∃ e st', K e st' = some r ∧ ∀ F ρ hp a0 W0 a W, Ai2 n g F ρ hp a0 W0 (Aab p x) a W → Bdr P c (Bk6 n g F ρ hp a0 W0 e st') a W := by
    intro k
    induction k with
    | zero => intro x hG; rw [h0] at hG; cases hG
    | succ k ih =>
      intro x hG
      rw [← h] at hG
      obtain ⟨e, st1, h1, h2⟩ := Ayd hm htt hΓ hdom c hd hc R _ _ r hG
      cases e with
      | normal =>
        simp only [B5n] at h1
        split at h1
        case h_2 => cases h1
        rename_i y hy
        obtain ⟨e, st', k1, k2⟩ := ih y h1
        refine ⟨e, st', k1, fun F ρ hp a0 W0 a W hl => Bdr.round (wp_mono (h2 F ρ hp a0 W0 a W hl) ?_)⟩
        rintro x' a' W' ⟨rfl, hl'⟩
        · exact k2 F ρ hp a0 W0 a' W' (Ai2.trans hl' fun F1 ρ1 hs => Aye hy hs)
      | exit id =>
        simp only [B5n] at h1
        obtain ⟨q, y, h3, h4⟩ := Bq5 h1
        refine ⟨.exit id, Aab q y, h4, fun F ρ hp a0 W0 a W hl => Bdr.round (wp_mono ((h2.out h3) F ρ hp a0 W0 a W hl) ?_)⟩
        rintro x' a' W' ⟨rfl, hl'⟩
        · exact ⟨rfl, hl'⟩
      | ret =>
        simp only [B5n] at h1
        obtain ⟨q, y, h3, h4⟩ := Bq5 h1
        refine ⟨.ret, Aab q y, h4, fun F ρ hp a0 W0 a W hl => Bdr.round (wp_mono ((h2.out h3) F ρ hp a0 W0 a W hl) ?_)⟩
        rintro x' a' W' ⟨rfl, hl'⟩
        · exact ⟨rfl, hl'⟩
  obtain ⟨e, st', h1, h2⟩ := key N x hG
  exact ⟨e, st', h1, fun F ρ hp a0 W0 a W hl => (h2 F ρ hp a0 W0 a W hl).loop⟩
end
def Cet : (p : A2i) → p.den → V1
  | .one c, v => .one (Boa c v)
  | .agg cs, v => .agg (Bk0 cs v)
def Apw : (ps : List (Nat × A2i)) → Bdh ps → List V1
  | [], _ => []
  | (_, p) :: r, v => Cet p v.1 :: Apw r v.2
def Alj : (ps : List (Nat × Aui)) → A8l ps → List Aau
  | [], _ => []
  | (_, p) :: r, v => B5w p v.1 :: Alj r v.2
def A39 (st : ASt) (vs : List AV) : ASt := ⟨Bge vs, st.hp⟩
def Cdz {R : Type} (tt : TT) (rs : List ResultVar) (pr : Aac) (K : pr.den → Option R) : Ex → ASt → Option R
  | .exit _, _ => none
  | _, st => match Alv tt st rs with
    | some vs => match dec pr (A39 st vs) with
      | some y => K y
      | none => none
    | none => none
abbrev Cbx (p q : Aac) := (R : Type) → p.den → (q.den → Option R) → Option R
def Cby (pure grow : List Bool) (mat : Bool) (nargs nb : Nat) (p0 pr : Aac) (G : Cbx p0 pr) : Aai where
  pure := pure
  grow := grow
  mat := mat
  run R args bl K := match Nat.beq args.length nargs, dec p0 (Awk args bl) with
    | true, some x => G R x fun y => K (Bcw (Apw pr.env y.1)) ((Alj pr.hp y.2).take nb) ((Alj pr.hp y.2).drop nb)
    | _, _ => none
theorem Bs0 : ∀ {ps : List (Nat × Aui)} {y : A8l ps}, (Alj ps y).length = ps.length
  | [], _ => rfl
  | _ :: r, y => by simp [Alj, Bs0 (ps := r)]
theorem Bos : ∀ {ps : List (Nat × Aui)} {y : A8l ps} {id i : Nat}, Aug id (ps.map (·.1)) 0 = some i → A1s ps y id = (Alj ps y)[i]?
  | [], _, _, _, h => by cases h
  | (t, p) :: r, y, id, i, h => by
    simp only [List.map_cons, Aug] at h
    simp only [A1s, Alj]
    split at h
    · rename_i e; cases h; (try rw [e]); rfl
    · rename_i e
      (try rw [e])
      have shift : ∀ (l : List Nat) (a b k : Nat), Aug id l (a + 1) = some k → Aug id l a = some (k - 1) ∧ a + 1 ≤ k := by
        intro l
        induction l with
        | nil => intro a b k h; cases h
        | cons x l ih =>
          intro a b k h
          simp only [Aug] at h ⊢
          split at h
          · cases h; simp
          · obtain ⟨h1, h2⟩ := ih (a + 1) b k h
            exact ⟨h1, by omega⟩
      obtain ⟨h1, h2⟩ := shift _ 0 0 i h
      have := Bos (y := y.2) h1
      (try simp only)
      rw [this]
      have : i = (i - 1) + 1 := by omega
      rw [this]; simp
theorem Bk9 : ∀ {ps : List (Nat × Aui)} {y : A8l ps} {id : Nat}, id ∉ ps.map (·.1) → A1s ps y id = none
  | [], _, _, _ => rfl
  | (t, p) :: r, y, id, h => by
    simp only [List.map_cons, List.mem_cons, not_or] at h
    simp only [A1s, Ax8 h.1]
    exact Bk9 h.2
theorem Btu {ps : List (Nat × Aui)} {nb m : Nat} (hn : ps.map (·.1) = List.range nb ++ (List.range m).map (32 + ·)) (hnb : nb ≤ 32) (y : A8l ps) : A1s ps y = Ae1 ((Alj ps y).take nb) ((Alj ps y).drop nb) := by
  have nd : (ps.map (·.1)).Nodup := by
    rw [hn, List.nodup_append]
    refine ⟨List.nodup_range, ?_, ?_⟩
    · rw [List.nodup_iff_pairwise_ne, List.pairwise_map]
      have := List.nodup_range (n := m)
      rw [List.nodup_iff_pairwise_ne] at this
      exact this.imp fun {a b} h e => h (by omega)
    · intro a ha b hb
      simp only [List.mem_map, List.mem_range] at ha hb
      obtain ⟨c, _, rfl⟩ := hb
      omega
  have hlen : ps.length = nb + m := by
    have := congrArg List.length hn
    simpa using this
  have bl := Bs0 (ps := ps) (y := y)
  funext id
  simp only [Ae1]
  cases e : Nat.ble 32 id with
  | false =>
    have hlt : id < 32 := by
      rcases Nat.lt_or_ge id 32 with h | h
      · exact h
      · rw [Nat.ble_eq_true_of_le h] at e; cases e
    simp only
    by_cases h : id < nb
    · have : (ps.map (·.1))[id]? = some id := by
        rw [hn, List.getElem?_append_left (by simpa using h)]
        simp [h]
      rw [Bos (A3x (i := 0) nd this)]
      simp [h]
    · rw [Bk9, List.getElem?_eq_none]
      · simp; omega
      · rw [hn]
        simp only [List.mem_append, List.mem_range, List.mem_map, not_or, not_exists, not_and]
        exact ⟨h, fun x _ => by omega⟩
  | true =>
    have hle := Nat.le_of_ble_eq_true e
    simp only
    by_cases h : id - 32 < m
    · have : (ps.map (·.1))[nb + (id - 32)]? = some id := by
        rw [hn, List.getElem?_append_right (by simp)]
        simp [h]; omega
      rw [Bos (A3x (i := 0) nd this)]
      simp [List.getElem?_drop]
    · rw [Bk9, List.getElem?_eq_none]
      · simp; omega
      · rw [hn]
        simp only [List.mem_append, List.mem_range, List.mem_map, not_or, not_exists, not_and]
        exact ⟨by omega, fun x hx => by omega⟩
theorem Cfo : ∀ (p : A2i) (v : p.den), B90 p v = .v (Cet p v)
  | .one _, _ => rfl
  | .agg _, _ => rfl
theorem Bla : ∀ {ps : List (Nat × A2i)} {y : Bdh ps} {k m : Nat}, ps.map (·.1) = (List.range m).map (k + ·) → (∀ i, i < m → ∃ v, (Apw ps y)[i]? = some v ∧ A34 ps y (k + i) = .v v) ∧ (Apw ps y).length = m
  | [], y, k, m, h => by
    have : m = 0 := by have := congrArg List.length h; simpa using this.symm
    subst this
    exact ⟨fun i hi => by omega, rfl⟩
  | (t, p) :: r, y, k, m, h => by
    cases m with
    | zero => simp at h
    | succ m =>
      rw [List.range_succ_eq_map, List.map_cons, List.map_cons] at h
      simp only [List.cons.injEq, Nat.add_zero] at h
      obtain ⟨rfl, h2⟩ := h
      have h3 : r.map (·.1) = (List.range m).map ((t + 1) + ·) := by
        rw [h2, List.map_map]
        apply List.map_congr_left
        intro i _; simp [Function.comp]; omega
      obtain ⟨i1, i2⟩ := Bla (y := y.2) h3
      refine ⟨fun i hi => ?_, by simp [Apw, i2]⟩
      cases i with
      | zero => exact ⟨_, rfl, by simp [A34, Cfo]⟩
      | succ i =>
        obtain ⟨v, v1, v2⟩ := i1 i (by omega)
        refine ⟨v, by simpa [Apw] using v1, ?_⟩
        simp only [A34]
        rw [Ax8 (by omega)]
        rw [show t + (i + 1) = t + 1 + i by omega]; exact v2
def B6f (tmps : Array Value) : ResultVar → Sem Value := fun
    | .tmp t => pure (tmps.getD t undef)
    | .cell a t => do loadVar t (← asAddr (tmps.getD a undef))
theorem Cad (fn : Func) (tmps : Array Value) : results fn tmps = (do
  let vs ← fn.results.mapM (B6f tmps)
  pure (if h : vs.size = 1 then vs[0] else .tuple vs)) := rfl
def B6g : List Value → Value
  | [v] => v
  | l => .tuple l.toArray
theorem Bid {P : Program} {tt : TT} (htt : Aib P tt) {n : Nat} {F : Fz} {ρ : Rho} {st : ASt} {a : Act} {W : World} (hs : An6 n F ρ st a W) {fn : Func} {vs : List AV} (h : Alv tt st fn.results.toList = some vs) :
    ∃ rs : List Value, (results fn a.tmps).run P W = .ok (B6g rs) W ∧ Acv (RV F ρ st.hp) vs rs := by
  have key : ∀ (l : List ResultVar) (vs : List AV), Alv tt st l = some vs → ∃ rs : List Value, (l.mapM (B6f a.tmps) : Sem (List Value)).run P W = Result.ok rs W ∧ Acv (RV F ρ st.hp) vs rs := by
    intro l
    induction l with
    | nil => intro vs h; cases h; exact ⟨[], by simp, trivial⟩
    | cons x l ih =>
      intro vs h
      cases x with
      | tmp t =>
        simp only [Alv] at h
        split at h
        · rename_i l' hl; cases h
          obtain ⟨rs, h1, h2⟩ := ih l' hl
          refine ⟨a.tmps.getD t undef :: rs, ?_, hs.env t, h2⟩
          rw [List.mapM_cons]
          simp only [Sem.run_bind, h1, Result.andThen_ok, B6f, Sem.run_pure]
        · cases h
      | cell t T =>
        simp only [Alv] at h
        split at h
        · rename_i v l' hv hl; cases h
          obtain ⟨rs, h1, h2⟩ := ih l' hl
          obtain ⟨v', hv', hload⟩ := B5z htt hv
          cases hv'
          obtain ⟨r, hr, hrv⟩ := hload F ρ st.hp W (a.tmps.getD t undef) hs.heap (fun _ _ h => h) (hs.env t)
          refine ⟨r :: rs, ?_, hrv, h2⟩
          rw [List.mapM_cons]
          have hx : (B6f a.tmps (.cell t T)).run P W = .ok r W := by
            simp only [B6f]
            generalize a.tmps.getD t undef = q at hr
            cases q with
            | pointer p =>
              cases p with
              | some ad => simpa [Instr.loadAt, Instr.sureAddr, asAddr] using hr
              | none => simp [Instr.loadAt, Instr.sureAddr] at hr
            | _ => simp [Instr.loadAt, Instr.sureAddr] at hr
          simp only [Sem.run_bind, hx, h1, Result.andThen_ok, Sem.run_pure]
        · cases h
  obtain ⟨rs, h1, h2⟩ := key _ _ h
  refine ⟨rs, ?_, h2⟩
  rw [Cad, ← Array.toArray_toList (xs := fn.results)]
  rw [List.mapM_toArray]
  simp only [Sem.run_bind, Sem.run_map, h1, Result.andThen_ok, Sem.run_pure]
  congr 1
  match rs with
  | [] => rfl
  | [a] => rfl
  | a :: b :: r => simp [B6g]
def A3v.fin (P : Program) (F : Fz) (ρ : Rho) (W : World) (bl : List Aau) (g : List Bool) (v : AV) (bl' nw : List Aau) (r : Value) (W' : World) : Prop :=
  ∃ F' ρ', RV F' ρ' (Ae1 bl' nw) v r ∧ Acl F' ρ' (Ae1 bl' nw) W' ∧ Ext g F ρ (Ae1 bl []) W F' ρ' (Ae1 bl' nw) W'
theorem Cje {P : Program} (hm : P.follows .mixedOrders = true) {tt : TT} (htt : Aib P tt) {Γ : FuncId → Option Aai} (hΓ : Ama P tt Γ) {g : List Bool} {Λ : Nat → Option Acn} {dom : Nat → Bool} (hdom : ∀ k, (Λ k).isSome = dom k)
    {f : FuncId} {fn : Func} {c : Code} (hf : P.funcs[f]? = some fn) (hb : fn.body = some c) {rs : List ResultVar} (hrs : fn.results.toList = rs)
    (hd : An7 dom fn.ntmps c = true) (hc : ∀ p, p ∈ Ahh dom c → ∀ F, Λ p.1 = some F → Aax P fn.ntmps g p.2 F)
    {pure : List Bool} {mat : Bool} {nargs nb m : Nat} {p0 pr : Aac} {G : Cbx p0 pr} (hn : nargs ≤ fn.ntmps) (hnb : nb ≤ 32) (hhp : pr.hp.map (·.1) = List.range nb ++ (List.range m).map (32 + ·)) (henv : pr.env.map (·.1) = List.range rs.length)
    (h : ∀ (R : Type) x K, Aao tt Γ g Λ c (Aab p0 x) (Cdz (R := R) tt rs pr K) = G R x K) : Apv P f (Cby pure g mat nargs nb p0 pr G) := by
  intro R args bl K r hrun
  simp only [Cby] at hrun
  split at hrun
  case h_2 => cases hrun
  rename_i x hna hx
  have hna := Abk hna
  rw [← h] at hrun
  obtain ⟨e, st1, h1, h2⟩ := Ayd hm htt hΓ hdom c hd hc R _ _ r hrun
  have hret : ∃ vs y, Alv tt st1 rs = some vs ∧ dec pr (A39 st1 vs) = some y ∧ K (Bcw (Apw pr.env y.1)) ((Alj pr.hp y.2).take nb) ((Alj pr.hp y.2).drop nb) = some r ∧ (e = .normal ∨ e = .ret) := by
    cases e with
    | exit id => cases h1
    | normal =>
      simp only [Cdz] at h1
      split at h1
      · rename_i vs hvs
        split at h1
        · rename_i y hy; exact ⟨vs, y, hvs, hy, h1, .inl rfl⟩
        · cases h1
      · cases h1
    | ret =>
      simp only [Cdz] at h1
      split at h1
      · rename_i vs hvs
        split at h1
        · rename_i y hy; exact ⟨vs, y, hvs, hy, h1, .inr rfl⟩
        · cases h1
      · cases h1
  obtain ⟨vs, y, hvs, hy, hK, he⟩ := hret
  refine ⟨_, _, _, hK, fun F ρ W rargs hargs hh => ?_⟩
  have hlen : rargs.size = nargs := by have := hargs.length; simp at this; omega
  have hs0 : An6 fn.ntmps F ρ (Awk args bl) { tmps := rargs ++ Array.replicate (fn.ntmps - rargs.size) undef, defers := [] } W := by
    refine ⟨by simp; omega, fun s => ?_, hh⟩
    simp only [Awk, Bge]
    cases ha : args[s]? with
    | none => exact RV.undef
    | some v =>
      obtain ⟨b, hb1, hb2⟩ := hargs.get s v ha
      have hlt : s < rargs.size := by
        rcases Nat.lt_or_ge s rargs.size with h | h
        · exact h
        · rw [List.getElem?_eq_none (by simpa using h)] at hb1; cases hb1
      have : (rargs ++ Array.replicate (fn.ntmps - rargs.size) undef).getD s undef = b := by
        rw [Array.getD_eq_getD_getElem?, Array.getElem?_append_left hlt]
        have : rargs[s]? = some b := by simpa using hb1
        rw [this]; rfl
      rw [this]; exact hb2
  refine calls_of_wp hf hb (wp_mono (h2 F ρ (Ae1 bl []) _ W _ W (Aye hx hs0)) ?_)
  rintro xx a' W' ⟨rfl, hl⟩
  obtain ⟨hdef, F1, ρ1, hs1, he1⟩ := hl
  subst hrs
  obtain ⟨rvs, hres, hrv⟩ := Bid htt hs1 hvs
  have hlv : vs.length = fn.results.toList.length := by
    have : ∀ (l : List ResultVar) (vs : List AV), Alv tt st1 l = some vs → vs.length = l.length := by
      intro l
      induction l with
      | nil => intro vs h; cases h; rfl
      | cons x l ih =>
        intro vs h
        cases x with
        | tmp t =>
          simp only [Alv] at h
          split at h
          · rename_i hl; cases h; simp [ih _ hl]
          · cases h
        | cell t T =>
          simp only [Alv] at h
          split at h
          · rename_i hl; cases h; simp [ih _ hl]
          · cases h
    exact this _ _ hvs
  have hs2 : An6 rvs.length F1 ρ1 (A39 st1 vs) { tmps := rvs.toArray, defers := [] } W' := by
    refine ⟨by simp, fun s => ?_, hs1.heap⟩
    simp only [A39, Bge]
    cases hv : vs[s]? with
    | none => exact RV.undef
    | some v =>
      obtain ⟨b, hb1, hb2⟩ := hrv.get s v hv
      have : (rvs.toArray).getD s undef = b := by rw [Array.getD_eq_getD_getElem?]; simp [hb1]
      rw [this]; exact hb2
  obtain ⟨_, F2, ρ2, hs3, he3⟩ := Aye (g := g) hy hs2
  have hheap : (Aab pr y).hp = Ae1 ((Alj pr.hp y.2).take nb) ((Alj pr.hp y.2).drop nb) := Btu hhp hnb y.2
  have hfin : A3v.fin P F ρ W bl g (Bcw (Apw pr.env y.1)) ((Alj pr.hp y.2).take nb) ((Alj pr.hp y.2).drop nb) (B6g rvs) W' := by
    refine ⟨F2, ρ2, ?_, by rw [← hheap]; exact hs3.heap, by rw [← hheap]; exact he1.trans he3⟩
    rw [← hheap]
    obtain ⟨g1, g2⟩ := Bla (y := y.1) (k := 0) (m := fn.results.size) (by simpa using henv)
    have gets : ∀ i, i < fn.results.size → ∃ v, (Apw pr.env y.1)[i]? = some v ∧ RV1 F2 ρ2 (Aab pr y).hp v (rvs.getD i undef) := by
      intro i hi
      obtain ⟨v, v1, v2⟩ := g1 i hi
      refine ⟨v, v1, ?_⟩
      have := hs3.env i
      rw [Nat.zero_add] at v2
      have e : (Aab pr y).env i = .v v := v2
      rw [e] at this
      have e2 : (rvs.toArray).getD i undef = rvs.getD i undef := by simp [List.getD_eq_getElem?_getD, Array.getD_eq_getD_getElem?]
      rw [← e2]; exact this
    have hl2 : rvs.length = (Apw pr.env y.1).length := by
      have q1 := hrv.length
      have q2 := g2
      have q3 := hlv
      simp only [Array.length_toList] at q2 q3
      omega
    revert gets
    rw [← g2]
    revert hl2
    generalize Apw pr.env y.1 = vs
    generalize rvs = rs
    intro hl2 gets
    have all : Acv (RV1 F2 ρ2 (Aab pr y).hp) vs rs := by
      refine Acv.of_get hl2.symm fun i v b hv hb => ?_
      have hi : i < vs.length := by
        rcases Nat.lt_or_ge i vs.length with h | h
        · exact h
        · rw [List.getElem?_eq_none h] at hv; cases hv
      obtain ⟨v', v1, v2⟩ := gets i hi
      rw [hv] at v1; cases v1
      rw [List.getD_eq_getElem?_getD, hb] at v2
      exact v2
    match vs, rs, all with
    | [v], [r], a => exact a.1
    | [], [], _ => exact ⟨#[], rfl, trivial⟩
    | _ :: _ :: _, _ :: _ :: _, a => exact ⟨_, rfl, by simpa using a⟩
    | [_], _ :: _ :: _, a => exact a.2.elim
    | _ :: _ :: _, [_], a => exact a.2.elim
    | [], _ :: _, a => exact a.elim
    | _ :: _, [], a => exact a.elim
  rcases he with rfl | rfl
  · exact ⟨hdef, _, hres, ⟨_, hfin.choose, hfin.choose_spec.choose, rfl, hfin.choose_spec.choose_spec⟩⟩
  · exact ⟨hdef, _, hres, ⟨_, hfin.choose, hfin.choose_spec.choose, rfl, hfin.choose_spec.choose_spec⟩⟩
end
end Go.AX

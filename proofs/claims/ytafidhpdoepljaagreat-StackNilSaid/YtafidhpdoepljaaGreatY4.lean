/- A closed run of the model's code, proved sound: part 4. -/
import Derived.Test.YtafidhpdoepljaaGreatY3
import Derived.Test.YtafidhpdoepljaaGreatX4
import Derived.Test.YtafidhpdoepljaaGreatX7
/- CE, part 21: drawn regions: what is run, what is checked. -/
namespace Go.CE
noncomputable section
open Go.AX (usesOf beforeAll edgesOk memN memN_iff bef_done edgesOk_spec countP_add getD_swap)

def isRead (o : Oper) : Bool := match o.op with
  | .move _ | .assign _ | .pick .. | .build .. | .load .. | .nilCheck _ | .binOp .. | .unOp .. | .convert .. | .makeInterface .. | .makeFunc .. | .slice .. | .fieldAddr .. | .field .. | .indexAddr .. | .index .. | .lookup .. | .extract .. => true
  | .call { callee := .builtin b, .. } => match b with
    | .len | .min | .max => true
    | _ => false
  | _ => false

def restr (E : Env) : List Nat → Env
  | [] => .e
  | t :: l => match E.get t, Nat.blt t BIG with
    | some v, true => T.set v 60 (restr E l) t
    | _, _ => restr E l

/-- a slice is made: a new row, of which nobody knows -/
def isFresh (o : Oper) : Bool := match o.op, o.guard, o.dst with
  | .makeSlice .., none, some _ => true
  | _, _, _ => false
def isF (fr : Bool) (o : Oper) : Bool := fr && isFresh o

/-- for each operation those that come up before it in every order, as bits -/
def edgeM (acc : List Nat) (m : Nat) (e : Edge) : Nat := match Region.binds .any e with
  | true => Nat.lor m (Nat.lor (Nat.pow 2 e.on) (acc.getD e.on 0))
  | false => m
def maskStep (acc : List Nat) (o : Oper) : List Nat := acc ++ [o.after.toList.foldl (edgeM acc) 0]
def masks (ops : Array Oper) : List Nat := ops.toList.foldl maskStep []
def bitM (m i : Nat) : Bool := Nat.beq (Nat.mod (Nat.div m (Nat.pow 2 i)) 2) 1
/-- does i come up before j in every order? -/
def inBef (ops : Array Oper) (i j : Nat) : Bool := bitM ((masks ops).getD j 0) i
def cf (fr : Bool) (ops : Array Oper) : List (Oper × Nat) := ops.toList.zipIdx.filter fun x => isF fr x.1
def isLate (fr : Bool) (ops : Array Oper) (x : Oper × Nat) : Bool := (cf fr ops).any fun y => inBef ops y.2 x.2
/-- the order of the run: what needs no new row, the new rows, the rest -/
def c1 (fr : Bool) (ops : Array Oper) : List (Oper × Nat) := ops.toList.zipIdx.filter fun x => !isF fr x.1 && !isLate fr ops x
def c2 (fr : Bool) (ops : Array Oper) : List (Oper × Nat) := ops.toList.zipIdx.filter fun x => !isF fr x.1 && isLate fr ops x
def cl (fr : Bool) (ops : Array Oper) : List (Oper × Nat) := c1 fr ops ++ (cf fr ops ++ c2 fr ops)

/-- the run in that order: the heaps behind what is no reading; what each operation saw and gave -/
def cseq (P : PT) (call : CallF) (n : Nat) (ops : Array Oper) : List (Oper × Nat) → Env → CH → Option (Env × List CH × List (Env × Value))
  | [], E, _ => some (E, [], [])
  | x :: l, E, H => match restr E (usesOf ops x.1) with
    | R => match cvalue P call ops x.1 R H with
      | none => none
      | some (v, H1) => match setEC n E x.1.dst v H1 with
        | none => none
        | some (E1, _) => match cseq P call n ops l E1 H1 with
          | none => none
          | some (E2, hs, ws) => some (E2, (match isRead x.1 with | true => hs | false => H1 :: hs), (R, v) :: ws)

def isAct (fr : Bool) (o : Oper) : Bool := !isRead o && !isF fr o

/-- may y come up behind x only, or do they not meddle with each other? -/
def pairOk (fr : Bool) (ops : Array Oper) (x y : Oper × Nat) : Bool :=
  (match x.1.dst, y.1.dst with | some d, some e => !Nat.beq d e | _, _ => true) &&
  (inBef ops x.2 y.2 ||
    ((match x.1.dst with | some d => !memN d (usesOf ops y.1) | none => true) &&
    (match y.1.dst with | some d => !memN d (usesOf ops x.1) | none => true) &&
    !(isAct fr x.1 && isAct fr y.1)))

def pairsOk (fr : Bool) (ops : Array Oper) : List (Oper × Nat) → Bool
  | [] => true
  | x :: l => (l.all fun y => pairOk fr ops x y) && pairsOk fr ops l

/-- hands a new row on -/
def copyOf (o : Oper) : Option Tmp := match o.op, o.guard with
  | .move (.tmp t), none => some t
  | .assign (.tmp t), none => some t
  | _, _ => none
def isCopy (fr : Bool) (ops : Array Oper) (y : Oper × Nat) : Bool := match copyOf y.1, y.1.dst with
  | some t, some _ => (cf fr ops).any fun x => (match x.1.dst with | some d => Nat.beq d t | none => false) && inBef ops x.2 y.2
  | _, _ => false

def dstat (fr : Bool) (ops : Array Oper) : Bool :=
  edgesOk ops && pairsOk fr ops (cl fr ops) && ((cf fr ops).all fun x => !isLate fr ops x) &&
  ((c2 fr ops).all fun y => isCopy fr ops y || ((cf fr ops).all fun x => inBef ops x.2 y.2) && ((c1 fr ops).all fun x => isRead x.1 || inBef ops x.2 y.2))

/-- how many of them are done: all that are no reading; those that are no making either -/
def nn (fr : Bool) (ops : Array Oper) (D : Nat → Bool) : Nat := (cl fr ops).countP fun x => !isRead x.1 && D x.2
def na (fr : Bool) (ops : Array Oper) (D : Nat → Bool) : Nat := (cl fr ops).countP fun x => isAct fr x.1 && D x.2
def actsLo (fr : Bool) (ops : Array Oper) (j : Nat) : Nat := nn fr ops fun i => inBef ops i j
def actsHi (fr : Bool) (ops : Array Oper) (j : Nat) : Nat := nn fr ops fun i => !inBef ops j i

def checkH (c : CM Value) (w : Value) : List CH → Bool
  | [] => true
  | H :: l => match c H with
    | some (v, _) => match veq v w with | true => checkH c w l | false => false
    | none => false

def dynOk (P : PT) (call : CallF) (fr : Bool) (ops : Array Oper) (hs : List CH) : List (Oper × Nat) → List (Env × Value) → Bool
  | [], _ => true
  | (o, j) :: l, ws => match ws with
    | [] => false
    | (R, w) :: ws => match isRead o with
      | false => dynOk P call fr ops hs l ws
      | true => match checkH (cvalue P call ops o R) w ((hs.drop (actsLo fr ops j)).take (actsHi fr ops j + 1 - actsLo fr ops j)) with
        | true => dynOk P call fr ops hs l ws
        | false => false

def cdrawF (P : PT) (fr : Bool) : DrawG := fun call n ops E H => match cseq P call n ops (cl fr ops) E H with
  | none => none
  | some (E', hs, ws) => match dynOk P call fr ops (H :: hs) (cl fr ops) ws with
    | true => some (E', (H :: hs).getLast (List.cons_ne_nil _ _))
    | false => none

def cdraw (P : PT) : DrawG := fun call n ops E H => match dstat false ops with
  | true => cdrawF P false call n ops E H
  | false => match dstat true ops with
    | true => cdrawF P true call n ops E H
    | false => none

/-! ## what it says -/
theorem restr_get {E : Env} : ∀ {l : List Nat} {t : Nat} {v : Value}, (restr E l).get t = some v → E.get t = some v ∧ t ∈ l
  | [], t, v, h => by rw [restr, T.get_e] at h; cases h
  | s :: l, t, v, h => by
    unfold restr at h
    split at h
    · rename_i w hE hb
      have hb : s < BIG := by simpa [Nat.blt_eq] using hb
      have hs3 : s + 1 < 2 ^ 60 := Nat.lt_of_le_of_lt (show s + 1 ≤ BIG from hb) (by unfold BIG; decide)
      by_cases e : t = s
      · subst e
        rw [T.get_set _ _ _ _ hs3] at h
        exact ⟨hE.trans h, by simp⟩
      · rw [T.get_set_ne _ _ _ _ _ e] at h
        have := restr_get h
        exact ⟨this.1, List.mem_cons_of_mem _ this.2⟩
    · have := restr_get h
      exact ⟨this.1, List.mem_cons_of_mem _ this.2⟩

theorem restr_congr {E E' : Env} : ∀ {l : List Nat}, (∀ t, t ∈ l → E.get t = E'.get t) → restr E l = restr E' l
  | [], _ => rfl
  | s :: l, h => by
    unfold restr
    rw [h s (by simp), restr_congr fun t ht => h t (List.mem_cons_of_mem _ ht)]

theorem checkH_at {c : CM Value} : ∀ {l : List CH} {w : Value}, checkH c w l = true → ∀ H, H ∈ l → ∃ H', c H = some (w, H')
  | [], w, _, H, hm => by simp at hm
  | H0 :: l, w, h, H, hm => by
    unfold checkH at h
    cases hc : c H0 with
    | none => rw [hc] at h; cases h
    | some p =>
      obtain ⟨v, H'⟩ := p
      rw [hc] at h
      simp only at h
      cases hv : veq v w with
      | false => rw [hv] at h; cases h
      | true =>
        rw [hv] at h
        rcases List.mem_cons.1 hm with rfl | hm
        · exact ⟨H', by rw [hc, veq_ok hv]⟩
        · exact checkH_at h H hm

theorem dynOk_at {P : PT} {call : CallF} {fr : Bool} {ops : Array Oper} {hs : List CH} : ∀ {l : List (Oper × Nat)} {ws : List (Env × Value)}, dynOk P call fr ops hs l ws = true → ∀ (i : Nat) o j R w, l[i]? = some (o, j) → ws[i]? = some (R, w) → isRead o = true →
    ∀ k H, actsLo fr ops j ≤ k → k ≤ actsHi fr ops j → hs[k]? = some H → ∃ H', cvalue P call ops o R H = some (w, H')
  | [], _, _, i, o, j, R, w, hm, _, _, _, _, _, _, _ => by simp at hm
  | (o0, j0) :: l, [], h, _, _, _, _, _, _, _, _, _, _, _, _, _ => by unfold dynOk at h; cases h
  | (o0, j0) :: l, (R0, w0) :: ws, h, i, o, j, R, w, hm, hw, hr, k, H, h1, h2, h3 => by
    unfold dynOk at h
    cases i with
    | zero =>
      simp only [List.getElem?_cons_zero, Option.some.injEq, Prod.mk.injEq] at hm hw
      obtain ⟨rfl, rfl⟩ := hm
      obtain ⟨rfl, rfl⟩ := hw
      rw [hr] at h
      simp only at h
      split at h
      · rename_i hc
        have hmem : H ∈ (hs.drop (actsLo fr ops j0)).take (actsHi fr ops j0 + 1 - actsLo fr ops j0) := by
          obtain ⟨hk, hk2⟩ := List.getElem?_eq_some_iff.1 h3
          rw [List.mem_iff_getElem]
          refine ⟨k - actsLo fr ops j0, by simp; omega, ?_⟩
          simp only [List.getElem_take, List.getElem_drop]
          rw [← hk2]; congr 1; omega
        exact checkH_at hc H hmem
      · cases h
    | succ i =>
      rw [List.getElem?_cons_succ] at hm hw
      simp only at h
      split at h
      · exact dynOk_at h i o j R w hm hw hr k H h1 h2 h3
      · split at h
        · exact dynOk_at h i o j R w hm hw hr k H h1 h2 h3
        · cases h

end
end Go.CE
/- CE, part 22: drawn regions: operations that only read. -/
namespace Go.CE
noncomputable section
section
variable {P : PT}

theorem Reads.eval {ev : Operand → Option Value} {x : Operand} : Reads (CM.opt (ev x)) := .opt

theorem cpick_reads {a b c : Value} : Reads (cpick a b c) := by
  unfold cpick; split <;> first | exact .ret | exact .fail
theorem cbuild1_reads {t : TypeId} {ps : List (Nat × Value)} : Reads (cbuild1 P t ps) := by
  unfold cbuild1
  refine .bind .opt fun _ => .bind .opt fun _ => ?_
  split
  · exact .bind .opt fun _ => .bind .opt fun _ => .ret
  · exact .bind .opt fun _ => .bind .opt fun _ => .ret
  · exact .fail
theorem cbuild_reads {t : TypeId} {ps : List (Nat × Value)} : Reads (cbuild P t ps) := by
  unfold cbuild
  split
  · split
    · unfold cbuild0
      refine .bind .opt fun _ => ?_
      split
      · exact .bind .opt fun _ => .ret
      · exact .fail
    · exact cbuild1_reads
  · split
    · exact cbuild1_reads
    · exact .fail
theorem cloadVar_reads {t : TypeId} {a : Addr} : Reads (cloadVar P t a) := by
  unfold cloadVar
  refine .bind .opt fun b => ?_
  cases b
  · exact .load
  · exact .bind .opt fun _ => .bind .loads fun _ => .ret
theorem cloadP_reads {t : TypeId} {x : Value} : Reads (cloadP P t x) := by
  unfold cloadP; split
  · exact cloadVar_reads
  · exact .fail
theorem cnil_reads {x : Value} : Reads (cnil x) := by
  unfold cnil; split <;> first | exact .ret | exact .fail
theorem csame_reads {s : Option Nat} {a b : Addr} : Reads (csame s a b) := fun H v H' e => by
  unfold csame at e
  split at e
  · cases e; rfl
  · split at e
    · cases e; rfl
    · cases e
  · cases e
theorem cequal_reads {t : TypeId} {x y : Value} : Reads (cequal P t x y) := by
  unfold cequal
  split
  · exact .opt
  · refine .bind .opt fun _ => ?_
    split <;> first | exact .ret | exact .fail | exact csame_reads
theorem cbin_reads {op : BinOp} {t : TypeId} {x y : Operand} {a b : Value} : Reads (cbin P op t x y a b) := by
  unfold cbin
  split
  · exact .run0
  · split
    · exact .fail
    · exact .bind cequal_reads fun _ => .ret
  · split
    · exact .fail
    · exact .bind cequal_reads fun _ => .ret
  · exact .fail
theorem cun_reads {op : UnOp} {a : Value} : Reads (cun P op a) := by
  unfold cun; split
  · exact .run0
  · exact .fail
theorem cconv_reads {s d : TypeId} {a : Value} : Reads (cconv P s d a) := by
  unfold cconv
  split
  · exact .run0
  · refine .bind .opt fun _ => .bind .opt fun _ => ?_
    split
    · refine .bind .opt fun _ => ?_
      split
      · exact .bind .loads fun _ => .bind .opt fun _ => .ret
      · exact .fail
    · exact .fail
theorem ciface_reads {t : TypeId} {a : Value} : Reads (ciface P t a) := by
  unfold ciface
  refine .bind .opt fun _ => ?_
  split
  · exact .fail
  · exact .ret
theorem csliceOp_reads {t : TypeId} {a : Value} {lo hi mx : Option Value} : Reads (csliceOp P t a lo hi mx) := by
  unfold csliceOp
  refine .bind .opt fun _ => ?_
  split
  · split
    · exact .run0
    · exact .fail
  · exact .bind .opt fun _ => .opt
  · refine .bind .opt fun _ => ?_
    split
    · exact .opt
    · exact .fail
  · exact .fail
theorem cfieldAddr_reads {s : TypeId} {x : Value} {f : Nat} : Reads (cfieldAddr P s x f) := by
  unfold cfieldAddr
  refine .bind .opt fun _ => ?_
  split
  · refine .bind .opt fun _ => .bind .opt fun _ => ?_
    split
    · exact .fail
    · exact .ret
  · exact .fail
theorem cfield_reads {t : TypeId} {x : Value} {f : Nat} : Reads (cfield P t x f) := by
  unfold cfield
  refine .bind .opt fun _ => ?_
  split
  · exact .bind .opt fun _ => .opt
  · exact .fail
theorem cindexAddr_reads {t : TypeId} {x i : Value} : Reads (cindexAddr P t x i) := by
  unfold cindexAddr
  refine .bind .opt fun _ => ?_
  split
  · split
    · refine .bind .opt fun _ => ?_
      split
      · exact .ret
      · exact .fail
    · refine .bind .opt fun _ => ?_
      split
      · exact .ret
      · exact .fail
    · exact .fail
  · exact .fail
theorem cindex_reads {t : TypeId} {x i : Value} : Reads (cindex P t x i) := by
  unfold cindex
  refine .bind .opt fun _ => ?_
  split
  · split
    · exact .run0
    · refine .bind .opt fun _ => ?_
      split
      · exact .opt
      · exact .fail
    · exact .fail
  · exact .fail
theorem clookup_reads {t : TypeId} {x i : Value} {ok : Bool} : Reads (clookup P t x i ok) := by
  unfold clookup
  refine .bind .opt fun _ => ?_
  split
  · refine .bind ?_ fun _ => ?_
    · split
      · exact .ret
      · exact .getMap
      · exact .fail
    · refine .bind .opt fun _ => .bind .opt fun _ => .bind .opt fun _ => ?_
      split
      · exact .ret
      · exact .bind .opt fun _ => .ret
  · exact .fail
theorem cextract_reads {t : Value} {i : Nat} : Reads (cextract t i) := by
  unfold cextract; split
  · exact .opt
  · exact .fail
theorem clenOf_reads {t : TypeId} {x : Value} : Reads (clenOf P t x) := by
  unfold clenOf
  refine .bind .opt fun _ => ?_
  split
  · exact .ret
  · exact .ret
  · exact .ret
  · exact .ret
  · exact .bind .getMap fun _ => .ret
  · exact .fail

theorem Reads.val {c : CM Value} (h : Reads c) : Reads (do let x ← c; CM.ret (some x) : CM (Option Value)) := .bind h fun _ => .ret

theorem cop_reads {ev : Operand → Option Value} {o : Oper} (h : isRead o = true) : Reads (cop P ev o) := by
  unfold isRead at h
  unfold cop
  cases ho : o.op with
  | move x => exact .val .opt
  | assign x => exact .val .opt
  | pick c a b => exact .val (.bind .opt fun _ => .bind .opt fun _ => .bind .opt fun _ => cpick_reads)
  | build t ps => exact .val (.bind .opt fun _ => cbuild_reads)
  | load t a => exact .val (.bind .opt fun _ => cloadP_reads)
  | nilCheck x => exact .val (.bind .opt fun _ => cnil_reads)
  | binOp op t x y yt => exact .val (.bind .opt fun _ => .bind .opt fun _ => cbin_reads)
  | unOp op t x => exact .val (.bind .opt fun _ => cun_reads)
  | convert s d x => exact .val (.bind .opt fun _ => cconv_reads)
  | makeInterface t x => exact .val (.bind .opt fun _ => ciface_reads)
  | makeFunc fn fs cs => exact .val (.bind .opt fun _ => .bind .opt fun _ => .ret)
  | slice t x lo hi mx => exact .val (.bind .opt fun _ => .bind .opt fun _ => .bind .opt fun _ => .bind .opt fun _ => csliceOp_reads)
  | fieldAddr s x i => exact .val (.bind .opt fun _ => cfieldAddr_reads)
  | field t x i => exact .val (.bind .opt fun _ => cfield_reads)
  | indexAddr t x i => exact .val (.bind .opt fun _ => .bind .opt fun _ => cindexAddr_reads)
  | index t x i => exact .val (.bind .opt fun _ => .bind .opt fun _ => cindex_reads)
  | lookup t x i ok => exact .val (.bind .opt fun _ => .bind .opt fun _ => clookup_reads)
  | extract t i => exact .val (.bind .opt fun _ => cextract_reads)
  | call c =>
    obtain ⟨cal, args, ats⟩ := c
    cases cal with
    | builtin b =>
      simp only [ho] at h
      refine .val (.bind .opt fun vs => ?_)
      cases b with
      | len =>
        match vs with
        | [] => exact .fail
        | [x] => exact .bind .opt fun _ => clenOf_reads
        | _ :: _ :: _ => exact .fail
      | max =>
        simp only [cbuiltin]
        split
        · exact .run0
        · exact .fail
      | min =>
        simp only [cbuiltin]
        split
        · exact .run0
        · exact .fail
      | _ => simp at h
    | _ => simp [ho] at h
  | _ => simp [ho] at h

theorem cvalue_reads {call : CallF} {ops : Array Oper} {o : Oper} {E : Env} (h : isRead o = true) : Reads (cvalue P call ops o E) := by
  unfold cvalue
  split
  · exact .ret
  · have : ccallee (ceval E) o = none := by
      unfold ccallee
      unfold isRead at h
      split
      · rename_i ho; simp [ho] at h
      · rfl
    rw [this]
    exact .bind (cop_reads h) fun _ => .ret
  · exact .fail

end
end
end Go.CE
/- CE, part 23: drawn regions, in whatever order. -/
namespace Go.CE
noncomputable section
open Go.AX (usesOf beforeAll edgesOk memN memN_iff bef_done edgesOk_spec countP_add getD_swap)

def acts (l : List (Oper × Nat)) : Nat := l.countP fun x => !isRead x.1

/-! ## the bits -/
theorem bitM_eq (m i : Nat) : bitM m i = m.testBit i := by
  rw [Nat.testBit_eq_decide_div_mod_eq]
  unfold bitM
  show Nat.beq (m / 2 ^ i % 2) 1 = _
  cases h : Nat.beq (m / 2 ^ i % 2) 1 with
  | true => exact (decide_eq_true (Nat.eq_of_beq_eq_true h)).symm
  | false => exact (decide_eq_false fun e => by rw [e] at h; cases h).symm
theorem bitM_or (a b i : Nat) : bitM (Nat.lor a b) i = (bitM a i || bitM b i) := by
  rw [bitM_eq, bitM_eq, bitM_eq]; exact Nat.testBit_or ..
theorem bitM_pow {k i : Nat} (h : bitM (Nat.pow 2 k) i = true) : i = k := by
  rw [bitM_eq] at h
  have : (2 ^ k).testBit i = true := h
  rw [Nat.testBit_two_pow] at this
  exact (of_decide_eq_true this).symm
theorem bitM_zero (i : Nat) : bitM 0 i = false := by rw [bitM_eq]; exact Nat.zero_testBit i

theorem edges_bit {acc : List Nat} : ∀ {es : List Edge} {m i : Nat}, bitM (es.foldl (edgeM acc) m) i = true → bitM m i = true ∨ ∃ e, e ∈ es ∧ Region.binds .any e = true ∧ (i = e.on ∨ bitM (acc.getD e.on 0) i = true)
  | [], _, _, h => .inl h
  | e :: es, m, i, h => by
    rw [List.foldl_cons] at h
    rcases edges_bit h with h | ⟨e', h1, h2⟩
    · unfold edgeM at h
      split at h
      · rename_i hb
        rw [bitM_or, bitM_or, Bool.or_eq_true, Bool.or_eq_true] at h
        rcases h with h | h | h
        · exact .inl h
        · exact .inr ⟨e, by simp, hb, .inl (bitM_pow h)⟩
        · exact .inr ⟨e, by simp, hb, .inr h⟩
      · exact .inl h
    · exact .inr ⟨e', List.mem_cons_of_mem _ h1, h2⟩

theorem mask_sub : ∀ (l : List Oper) (M : List Nat) (B : List (List Nat)), M.length = B.length → (∀ k i, bitM (M.getD k 0) i = true → i ∈ B.getD k []) → ∀ k i, bitM ((l.foldl maskStep M).getD k 0) i = true → i ∈ (l.foldl Go.AX.befStep B).getD k []
  | [], _, _, _, h => h
  | o :: l, M, B, hl, h => by
    rw [List.foldl_cons, List.foldl_cons]
    refine mask_sub l _ _ (by simp [maskStep, Go.AX.befStep, hl]) fun k i hb => ?_
    unfold maskStep at hb
    unfold Go.AX.befStep
    rcases Nat.lt_trichotomy k M.length with hk | hk | hk
    · rw [List.getD_eq_getElem?_getD, List.getElem?_append_left hk, ← List.getD_eq_getElem?_getD] at hb
      rw [List.getD_eq_getElem?_getD, List.getElem?_append_left (by omega), ← List.getD_eq_getElem?_getD]
      exact h k i hb
    · subst hk
      rw [List.getD_eq_getElem?_getD, List.getElem?_append_right (Nat.le_refl _)] at hb
      rw [List.getD_eq_getElem?_getD, List.getElem?_append_right (by omega)]
      simp only [hl, Nat.sub_self, List.getElem?_cons_zero, Option.getD_some, List.mem_flatMap] at hb ⊢
      rcases edges_bit hb with h0 | ⟨e, h1, h2, h3⟩
      · rw [bitM_zero] at h0; cases h0
      · refine ⟨e, h1, ?_⟩
        rw [h2]
        rcases h3 with rfl | h3
        · simp
        · exact List.mem_cons_of_mem _ (h _ _ h3)
    · rw [List.getD_eq_getElem?_getD, List.getElem?_append_right (by omega), List.getElem?_eq_none (by simp; omega)] at hb
      simp only [Option.getD_none, bitM_zero] at hb; cases hb

theorem inBef_ok {ops : Array Oper} {i j : Nat} (h : inBef ops i j = true) : i ∈ (beforeAll ops).getD j [] :=
  mask_sub ops.toList [] [] rfl (fun k i hb => by simp [bitM_zero] at hb) j i h

section
variable {P : PT} {call : CallF} {n : Nat} {ops : Array Oper}

theorem setEC_get {E E1 : Env} {d : Option Tmp} {v : Value} {H H1 : CH} (e : setEC n E d v H = some (E1, H1)) : H1 = H ∧ (∀ t, d ≠ some t → E1.get t = E.get t) ∧ ∀ t, d = some t → t < n ∧ t < BIG ∧ E1.get t = some v := by
  cases d with
  | none =>
    obtain ⟨rfl, rfl⟩ := ret_some e
    exact ⟨rfl, fun _ _ => rfl, fun t ht => by cases ht⟩
  | some d =>
    simp only [setEC] at e
    cases h1 : Nat.blt d n with
    | false => simp only [h1] at e; cases e
    | true =>
    cases h2 : Nat.blt d BIG with
    | false => simp only [h1, h2] at e; cases e
    | true =>
    simp only [h1, h2] at e
    have hd1 : d < n := by simpa [Nat.blt_eq] using h1
    have hd2 : d < BIG := by simpa [Nat.blt_eq] using h2
    have hd3 : d + 1 < 2 ^ 60 := Nat.lt_of_le_of_lt (show d + 1 ≤ BIG from hd2) (by unfold BIG; decide)
    obtain ⟨rfl, rfl⟩ := ret_some e
    refine ⟨rfl, fun t ht => ?_, fun t ht => ?_⟩
    · exact T.get_set_ne _ _ _ _ _ fun e => ht (by rw [e])
    · cases ht
      exact ⟨hd1, hd2, T.get_set _ _ _ _ hd3⟩

theorem cseq_cons {o : Oper × Nat} {l : List (Oper × Nat)} {E E' : Env} {H : CH} {hs : List CH} {ws : List (Env × Value)} (e : cseq P call n ops (o :: l) E H = some (E', hs, ws)) :
    ∃ v H1 E1 hs1 ws1, cvalue P call ops o.1 (restr E (usesOf ops o.1)) H = some (v, H1) ∧ setEC n E o.1.dst v H1 = some (E1, H1) ∧ cseq P call n ops l E1 H1 = some (E', hs1, ws1) ∧ hs = (match isRead o.1 with | true => hs1 | false => H1 :: hs1) ∧ ws = (restr E (usesOf ops o.1), v) :: ws1 := by
  simp only [cseq] at e
  cases h1 : cvalue P call ops o.1 (restr E (usesOf ops o.1)) H with
  | none => simp only [h1] at e; cases e
  | some p =>
    obtain ⟨v, H1⟩ := p
    simp only [h1] at e
    cases h2 : setEC n E o.1.dst v H1 with
    | none => simp only [h2] at e; cases e
    | some q =>
      obtain ⟨E1, H2⟩ := q
      simp only [h2] at e
      have hH := (setEC_get h2).1
      subst hH
      cases h3 : cseq P call n ops l E1 H2 with
      | none => simp only [h3] at e; cases e
      | some r =>
        obtain ⟨E2, hs1, ws1⟩ := r
        simp only [h3] at e
        cases e
        exact ⟨v, H2, E1, hs1, ws1, rfl, h2, h3, rfl, rfl⟩

theorem cseq_get : ∀ {l : List (Oper × Nat)} {E E' : Env} {H : CH} {hs : List CH} {ws : List (Env × Value)}, cseq P call n ops l E H = some (E', hs, ws) → ∀ t, (∀ x, x ∈ l → x.1.dst ≠ some t) → E'.get t = E.get t
  | [], E, E', H, hs, ws, e, t, _ => by cases e; rfl
  | o :: l, E, E', H, hs, ws, e, t, h => by
    obtain ⟨v, H1, E1, hs1, ws1, h1, h2, h3, h4, h5⟩ := cseq_cons e
    rw [cseq_get h3 t fun x hx => h x (List.mem_cons_of_mem _ hx)]
    exact (setEC_get h2).2.1 t (h o (List.mem_cons_self ..))

theorem cseq_len : ∀ {l : List (Oper × Nat)} {E E' : Env} {H : CH} {hs : List CH} {ws : List (Env × Value)}, cseq P call n ops l E H = some (E', hs, ws) → hs.length = acts l
  | [], E, E', H, hs, ws, e => by cases e; rfl
  | o :: l, E, E', H, hs, ws, e => by
    obtain ⟨v, H1, E1, hs1, ws1, h1, h2, h3, h4, h5⟩ := cseq_cons e
    have := cseq_len h3
    unfold acts at this ⊢
    cases hr : isRead o.1 with
    | true => rw [hr] at h4; simp only at h4; rw [h4, this]; simp [hr]
    | false => rw [hr] at h4; simp only at h4; rw [h4]; simp [hr, this]

theorem cseq_at : ∀ {pre : List (Oper × Nat)} {o : Oper × Nat} {post : List (Oper × Nat)} {E E' : Env} {H : CH} {hs : List CH} {ws : List (Env × Value)}, cseq P call n ops (pre ++ o :: post) E H = some (E', hs, ws) →
    ∃ Ej Hj v H1, (H :: hs)[acts pre]? = some Hj ∧ cvalue P call ops o.1 (restr Ej (usesOf ops o.1)) Hj = some (v, H1) ∧ (isRead o.1 = false → (H :: hs)[acts pre + 1]? = some H1) ∧
      (∀ t, (∀ x, x ∈ o :: post → x.1.dst ≠ some t) → E'.get t = Ej.get t) ∧ (∀ d, o.1.dst = some d → d < n ∧ d < BIG ∧ ((∀ x, x ∈ post → x.1.dst ≠ some d) → E'.get d = some v)) ∧
      (∀ t, (∀ x, x ∈ pre → x.1.dst ≠ some t) → Ej.get t = E.get t) ∧ ws[pre.length]? = some (restr Ej (usesOf ops o.1), v)
  | [], o, post, E, E', H, hs, ws, e => by
    have e' := e
    obtain ⟨v, H1, E1, hs1, ws1, h1, h2, h3, h4, h5⟩ := cseq_cons e
    refine ⟨E, H, v, H1, rfl, h1, fun hr => ?_, cseq_get e', fun d hd => ?_, fun _ _ => rfl, by rw [h5]; rfl⟩
    · rw [hr] at h4; simp only at h4; rw [h4]; rfl
    · obtain ⟨q1, q2, q3⟩ := (setEC_get h2).2.2 d hd
      exact ⟨q1, q2, fun hp => (cseq_get h3 d hp).trans q3⟩
  | y :: pre, o, post, E, E', H, hs, ws, e => by
    obtain ⟨v, H1, E1, hs1, ws1, h1, h2, h3, h4, h5⟩ := cseq_cons e
    obtain ⟨Ej, Hj, w, H2, g1, g2, g3, g4, g5, g6, g7⟩ := cseq_at h3
    refine ⟨Ej, Hj, w, H2, ?_, g2, fun hr => ?_, g4, g5, fun t ht => ?_, by rw [h5]; exact g7⟩
    · cases hy : isRead y.1 with
      | true =>
        rw [hy] at h4; simp only at h4; rw [h4]
        have : acts (y :: pre) = acts pre := by simp [acts, hy]
        rw [this, ← cvalue_reads hy _ _ _ h1]; exact g1
      | false =>
        rw [hy] at h4; simp only at h4; rw [h4]
        have : acts (y :: pre) = acts pre + 1 := by simp [acts, hy]
        rw [this, List.getElem?_cons_succ]; exact g1
    · have g3 := g3 hr
      cases hy : isRead y.1 with
      | true =>
        rw [hy] at h4; simp only at h4; rw [h4]
        have : acts (y :: pre) = acts pre := by simp [acts, hy]
        rw [this, ← cvalue_reads hy _ _ _ h1]; exact g3
      | false =>
        rw [hy] at h4; simp only at h4; rw [h4]
        have : acts (y :: pre) = acts pre + 1 := by simp [acts, hy]
        rw [this, List.getElem?_cons_succ]; exact g3
    · rw [g6 t fun x hx => ht x (List.mem_cons_of_mem _ hx)]
      exact (setEC_get h2).2.1 t (ht y (List.mem_cons_self ..))

/-! ## what the static check says -/
theorem zip_at {x : Oper × Nat} : x ∈ ops.toList.zipIdx ↔ ops[x.2]? = some x.1 := by
  obtain ⟨o, k⟩ := x
  rw [List.mem_zipIdx_iff_getElem?, Array.getElem?_toList]

variable {fr : Bool}
theorem mem_c1 {x : Oper × Nat} : x ∈ c1 fr ops ↔ ops[x.2]? = some x.1 ∧ isF fr x.1 = false ∧ isLate fr ops x = false := by
  unfold c1; rw [List.mem_filter, zip_at]; simp
theorem mem_cf {x : Oper × Nat} : x ∈ cf fr ops ↔ ops[x.2]? = some x.1 ∧ isF fr x.1 = true := by
  unfold cf; rw [List.mem_filter, zip_at]
theorem mem_c2 {x : Oper × Nat} : x ∈ c2 fr ops ↔ ops[x.2]? = some x.1 ∧ isF fr x.1 = false ∧ isLate fr ops x = true := by
  unfold c2; rw [List.mem_filter, zip_at]; simp
theorem mem_cl {x : Oper × Nat} : x ∈ cl fr ops ↔ ops[x.2]? = some x.1 := by
  unfold cl
  rw [List.mem_append, List.mem_append, mem_c1, mem_cf, mem_c2]
  cases isF fr x.1 <;> cases isLate fr ops x <;> simp
theorem cl_cases {x : Oper × Nat} (h : x ∈ cl fr ops) : x ∈ c1 fr ops ∨ x ∈ cf fr ops ∨ x ∈ c2 fr ops := by
  unfold cl at h
  rw [List.mem_append, List.mem_append] at h; exact h
theorem c1_cl {x : Oper × Nat} (h : x ∈ c1 fr ops) : x ∈ cl fr ops := mem_cl.2 (mem_c1.1 h).1
theorem cf_cl {x : Oper × Nat} (h : x ∈ cf fr ops) : x ∈ cl fr ops := mem_cl.2 (mem_cf.1 h).1
theorem c2_cl {x : Oper × Nat} (h : x ∈ c2 fr ops) : x ∈ cl fr ops := mem_cl.2 (mem_c2.1 h).1
theorem idx_eq {x y : Oper × Nat} (hx : x ∈ cl fr ops) (hy : y ∈ cl fr ops) (h : x.2 = y.2) : x = y := by
  have h1 := mem_cl.1 hx
  have h2 := mem_cl.1 hy
  rw [h, h2] at h1
  obtain ⟨a, b⟩ := x; obtain ⟨c, d⟩ := y
  cases h1; cases h; rfl

structure PairS (fr : Bool) (ops : Array Oper) (x y : Oper × Nat) : Prop where
  dst : ∀ d, x.1.dst = some d → y.1.dst ≠ some d
  xu : ∀ d, x.1.dst = some d → d ∈ usesOf ops y.1 → inBef ops x.2 y.2 = true
  yu : ∀ d, y.1.dst = some d → d ∈ usesOf ops x.1 → inBef ops x.2 y.2 = true
  act : isAct fr x.1 = true → isAct fr y.1 = true → inBef ops x.2 y.2 = true

theorem pairOk_ok {x y : Oper × Nat} (h : pairOk fr ops x y = true) : PairS fr ops x y := by
  unfold pairOk at h
  simp only [Bool.and_eq_true, Bool.or_eq_true] at h
  obtain ⟨h1, h2⟩ := h
  refine ⟨fun d hd he => ?_, fun d hd hm => ?_, fun d hd hm => ?_, fun hx hy => ?_⟩
  · rw [hd, he] at h1; simp at h1
  · rcases h2 with h2 | ⟨⟨h2, _⟩, _⟩
    · exact h2
    · rw [hd] at h2; simp [memN_iff.2 hm] at h2
  · rcases h2 with h2 | ⟨⟨_, h2⟩, _⟩
    · exact h2
    · rw [hd] at h2; simp [memN_iff.2 hm] at h2
  · rcases h2 with h2 | ⟨_, h2⟩
    · exact h2
    · rw [hx, hy] at h2; cases h2

theorem pairsOk_at : ∀ {l pre : List (Oper × Nat)} {x : Oper × Nat} {post : List (Oper × Nat)}, pairsOk fr ops l = true → l = pre ++ x :: post → ∀ y, y ∈ post → PairS fr ops x y
  | [], pre, _, _, _, e, _, _ => by cases pre <;> cases e
  | z :: l, [], x, post, h, e, y, hy => by
    cases e
    simp only [pairsOk, Bool.and_eq_true, List.all_eq_true] at h
    exact pairOk_ok (h.1 y hy)
  | z :: l, w :: pre, x, post, h, e, y, hy => by
    cases e
    simp only [pairsOk, Bool.and_eq_true] at h
    exact pairsOk_at h.2 rfl y hy

structure Stat (fr : Bool) (ops : Array Oper) : Prop where
  edge : edgesOk ops = true
  pair : ∀ {pre : List (Oper × Nat)} {x : Oper × Nat} {post : List (Oper × Nat)}, cl fr ops = pre ++ x :: post → ∀ y, y ∈ post → PairS fr ops x y
  fresh : ∀ x, x ∈ cf fr ops → isLate fr ops x = false
  late : ∀ y, y ∈ c2 fr ops → isCopy fr ops y = true ∨ ((∀ x, x ∈ cf fr ops → inBef ops x.2 y.2 = true) ∧ ∀ x, x ∈ c1 fr ops → isRead x.1 = false → inBef ops x.2 y.2 = true)

theorem dstat_ok (h : dstat fr ops = true) : Stat fr ops := by
  unfold dstat at h
  simp only [Bool.and_eq_true] at h
  obtain ⟨⟨⟨h1, h2⟩, h3⟩, h4⟩ := h
  refine ⟨h1, fun e => pairsOk_at h2 e, fun x hx => ?_, fun y hy => ?_⟩
  · have := List.all_eq_true.1 h3 x hx; simpa using this
  · have := List.all_eq_true.1 h4 y hy
    simp only [Bool.or_eq_true, Bool.and_eq_true, List.all_eq_true] at this
    refine this.imp (fun h => h) fun ⟨p, q⟩ => ⟨fun x hx => p x hx, fun x hx hr => ?_⟩
    rcases q x hx with h | h
    · rw [hr] at h; cases h
    · exact h

theorem Stat.pre (hs : Stat fr ops) {pre : List (Oper × Nat)} {x : Oper × Nat} {post : List (Oper × Nat)} (e : cl fr ops = pre ++ x :: post) : ∀ y, y ∈ pre → PairS fr ops y x := by
  intro y hy
  obtain ⟨p1, p2, rfl⟩ := List.append_of_mem hy
  exact hs.pair (pre := p1) (post := p2 ++ x :: post) (by rw [e]; simp) x (by simp)

/-- two of them lie one behind the other -/
theorem cl_split {x y : Oper × Nat} (hx : x ∈ cl fr ops) (hy : y ∈ cl fr ops) (h : x ≠ y) : ∃ pre post, cl fr ops = pre ++ x :: post ∧ (y ∈ pre ∨ y ∈ post) := by
  obtain ⟨pre, post, e⟩ := List.append_of_mem hx
  refine ⟨pre, post, e, ?_⟩
  rw [e] at hy
  rcases List.mem_append.1 hy with h' | h'
  · exact .inl h'
  · rcases List.mem_cons.1 h' with h' | h'
    · exact absurd h'.symm h
    · exact .inr h'

theorem Stat.dstU (hs : Stat fr ops) {x y : Oper × Nat} (hx : x ∈ cl fr ops) (hy : y ∈ cl fr ops) {d : Tmp} (hxd : x.1.dst = some d) (hyd : y.1.dst = some d) : x = y := by
  by_cases h : x = y
  · exact h
  · obtain ⟨pre, post, e, h | h⟩ := cl_split hx hy h
    · exact absurd hxd ((hs.pre e y h).dst d hyd)
    · exact absurd hyd ((hs.pair e y h).dst d hxd)

theorem late_of_fresh {x y : Oper × Nat} (hx : x ∈ cf fr ops) (h : inBef ops x.2 y.2 = true) : isLate fr ops y = true := by
  unfold isLate
  rw [List.any_eq_true]
  exact ⟨x, hx, h⟩

theorem not_fresh_bef {y : Oper × Nat} (h : isLate fr ops y = false) {i : Nat} {o : Oper} (hi : inBef ops i y.2 = true) (ho : ops[i]? = some o) : isF fr o = false := by
  cases hf : isF fr o with
  | false => rfl
  | true =>
    have := late_of_fresh (x := (o, i)) (y := y) (mem_cf.2 ⟨ho, hf⟩) hi
    rw [h] at this; cases this

theorem isFresh_read {o : Oper} (h : isFresh o = true) : isRead o = false := by
  unfold isFresh at h
  unfold isRead
  split at h
  · rename_i ho _ _; rw [ho]
  · cases h
theorem isF_fresh {o : Oper} (h : isF fr o = true) : isFresh o = true := by
  unfold isF at h; simp at h; exact h.2
theorem isF_read {o : Oper} (h : isF fr o = true) : isRead o = false := isFresh_read (isF_fresh h)
theorem act_of {o : Oper} (h : isRead o = false) (h2 : isF fr o = false) : isAct fr o = true := by simp [isAct, h, h2]
theorem act_read {o : Oper} (h : isAct fr o = true) : isRead o = false ∧ isF fr o = false := by simpa [isAct] using h

/-! ## counting -/
theorem count_split {q : Oper × Nat → Bool} {pre post : List (Oper × Nat)} {x : Oper × Nat} {D : Nat → Bool} {l : List (Oper × Nat)} (e : l = pre ++ x :: post)
    (h1 : ∀ y, y ∈ pre → q y = true → D y.2 = true) (h3 : ∀ y, y ∈ post → q y = true → D y.2 = false) :
    l.countP (fun y => q y && D y.2) = pre.countP q + (match q x && D x.2 with | true => 1 | false => 0) := by
  rw [e, List.countP_append, List.countP_cons]
  have e1 : pre.countP (fun y => q y && D y.2) = pre.countP q := by
    apply List.countP_congr
    intro y hy
    cases hq : q y with
    | false => simp
    | true => simp [h1 y hy hq]
  have e2 : post.countP (fun y => q y && D y.2) = 0 := by
    rw [List.countP_eq_zero]
    intro y hy
    cases hq : q y with
    | false => simp
    | true => simp [h3 y hy hq]
  rw [e1, e2]
  cases q x && D x.2 <;> simp

theorem count_mono {q : Oper × Nat → Bool} {q' : Oper × Nat → Bool} {l : List (Oper × Nat)} {D D' : Nat → Bool} (h : ∀ y, y ∈ l → q y = true → D y.2 = true → q' y = true ∧ D' y.2 = true) : l.countP (fun y => q y && D y.2) ≤ l.countP (fun y => q' y && D' y.2) := by
  apply List.countP_mono_left
  intro y hy hh
  simp only [Bool.and_eq_true] at hh ⊢
  exact h y hy hh.1 hh.2

theorem count_same {q : Oper × Nat → Bool} {l : List (Oper × Nat)} {D D' : Nat → Bool} (h : ∀ y, y ∈ l → q y = true → D y.2 = D' y.2) : l.countP (fun y => q y && D y.2) = l.countP (fun y => q y && D' y.2) :=
  Nat.le_antisymm (count_mono fun y hy hq hd => ⟨hq, by rw [← h y hy hq]; exact hd⟩) (count_mono fun y hy hq hd => ⟨hq, by rw [h y hy hq]; exact hd⟩)

end
end
end Go.CE
/- CE, part 24: new rows that nobody knows yet. -/
namespace Go.CE
noncomputable section
open Go.AX (usesOf beforeAll edgesOk memN memN_iff bef_done edgesOk_spec countP_add getD_swap)

section
variable {P : PT} {call : CallF} {n : Nat} {ops : Array Oper} {base : Nat → Prop} {ρ : Ren}

theorem HR.congr {K K' : Nat → Prop} {H : CH} {W : World} (hr : HR K ρ H W) (h : ∀ b, K' b ↔ K b) : HR K' ρ H W := by
  have : K' = K := funext fun b => propext (h b)
  rw [this]; exact hr

/-- a row that nobody knows -/
theorem HR.garbage {K K' : Nat → Prop} {H : CH} {W : World} (hr : HR K ρ H W) (h : ∀ b, K' b → K b ∨ b = W.heap.size) (o : Obj) : HR K' ρ H { W with heap := W.heap.push o } := by
  refine ⟨fun i p hp => ?_, hr.big, fun i cb hi hl => ?_, hr.inj, fun b hb => ?_, hr.zero⟩
  · obtain ⟨h1, h2, h3⟩ := hr.dom i p hp
    refine ⟨h1, fun hb => ?_, by simp; omega⟩
    rcases h _ hb with hb | hb
    · exact h2 hb
    · omega
  · obtain ⟨p, hp, hB⟩ := hr.blk i cb hi hl
    have := (hr.dom i p hp).2.2
    exact ⟨p, hp, hB.mono (.refl _) (by show (W.heap.push o)[p.b]? = _; rw [Array.getElem?_push, if_neg (by omega)])⟩
  · rcases h _ hb with hb | hb
    · have := hr.base b hb; simp; omega
    · simp; omega

/-- it is known from here on -/
theorem HR.adopt {K : Nat → Prop} {H : CH} {W : World} (hr : HR K ρ H W) {b : Nat} {cells : List Value} {elem : TypeId} (hb : K b) (hw : W.heap[b]? = some (.cells ⟨cells⟩ elem (0, 0))) (hst : ∀ v, v ∈ cells → still v = true) (hn : H.next < BIG) (hc : cells.length < BIG) :
    ρ.le (ρ.put H.next ⟨b, 0, cells.length⟩) ∧ HR (fun x => K x ∧ x ≠ b) (ρ.put H.next ⟨b, 0, cells.length⟩) ⟨H.next + 1, T.set (.cells cells.length (ofList cells 0 .e) .nilIface elem true) 60 H.m H.next⟩ W := by
  have hle : ρ.le (ρ.put H.next ⟨b, 0, cells.length⟩) := by
    intro i p hp
    have := (hr.dom i p hp).1
    unfold Ren.put; rw [if_neg (by omega)]; exact hp
  have h60 : H.next + 1 < 2 ^ 60 := by unfold BIG at hn; omega
  have hbW := hr.base b hb
  have get : ∀ j cj, (T.set (CB.cells cells.length (ofList cells 0 .e) .nilIface elem true) 60 H.m H.next).get j = some cj → (j = H.next ∧ cj = .cells cells.length (ofList cells 0 .e) .nilIface elem true) ∨ (j ≠ H.next ∧ H.m.get j = some cj) := by
    intro j cj h
    by_cases e : j = H.next
    · subst e; rw [T.get_set _ _ _ _ h60] at h; cases h; exact .inl ⟨rfl, rfl⟩
    · rw [T.get_set_ne _ _ _ _ _ e] at h; exact .inr ⟨e, h⟩
  have put_ne : ∀ j, j ≠ H.next → (ρ.put H.next ⟨b, 0, cells.length⟩) j = ρ j := fun j e => by unfold Ren.put; rw [if_neg e]
  have put_eq : (ρ.put H.next ⟨b, 0, cells.length⟩) H.next = some ⟨b, 0, cells.length⟩ := by unfold Ren.put; rw [if_pos rfl]
  refine ⟨hle, fun j q hq => ?_, by show H.next + 1 ≤ BIG; omega, fun j cj hj hjl => ?_, fun j k cj ck q r hj hjl hk hkl hq hr' e => ?_, fun x hx => hr.base x hx.1, fun j q hq => ?_⟩
  · by_cases e : j = H.next
    · subst e; rw [put_eq] at hq; cases hq
      exact ⟨Nat.lt_succ_self _, fun h => h.2 rfl, hbW⟩
    · rw [put_ne j e] at hq
      obtain ⟨h1, h2, h3⟩ := hr.dom j q hq
      exact ⟨by show j < H.next + 1; omega, fun h => h2 h.1, h3⟩
  · rcases get j cj hj with ⟨rfl, rfl⟩ | ⟨hne, hj'⟩
    · refine ⟨_, put_eq, ⟨cells⟩, hw, by simp, fun _ => ⟨rfl, rfl⟩, by simp, fun k v hv => ?_⟩
      obtain ⟨hk, hv⟩ := at_some hv
      have hl : cells[k]? = some cells[k] := by simp [hk]
      have := ofList_get cells 0 .e k _ (by omega) hl
      rw [Nat.zero_add] at this
      rw [this] at hv
      simp at hv; subst hv
      exact ⟨cells[k], by simp [hk], VR.of_still (hst _ (by simp))⟩
    · obtain ⟨q, hq, hB⟩ := hr.blk j cj hj' hjl
      exact ⟨q, by rw [put_ne j hne]; exact hq, hB.mono hle rfl⟩
  · rcases get j cj hj with ⟨rfl, rfl⟩ | ⟨hne, hj'⟩ <;> rcases get k ck hk with ⟨rfl, rfl⟩ | ⟨hne2, hk'⟩
    · rfl
    · rw [put_eq] at hq; cases hq
      rw [put_ne k hne2] at hr'
      have := (hr.dom k r hr').2.1
      have e : b = r.b := e
      rw [e] at hb; exact absurd hb this
    · rw [put_eq] at hr'; cases hr'
      rw [put_ne j hne] at hq
      have := (hr.dom j q hq).2.1
      have e : q.b = b := e
      rw [← e] at hb; exact absurd hb this
    · rw [put_ne j hne] at hq; rw [put_ne k hne2] at hr'
      exact hr.inj j k cj ck q r hj' hjl hk' hkl hq hr' e
  · by_cases e : j = H.next
    · subst e; rw [put_eq] at hq; cases hq; rfl
    · rw [put_ne j e] at hq; exact hr.zero j q hq

/-- what a made slice is, in the run and in the model -/
structure Slab (P : PT) (o : Oper) (R : Env) (H : CH) (w : Value) (H1 : CH) (n m : Nat) (elem : TypeId) (cells : List Value) : Prop where
  val : w = .slice (some ⟨H.next, 0, none⟩) n m
  heap : H1 = ⟨H.next + 1, T.set (.cells cells.length (ofList cells 0 .e) .nilIface elem true) 60 H.m H.next⟩
  next : H.next < BIG
  len : cells.length < BIG
  cap : m < UNK
  still : ∀ v, v ∈ cells → still v = true
  run : ∀ (N : Nat) (ρ : Ren) (a : Act) (W : World), SR N ρ R a → (execOp a.eval o).run P.P W = .ok (.value (.slice (some ⟨W.heap.size, 0, none⟩) n m)) { W with heap := W.heap.push (.cells ⟨cells⟩ elem) }

theorem cslab_int {t : TypeId} {l c : Value} {x : Nat × Nat × TypeId × List Value} (h : cslab P t l c = some x) : ∃ k1 i k2 j, l = .int k1 i ∧ c = .int k2 j := by
  unfold cslab at h
  cases hu : under P t with
  | none => rw [hu] at h; cases h
  | some u =>
  rw [hu] at h
  cases u with
  | slice elem' =>
    cases l with
    | int k1 l =>
      cases c with
      | int k2 c => exact ⟨_, _, _, _, rfl, rfl⟩
      | _ => simp at h
    | _ => simp at h
  | _ => simp at h

theorem fresh_slab {o : Oper} {R : Env} {H H1 : CH} {w : Value} (hf : isFresh o = true) (e : cvalue P call ops o R H = some (w, H1)) : ∃ n m elem cells, Slab P o R H w H1 n m elem cells := by
  unfold isFresh at hf
  split at hf
  case h_2 => cases hf
  rename_i t l c dd ho hg hd
  unfold cvalue at e
  have hw : wantedC ops o R = some true := by unfold wantedC; rw [hg]
  have hc : ccallee (ceval R) o = none := by unfold ccallee; rw [ho]
  rw [hw, hc] at e
  obtain ⟨r, H2, e1, f1⟩ := bind_some e
  obtain ⟨rfl, rfl⟩ := ret_some f1
  unfold cop at e1
  rw [ho] at e1
  obtain ⟨x, H3, e2, f2⟩ := bind_some e1
  obtain ⟨rfl, rfl⟩ := ret_some f2
  obtain ⟨lv, H4, e3, f3⟩ := bind_some e2
  obtain ⟨hl, rfl⟩ := opt_some e3
  obtain ⟨cv, H5, e4, f4⟩ := bind_some f3
  obtain ⟨hcv, rfl⟩ := opt_some e4
  unfold cmakeSlice at f4
  cases hs : cslab P t lv cv with
  | none => simp only [hs] at f4; cases f4
  | some q =>
  obtain ⟨n, m, elem, cells⟩ := q
  simp only [hs] at f4
  obtain ⟨a, H6, e5, f5⟩ := bind_some f4
  obtain ⟨rfl, rfl⟩ := ret_some f5
  unfold cnew at e5
  cases hlb : Nat.blt cells.length BIG with
  | false => simp only [hlb] at e5; cases e5
  | true =>
  simp only [hlb] at e5
  cases hcp : cput (CB.cells cells.length (ofList cells 0 T.e) Value.nilIface elem true) H5 with
  | none => simp only [hcp] at e5; cases e5
  | some q =>
  obtain ⟨i, H7⟩ := q
  simp only [hcp] at e5
  cases e5
  rw [cput_at] at hcp
  cases hnb : Nat.blt H5.next BIG with
  | false => simp only [hnb] at hcp; cases hcp
  | true =>
  simp only [hnb] at hcp
  cases hcp
  obtain ⟨k1, i1, k2, i2, e7, e8⟩ := cslab_int hs
  have hk := cslab_ok (P := P) (ρ := fun _ => none) (by rw [e7]; exact VR.int k1 i1) (by rw [e8]; exact VR.int k2 i2) hs
  refine ⟨n, m, elem, cells, rfl, rfl, by simpa [Nat.blt_eq] using hnb, by simpa [Nat.blt_eq] using hlb, hk.1, hk.2.1, fun N ρ a W hsr => ?_⟩
  have hrun := (cslab_ok (P := P) (ceval_ok hsr _ _ hl) (ceval_ok hsr _ _ hcv) hs).2.2 W
  simp only [execOp, ho, Sem.run_bind, hrun]
  rfl

end
end
end Go.CE
/- CE, part 25: where a drawn region stands. -/
namespace Go.CE
noncomputable section
open Go.AX (usesOf beforeAll edgesOk memN memN_iff bef_done edgesOk_spec countP_add getD_swap)

section
variable {P : PT} {call : CallF} {n : Nat} {fr : Bool} {ops : Array Oper} {base : Nat → Prop} {ρ : Ren}

theorem put_same {a : Act} {d : Tmp} {v : Value} (h : d < a.tmps.size) : (a.put (some d) v).tmps.getD d undef = v := by
  simp only [Act.put, Array.getD_eq_getD_getElem?, Array.getElem?_setIfInBounds, if_true]
  rw [if_pos h]; rfl
theorem put_other {a : Act} {d : Option Tmp} {t : Tmp} {v : Value} (h : d ≠ some t) : (a.put d v).tmps.getD t undef = a.tmps.getD t undef := by
  cases d with
  | none => rfl
  | some d =>
    simp only [Act.put, Array.getD_eq_getD_getElem?, Array.getElem?_setIfInBounds]
    rw [if_neg (fun e => h (by rw [e]))]
theorem put_size {a : Act} {d : Option Tmp} {v : Value} : (a.put d v).tmps.size = a.tmps.size := by
  cases d with
  | none => rfl
  | some d => simp [Act.put]
theorem put_defers {a : Act} {d : Option Tmp} {v : Value} : (a.put d v).defers = a.defers := by cases d <;> rfl

/-! ## the list has each once -/
theorem zip_ge : ∀ {l : List Oper} {i : Nat} {x : Oper × Nat}, x ∈ l.zipIdx i → i ≤ x.2
  | [], _, _, h => by simp at h
  | o :: l, i, x, h => by
    rw [List.zipIdx_cons] at h
    rcases List.mem_cons.1 h with rfl | h
    · exact Nat.le_refl _
    · have := zip_ge h; omega
theorem zip_nodup : ∀ (l : List Oper) (i : Nat), (l.zipIdx i).Nodup
  | [], _ => by simp
  | o :: l, i => by
    rw [List.zipIdx_cons, List.nodup_cons]
    refine ⟨fun h => ?_, zip_nodup l (i + 1)⟩
    have := zip_ge h
    simp at this
    omega
theorem cl_nodup : (cl fr ops).Nodup := by
  unfold cl
  have hz := zip_nodup ops.toList 0
  rw [List.nodup_append, List.nodup_append]
  refine ⟨hz.filter _, ⟨hz.filter _, hz.filter _, fun x hx y hy e => ?_⟩, fun x hx y hy e => ?_⟩
  · subst e
    have h1 := (mem_cf.1 hx).2
    have h2 := (mem_c2.1 hy).2.1
    rw [h1] at h2; cases h2
  · subst e
    obtain ⟨_, h1, h2⟩ := mem_c1.1 hx
    rcases List.mem_append.1 hy with h | h
    · have := (mem_cf.1 h).2
      rw [h1] at this; cases this
    · have := (mem_c2.1 h).2.2
      rw [h2] at this; cases this

theorem split_unique {α : Type} {p q p' q' : List α} {x : α} (hnd : (p ++ x :: q).Nodup) (h : p ++ x :: q = p' ++ x :: q') : p = p' := by
  rcases List.append_eq_append_iff.1 h with ⟨a, h1, h2⟩ | ⟨a, h1, h2⟩
  · cases a with
    | nil => simpa using h1.symm
    | cons y a =>
      rw [List.cons_append] at h2
      injection h2 with h3 h4
      exfalso
      rw [List.nodup_append] at hnd
      have := (List.nodup_cons.1 hnd.2.1).1
      exact this (by rw [h4]; simp)
  · cases a with
    | nil => simpa using h1
    | cons y a =>
      rw [List.cons_append] at h2
      injection h2 with h3 h4
      exfalso
      rw [h, List.nodup_append] at hnd
      have := (List.nodup_cons.1 hnd.2.1).1
      exact this (by rw [h4]; simp)

theorem pre_c1 {pre post : List (Oper × Nat)} {x : Oper × Nat} (e : cl fr ops = pre ++ x :: post) (hx : x ∈ c1 fr ops) : ∀ y, y ∈ pre → y ∈ c1 fr ops := by
  obtain ⟨p1, p2, h⟩ := List.append_of_mem hx
  have e2 : cl fr ops = p1 ++ x :: (p2 ++ (cf fr ops ++ c2 fr ops)) := by unfold cl; rw [h]; simp
  have := split_unique (by rw [← e2]; exact cl_nodup) (e2.symm.trans e)
  intro y hy
  rw [h, this]; simp [hy]
theorem pre_cf {pre post : List (Oper × Nat)} {x : Oper × Nat} (e : cl fr ops = pre ++ x :: post) (hx : x ∈ cf fr ops) : ∀ y, y ∈ pre → y ∈ c1 fr ops ∨ y ∈ cf fr ops := by
  obtain ⟨p1, p2, h⟩ := List.append_of_mem hx
  have e2 : cl fr ops = (c1 fr ops ++ p1) ++ x :: (p2 ++ c2 fr ops) := by unfold cl; rw [h]; simp
  have := split_unique (by rw [← e2]; exact cl_nodup) (e2.symm.trans e)
  intro y hy
  rw [← this] at hy
  rcases List.mem_append.1 hy with hy | hy
  · exact .inl hy
  · rw [h]; exact .inr (by simp [hy])
theorem post_c2 {pre post : List (Oper × Nat)} {x : Oper × Nat} (e : cl fr ops = pre ++ x :: post) (hx : x ∈ c2 fr ops) : (∀ y, y ∈ post → y ∈ c2 fr ops) ∧ ∀ y, y ∈ cf fr ops → y ∈ pre := by
  obtain ⟨p1, p2, h⟩ := List.append_of_mem hx
  have e2 : cl fr ops = (c1 fr ops ++ (cf fr ops ++ p1)) ++ x :: p2 := by unfold cl; rw [h]; simp
  have hu := split_unique (by rw [← e2]; exact cl_nodup) (e2.symm.trans e)
  have : x :: p2 = x :: post := by
    have := e2.symm.trans e
    rw [hu] at this
    exact List.append_cancel_left this
  injection this with _ h4
  exact ⟨fun y hy => by rw [h, h4]; simp [hy], fun y hy => by rw [← hu]; simp [hy]⟩

/-- all new rows are made, and all is done that comes ahead of their users -/
def Complete (fr : Bool) (ops : Array Oper) (D : Nat → Bool) : Prop := (∀ x, x ∈ cf fr ops → D x.2 = true) ∧ ∀ x, x ∈ c1 fr ops → isRead x.1 = false → D x.2 = true

/-- how far the run is -/
def kOf (fr : Bool) (ops : Array Oper) (D : Nat → Bool) : Bool → Nat
  | true => nn fr ops D
  | false => na fr ops D
theorem kOf_true {D : Nat → Bool} : kOf fr ops D true = nn fr ops D := rfl
theorem kOf_false {D : Nat → Bool} : kOf fr ops D false = na fr ops D := rfl
theorem nn_le {D D' : Nat → Bool} (h : ∀ y, y ∈ cl fr ops → (!isRead y.1) = true → D y.2 = true → D' y.2 = true) : nn fr ops D ≤ nn fr ops D' := count_mono (q := fun y => !isRead y.1) (q' := fun y => !isRead y.1) fun y hy hq hd => ⟨hq, h y hy hq hd⟩
theorem nn_le_na {D D' : Nat → Bool} (h : ∀ y, y ∈ cl fr ops → isRead y.1 = false → D y.2 = true → isF fr y.1 = false ∧ D' y.2 = true) : nn fr ops D ≤ na fr ops D' := count_mono (q := fun y => !isRead y.1) (q' := fun y => isAct fr y.1) fun y hy hq hd => by
  have hq : isRead y.1 = false := by simpa using hq
  exact ⟨act_of hq (h y hy hq hd).1, (h y hy hq hd).2⟩
theorem na_le_nn {D D' : Nat → Bool} (h : ∀ y, y ∈ cl fr ops → isAct fr y.1 = true → D y.2 = true → D' y.2 = true) : na fr ops D ≤ nn fr ops D' := count_mono (q := fun y => isAct fr y.1) (q' := fun y => !isRead y.1) fun y hy hq hd => ⟨by simp [(act_read hq).1], h y hy hq hd⟩
theorem na_same {D D' : Nat → Bool} (h : ∀ y, y ∈ cl fr ops → isAct fr y.1 = true → D y.2 = D' y.2) : na fr ops D = na fr ops D' := count_same (q := fun y => isAct fr y.1) h
theorem nn_same {D D' : Nat → Bool} (h : ∀ y, y ∈ cl fr ops → (!isRead y.1) = true → D y.2 = D' y.2) : nn fr ops D = nn fr ops D' := count_same (q := fun y => !isRead y.1) h

/-- where a drawn region stands: D are done; ph: the new rows are known -/
structure DInv (P : PT) (base : Nat → Prop) (n : Nat) (fr : Bool) (ops : Array Oper) (ρ : Ren) (E0 E : Env) (Hs : List CH) (W0 : World) (D : Nat → Bool) (a : Act) (W : World) (ph : Bool) (K : Nat → Prop) (pl : Nat → Nat) (ρ' : Ren) (Hk : CH) : Prop where
  le : ρ.le ρ'
  at_ : Hs[kOf fr ops D ph]? = some Hk
  hr : HR K ρ' Hk W
  ext : Ext base W0 W
  size : a.tmps.size = n
  defers : a.defers = []
  getN : ∀ t v, E0.get t = some v → (∀ x, x ∈ cl fr ops → x.1.dst = some t → D x.2 = false) → VR ρ' v (a.tmps.getD t undef)
  getW : ∀ t v x, x ∈ cl fr ops → x.1.dst = some t → D x.2 = true → (ph = false → x ∈ c1 fr ops) → E.get t = some v → VR ρ' v (a.tmps.getD t undef)
  kB : ph = true → K = base
  kA : ph = false → ∀ b, K b ↔ (base b ∨ ∃ x, x ∈ cf fr ops ∧ D x.2 = true ∧ b = pl x.2)
  fresh : ph = false → ∀ x, x ∈ cf fr ops → D x.2 = true → ∃ d k m elem cells R Hc w H1, x.1.dst = some d ∧ E.get d = some w ∧ Slab P x.1 R Hc w H1 k m elem cells ∧ (∀ pre post, cl fr ops = pre ++ x :: post → Hs[acts pre]? = some Hc ∧ Hs[acts pre + 1]? = some H1) ∧
    a.tmps.getD d undef = .slice (some ⟨pl x.2, 0, none⟩) k m ∧ W.heap[pl x.2]? = some (.cells ⟨cells⟩ elem (0, 0))
  inj : ph = false → ∀ x y, x ∈ cf fr ops → y ∈ cf fr ops → D x.2 = true → D y.2 = true → pl x.2 = pl y.2 → x = y
  away : ph = false → ∀ x, x ∈ cf fr ops → D x.2 = true → ¬ base (pl x.2)
  lates : ph = false → ∀ y, y ∈ c2 fr ops → D y.2 = true → isRead y.1 = true ∧ ∃ x d t w, x ∈ cf fr ops ∧ D x.2 = true ∧ x.1.dst = some t ∧ y.1.dst = some d ∧ a.tmps.getD d undef = a.tmps.getD t undef ∧ E.get d = some w ∧ E.get t = some w
  full : ph = true → Complete fr ops D

theorem acts_fresh : ∀ {l : List (Oper × Nat)}, (∀ x, x ∈ l → isF fr x.1 = true) → acts l = l.length
  | [], _ => rfl
  | x :: l, h => by
    have := acts_fresh (l := l) fun y hy => h y (List.mem_cons_of_mem _ hy)
    unfold acts at this ⊢
    rw [List.countP_cons, this]
    simp [isF_read (h x (by simp))]

theorem acts_app (l m : List (Oper × Nat)) : acts (l ++ m) = acts l + acts m := List.countP_append ..

theorem adopt_all {E : Env} {Hs : List CH} {D : Nat → Bool} {a : Act} {W : World} {pl : Nat → Nat} {ρ' : Ren} (hD : ∀ x, x ∈ cf fr ops → D x.2 = true)
    (hf : ∀ x, x ∈ cf fr ops → D x.2 = true → ∃ d k m elem cells R Hc w H1, x.1.dst = some d ∧ E.get d = some w ∧ Slab P x.1 R Hc w H1 k m elem cells ∧ (∀ pre post, cl fr ops = pre ++ x :: post → Hs[acts pre]? = some Hc ∧ Hs[acts pre + 1]? = some H1) ∧
      a.tmps.getD d undef = .slice (some ⟨pl x.2, 0, none⟩) k m ∧ W.heap[pl x.2]? = some (.cells ⟨cells⟩ elem (0, 0)))
    (hinj : ∀ x y, x ∈ cf fr ops → y ∈ cf fr ops → D x.2 = true → D y.2 = true → pl x.2 = pl y.2 → x = y) (haw : ∀ x, x ∈ cf fr ops → D x.2 = true → ¬ base (pl x.2)) :
    ∀ (todo dn : List (Oper × Nat)), cf fr ops = dn ++ todo → ∀ (ρi : Ren) (Hi : CH), ρ'.le ρi → HR (fun b => base b ∨ ∃ x, x ∈ todo ∧ b = pl x.2) ρi Hi W → Hs[acts (c1 fr ops) + dn.length]? = some Hi →
      (∀ x, x ∈ dn → ∃ d w, x.1.dst = some d ∧ E.get d = some w ∧ VR ρi w (a.tmps.getD d undef)) →
      ∃ ρ2 H2, ρ'.le ρ2 ∧ HR base ρ2 H2 W ∧ Hs[acts (c1 fr ops) + (cf fr ops).length]? = some H2 ∧ ∀ x, x ∈ cf fr ops → ∃ d w, x.1.dst = some d ∧ E.get d = some w ∧ VR ρ2 w (a.tmps.getD d undef)
  | [], dn, e, ρi, Hi, hle, hr, hat, hv => by
    rw [List.append_nil] at e
    refine ⟨ρi, Hi, hle, hr.congr fun b => ?_, by rw [e]; exact hat, by rw [e]; exact hv⟩
    simp
  | x :: todo, dn, e, ρi, Hi, hle, hr, hat, hv => by
    have hx : x ∈ cf fr ops := by rw [e]; simp
    obtain ⟨d, k, m, elem, cells, R, Hc, w, H1, f1, f2, f3, f4, f5, f6⟩ := hf x hx (hD x hx)
    have hcl : cl fr ops = (c1 fr ops ++ dn) ++ x :: (todo ++ c2 fr ops) := by unfold cl; rw [e]; simp
    have hacts : acts (c1 fr ops ++ dn) = acts (c1 fr ops) + dn.length := by
      rw [acts_app, acts_fresh (fr := fr) (l := dn) fun y hy => (mem_cf.1 (show y ∈ cf fr ops by rw [e]; simp [hy])).2]
    obtain ⟨g1, g2⟩ := f4 _ _ hcl
    rw [hacts] at g1 g2
    rw [hat] at g1; cases g1
    obtain ⟨hle2, hr2⟩ := hr.adopt (b := pl x.2) (.inr ⟨x, by simp, rfl⟩) f6 f3.still f3.next f3.len
    have hnd : (dn ++ x :: todo).Nodup := by
      have := (cl_nodup (fr := fr) (ops := ops))
      unfold cl at this
      rw [List.nodup_append, List.nodup_append] at this
      rw [← e]; exact this.2.1.1
    refine adopt_all hD hf hinj haw todo (dn ++ [x]) (by rw [e]; simp) _ _ (hle.trans hle2) (hr2.congr fun b => ?_) ?_ fun y hy => ?_
    · constructor
      · rintro (h | ⟨y, hy, rfl⟩)
        · exact ⟨.inl h, fun e' => haw x hx (hD x hx) (by rw [← e']; exact h)⟩
        · refine ⟨.inr ⟨y, List.mem_cons_of_mem _ hy, rfl⟩, fun e' => ?_⟩
          have hy2 : y ∈ cf fr ops := by rw [e]; simp [hy]
          have := hinj y x hy2 hx (hD y hy2) (hD x hx) e'
          subst this
          rw [List.nodup_append] at hnd
          exact (List.nodup_cons.1 hnd.2.1).1 hy
      · rintro ⟨h | ⟨y, hy, rfl⟩, hne⟩
        · exact .inl h
        · rcases List.mem_cons.1 hy with rfl | hy
          · exact absurd rfl hne
          · exact .inr ⟨y, hy, rfl⟩
    · rw [List.length_append, List.length_singleton, ← Nat.add_assoc, ← f3.heap]; exact g2
    · rcases List.mem_append.1 hy with hy | hy
      · obtain ⟨d', w', h1, h2, h3⟩ := hv y hy
        exact ⟨d', w', h1, h2, h3.mono hle2⟩
      · rw [List.mem_singleton] at hy; subst hy
        refine ⟨d, w, f1, f2, ?_⟩
        rw [f3.val, f5]
        exact VR.sl ⟨⟨pl y.2, 0, cells.length⟩, by simp [Ren.put], by simp⟩ f3.cap

theorem DInv.promote {E0 E : Env} {Hs : List CH} {W0 W : World} {D : Nat → Bool} {a : Act} {K : Nat → Prop} {pl : Nat → Nat} {ρ' : Ren} {Hk : CH} (hi : DInv P base n fr ops ρ E0 E Hs W0 D a W false K pl ρ' Hk) (hc : Complete fr ops D) :
    ∃ ρ2 H2, DInv P base n fr ops ρ E0 E Hs W0 D a W true base pl ρ2 H2 := by
  have c1q : ∀ x, x ∈ c1 fr ops → isAct fr x.1 = !isRead x.1 := fun x hx => by simp [isAct, (mem_c1.1 hx).2.1]
  have na_eq : na fr ops D = acts (c1 fr ops) := by
    unfold na cl acts
    rw [List.countP_append, List.countP_append]
    have e1 : (c1 fr ops).countP (fun x => isAct fr x.1 && D x.2) = (c1 fr ops).countP (fun x => !isRead x.1) := by
      apply List.countP_congr
      intro x hx
      rw [c1q x hx]
      cases hr : isRead x.1 with
      | true => simp
      | false => simp [hc.2 x hx hr]
    have e2 : (cf fr ops).countP (fun x => isAct fr x.1 && D x.2) = 0 := by
      rw [List.countP_eq_zero]
      intro x hx
      simp [isAct, (mem_cf.1 hx).2]
    have e3 : (c2 fr ops).countP (fun x => isAct fr x.1 && D x.2) = 0 := by
      rw [List.countP_eq_zero]
      intro x hx
      cases hd : D x.2 with
      | false => simp
      | true => simp [isAct, (hi.lates rfl x hx hd).1]
    rw [e1, e2, e3]; omega
  have nn_eq : nn fr ops D = acts (c1 fr ops) + (cf fr ops).length := by
    unfold nn cl acts
    rw [List.countP_append, List.countP_append]
    have e1 : (c1 fr ops).countP (fun x => !isRead x.1 && D x.2) = (c1 fr ops).countP (fun x => !isRead x.1) := by
      apply List.countP_congr
      intro x hx
      cases hr : isRead x.1 with
      | true => simp
      | false => simp [hc.2 x hx hr]
    have e2 : (cf fr ops).countP (fun x => !isRead x.1 && D x.2) = (cf fr ops).length := by
      rw [List.countP_eq_length]
      intro x hx
      simp [isF_read (mem_cf.1 hx).2, hc.1 x hx]
    have e3 : (c2 fr ops).countP (fun x => !isRead x.1 && D x.2) = 0 := by
      rw [List.countP_eq_zero]
      intro x hx
      cases hd : D x.2 with
      | false => simp
      | true => simp [(hi.lates rfl x hx hd).1]
    rw [e1, e2, e3]; omega
  have hat : Hs[na fr ops D]? = some Hk := hi.at_
  rw [na_eq] at hat
  obtain ⟨ρ2, H2, h1, h2, h3, h4⟩ := adopt_all hc.1 (hi.fresh rfl) (hi.inj rfl) (hi.away rfl) (cf fr ops) [] (by simp) ρ' Hk (.refl _) (hi.hr.congr fun b => by
    rw [hi.kA rfl b]
    constructor
    · rintro (h | ⟨x, hx, e⟩)
      · exact .inl h
      · exact .inr ⟨x, hx, hc.1 x hx, e⟩
    · rintro (h | ⟨x, hx, _, e⟩)
      · exact .inl h
      · exact .inr ⟨x, hx, e⟩) (by simpa using hat) fun x hx => by simp at hx
  refine ⟨ρ2, H2, ⟨hi.le.trans h1, by show Hs[nn fr ops D]? = _; rw [nn_eq]; exact h3, h2, hi.ext, hi.size, hi.defers, fun t v e hw => (hi.getN t v e hw).mono h1, fun t v x hx hd hD _ hE => ?_, fun _ => rfl, fun h => (by cases h), fun h => (by cases h), fun h => (by cases h), fun h => (by cases h), fun h => (by cases h), fun _ => hc⟩⟩
  rcases cl_cases hx with hx1 | hx1 | hx1
  · exact (hi.getW t v x hx hd hD (fun _ => hx1) hE).mono h1
  · obtain ⟨d, w, q1, q2, q3⟩ := h4 x hx1
    rw [hd] at q1; cases q1
    rw [hE] at q2; cases q2
    exact q3
  · obtain ⟨_, y, d, t', w, q1, q2, q3, q4, q5, q6, q7⟩ := hi.lates rfl x hx1 hD
    rw [hd] at q4; cases q4
    rw [hE] at q6; cases q6
    obtain ⟨d', w', r1, r2, r3⟩ := h4 y q1
    rw [q3] at r1; cases r1
    rw [q7] at r2; cases r2
    rw [q5]; exact r3

end
end
end Go.CE
/- CE, part 26: a drawn region does what the run does. -/
namespace Go.CE
noncomputable section
open Go.AX (usesOf beforeAll edgesOk memN memN_iff bef_done edgesOk_spec countP_add getD_swap)

section
variable {P : PT} {call : CallF} {n : Nat} {fr : Bool} {ops : Array Oper} {base : Nat → Prop}

theorem Ext.weaken {K : Nat → Prop} {W W' : World} (h : Ext K W W') (hk : ∀ b, base b → K b) : Ext base W W' := ⟨h.os, h.tape, h.output, h.size, fun b hb => h.frame b (hk b hb)⟩

theorem copy_run {o : Oper} {t : Tmp} (h : copyOf o = some t) : o.guard = none ∧ isRead o = true ∧ (∀ (a : Act) (P : Program) (W : World), (execOp a.eval o).run P W = .ok (.value (a.tmps.getD t undef)) W) ∧
    ∀ (P : PT) (call : CallF) (ops : Array Oper) (R : Env) (H H1 : CH) (w : Value), cvalue P call ops o R H = some (w, H1) → R.get t = some w := by
  unfold copyOf at h
  split at h
  · rename_i t' ho hg
    cases h
    refine ⟨hg, by simp [isRead, ho], fun a P W => by simp only [execOp, ho]; rfl, fun P call ops R H H1 w e => ?_⟩
    unfold cvalue at e
    have hw : wantedC ops o R = some true := by unfold wantedC; rw [hg]
    have hc : ccallee (ceval R) o = none := by unfold ccallee; rw [ho]
    rw [hw, hc] at e
    obtain ⟨r, H2, e1, f1⟩ := bind_some e
    obtain ⟨rfl, rfl⟩ := ret_some f1
    unfold cop at e1
    rw [ho] at e1
    obtain ⟨x, H3, e2, f2⟩ := bind_some e1
    obtain ⟨rfl, rfl⟩ := ret_some f2
    exact (opt_some e2).1
  · rename_i t' ho hg
    cases h
    refine ⟨hg, by simp [isRead, ho], fun a P W => by simp only [execOp, ho]; rfl, fun P call ops R H H1 w e => ?_⟩
    unfold cvalue at e
    have hw : wantedC ops o R = some true := by unfold wantedC; rw [hg]
    have hc : ccallee (ceval R) o = none := by unfold ccallee; rw [ho]
    rw [hw, hc] at e
    obtain ⟨r, H2, e1, f1⟩ := bind_some e
    obtain ⟨rfl, rfl⟩ := ret_some f1
    unfold cop at e1
    rw [ho] at e1
    obtain ⟨x, H3, e2, f2⟩ := bind_some e1
    obtain ⟨rfl, rfl⟩ := ret_some f2
    exact (opt_some e2).1
  · cases h

theorem draw_go (hst : Stat fr ops) (hcall : ∀ K, CallOK P K call) {ρ : Ren} {E0 E : Env} {H : CH} {hs : List CH} {ws : List (Env × Value)} (hseq : cseq P call n ops (cl fr ops) E0 H = some (E, hs, ws)) (hdyn : dynOk P call fr ops (H :: hs) (cl fr ops) ws = true)
    {W0 : World} {Q : Exit → Act → World → Prop} (hQ : ∀ ρ' a' W', ρ.le ρ' → HR base ρ' ((H :: hs).getLast (List.cons_ne_nil _ _)) W' → SR n ρ' E a' → Ext base W0 W' → Q .normal a' W') :
    ∀ (fuel : Nat) (listed : Array Bool) (a : Act) (W : World), listed.size = ops.size → (List.range ops.size).countP (fun k => !listed.getD k false) ≤ fuel →
      (∀ (j : Nat) (o : Oper), ops[j]? = some o → listed.getD j false = true → ∀ e, e ∈ o.after → Region.binds .any e = true → listed.getD e.on false = true) →
      (∃ ph K pl ρ' Hk, DInv P base n fr ops ρ E0 E (H :: hs) W0 (fun k => listed.getD k false) a W ph K pl ρ' Hk) → wpAny P .any ops Q fuel listed a W := by
  have hlen := cseq_len hseq
  have known : ∀ (D : Nat → Bool) (a : Act) (W : World), (∃ ph K pl ρ' Hk, DInv P base n fr ops ρ E0 E (H :: hs) W0 D a W ph K pl ρ' Hk) → ∃ ph K pl ρ' Hk, DInv P base n fr ops ρ E0 E (H :: hs) W0 D a W ph K pl ρ' Hk ∧ (ph = false → ¬ Complete fr ops D) := by
    rintro D a W ⟨ph, K, pl, ρ', Hk, hi⟩
    cases ph with
    | true => exact ⟨true, K, pl, ρ', Hk, hi, fun h => by cases h⟩
    | false =>
      by_cases hc : Complete fr ops D
      · obtain ⟨ρ2, H2, h2⟩ := hi.promote hc
        exact ⟨true, base, pl, ρ2, H2, h2, fun h => by cases h⟩
      · exact ⟨false, K, pl, ρ', Hk, hi, fun _ => hc⟩
  have fin : ∀ (listed : Array Bool) (a : Act) (W : World), listed.size = ops.size → Region.ready .any ops listed = [] → (∃ ph K pl ρ' Hk, DInv P base n fr ops ρ E0 E (H :: hs) W0 (fun k => listed.getD k false) a W ph K pl ρ' Hk) → Q .normal a W := by
    intro listed a W hsz hr hi0
    have key : ∀ m j, j < m → j < ops.size → listed.getD j false = true := by
      intro m
      induction m with
      | zero => intro j h; omega
      | succ m ih =>
        intro j hjm hj
        cases e : listed.getD j false with
        | true => rfl
        | false =>
          exfalso
          have hmem : j ∈ Region.ready .any ops listed := by
            rw [mem_ready]
            refine ⟨?_, ops[j], by simp [hj], fun e' he hb' => ?_⟩
            · rw [getD_swap (by omega)]; exact e
            · have hoj : ops[j]? = some ops[j] := by simp [hj]
              have := edgesOk_spec hst.edge hoj e' he hb'
              exact ih _ (by omega) (by omega)
          rw [hr] at hmem; simp at hmem
    have all : ∀ x, x ∈ cl fr ops → listed.getD x.2 false = true := fun x hx => key (x.2 + 1) x.2 (by omega) (Array.getElem?_eq_some_iff.1 (mem_cl.1 hx)).1
    have hc : Complete fr ops (fun k => listed.getD k false) := ⟨fun x hx => all x (cf_cl hx), fun x hx _ => all x (c1_cl hx)⟩
    obtain ⟨ph, K, pl, ρ', Hk, hi, hph⟩ := known _ _ _ hi0
    cases ph with
    | false => exact absurd hc (hph rfl)
    | true =>
    have hK := hi.kB rfl
    subst hK
    have hn : nn fr ops (fun k => listed.getD k false) = hs.length := by
      rw [hlen]
      unfold nn acts
      apply List.countP_congr
      intro x hx
      simp only [all x hx]; simp
    have hlast : Hk = (H :: hs).getLast (List.cons_ne_nil _ _) := by
      have h1 : (H :: hs)[nn fr ops (fun k => listed.getD k false)]? = some Hk := hi.at_
      rw [hn] at h1
      have h2 : (H :: hs)[hs.length]? = some ((H :: hs).getLast (List.cons_ne_nil _ _)) := by
        rw [List.getLast_eq_getElem, List.getElem?_eq_getElem (by simp)]
        simp
      rw [h2] at h1; cases h1; rfl
    have hr := hi.hr
    rw [hlast] at hr
    refine hQ ρ' a W hi.le hr ⟨hi.size, fun t v e => ?_, hi.defers⟩ hi.ext
    by_cases hw : ∃ x, x ∈ cl fr ops ∧ x.1.dst = some t
    · obtain ⟨x, hx, hd⟩ := hw
      exact hi.getW t v x hx hd (all x hx) (fun h => by cases h) e
    · refine hi.getN t v ?_ fun x hx hd => absurd ⟨x, hx, hd⟩ hw
      rw [← e]
      exact (cseq_get hseq t fun x hx hd => hw ⟨x, hx, hd⟩).symm
  intro fuel
  induction fuel with
  | zero =>
    intro listed a W hsz hcnt hdown hl
    have hr : Region.ready .any ops listed = [] := by
      apply List.eq_nil_iff_forall_not_mem.2
      intro j hj
      obtain ⟨h1, o, ho, _⟩ := mem_ready.1 hj
      have hj' : j < ops.size := (Array.getElem?_eq_some_iff.1 ho).1
      have : (List.range ops.size).countP (fun k => !listed.getD k false) = 0 := by omega
      have := List.countP_eq_zero.1 this j (List.mem_range.2 hj')
      rw [getD_swap (by omega)] at h1
      rw [h1] at this; exact this rfl
    exact ⟨hr, fin listed a W hsz hr hl⟩
  | succ fuel ih =>
    intro listed a W hsz hcnt hdown hl0
    refine ⟨fun hr => fin listed a W hsz hr hl0, fun j hj => ?_⟩
    obtain ⟨ph, K, pl, ρ', Hk, hl, hph⟩ := known _ _ _ hl0
    obtain ⟨hnl, o, ho, hready⟩ := mem_ready.1 hj
    have hj' : j < ops.size := (Array.getElem?_eq_some_iff.1 ho).1
    have hjl : j < listed.size := by omega
    have hnl : listed.getD j false = false := by rw [getD_swap hjl] at hnl; exact hnl
    have hbef : ∀ x, inBef ops x j = true → listed.getD x false = true := fun x hx =>
      bef_done (D := fun k => listed.getD k false) hdown (j + 1) j (by omega) _ ho hready x (inBef_ok hx)
    have hlater : ∀ y, y ∈ cl fr ops → listed.getD y.2 false = true → ¬ inBef ops j y.2 = true := by
      intro y hy hil hm
      have hp := mem_cl.1 hy
      have := bef_done (D := fun k => listed.getD k false) hdown (y.2 + 1) y.2 (by omega) _ hp (fun e he hb' => hdown _ _ hp hil e he hb') _ (inBef_ok hm)
      rw [hnl] at this; cases this
    have hx : (o, j) ∈ cl fr ops := mem_cl.2 ho
    obtain ⟨pre, post, hsp⟩ := List.append_of_mem hx
    have hnd : (pre ++ (o, j) :: post).Nodup := by rw [← hsp]; exact cl_nodup
    have hseq' := hseq
    rw [hsp] at hseq'
    obtain ⟨Ej, Hj, w, H1, g1, g2, g3, g4, g5, g6, g7⟩ := cseq_at hseq'
    have memp : ∀ y, y ∈ pre → y ∈ cl fr ops := fun y hy => by rw [hsp]; simp [hy]
    have memq : ∀ y, y ∈ post → y ∈ cl fr ops := fun y hy => by rw [hsp]; simp [hy]
    have xnp : (o, j) ∉ pre := fun h => by
      rw [List.nodup_append] at hnd
      exact hnd.2.2 _ h _ (by simp) rfl
    have xnq : (o, j) ∉ post := fun h => by
      rw [List.nodup_append] at hnd
      exact (List.nodup_cons.1 hnd.2.1).1 h
    have pnq : ∀ y, y ∈ pre → y ∉ post := fun y h1 h2 => by
      rw [List.nodup_append] at hnd
      exact hnd.2.2 y h1 y (by simp [h2]) rfl
    have hE : ∀ d, o.dst = some d → E.get d = some w := fun d hd => (g5 d hd).2.2 fun y hy he => (hst.pair hsp y hy).dst d hd he
    have other : ∀ k, k ≠ j → (listed.setIfInBounds j true).getD k false = listed.getD k false := fun k hk => getD_set_ne false (Ne.symm hk)
    have self : (listed.setIfInBounds j true).getD j false = true := by simp [hjl]
    have idx : ∀ y, y ∈ cl fr ops → y ≠ (o, j) → y.2 ≠ j := fun y hy hne e => hne (idx_eq hy hx e)
    -- what it sees is as it stands
    have hsr : (ph = false → (o, j) ∈ c1 fr ops ∨ (o, j) ∈ cf fr ops) → SR n ρ' (restr Ej (usesOf ops o)) a := by
      intro hwhere
      refine ⟨hl.size, fun t v ht => ?_, hl.defers⟩
      obtain ⟨h1, h2⟩ := restr_get ht
      by_cases hw : ∃ y, y ∈ cl fr ops ∧ y.1.dst = some t
      · obtain ⟨y, hy, hd⟩ := hw
        have uniq : ∀ z, z ∈ cl fr ops → z.1.dst = some t → z = y := fun z hz hzd => hst.dstU hz hy hzd hd
        have late : y ∉ pre → listed.getD y.2 false = false → VR ρ' v (a.tmps.getD t undef) := fun hyp hyd => by
          refine hl.getN t v ?_ fun z hz hzd => by rw [uniq z hz hzd]; exact hyd
          rw [← g6 t fun z hz hzd => hyp (by rw [← uniq z (memp z hz) hzd]; exact hz)]
          exact h1
        by_cases hyx : y = (o, j)
        · subst hyx; exact late xnp hnl
        · have hy' := hy
          rw [hsp] at hy'
          rcases List.mem_append.1 hy' with hyp | hyq
          · have hb := (hst.pre hsp y hyp).xu t hd h2
            refine hl.getW t v y hy hd (hbef _ hb) (fun hp => ?_) ?_
            · rcases hwhere hp with hc | hc
              · exact pre_c1 hsp hc y hyp
              · rcases pre_cf hsp hc y hyp with h | h
                · exact h
                · have := late_of_fresh (y := (o, j)) h hb
                  rw [hst.fresh _ hc] at this; cases this
            · rw [g4 t fun z hz hzd => ?_]
              · exact h1
              · rcases List.mem_cons.1 hz with rfl | hz
                · exact hyx (uniq _ hx hzd).symm
                · exact pnq y hyp (by rw [← uniq z (memq z hz) hzd]; exact hz)
          · rcases List.mem_cons.1 hyq with e | hyq
            · exact absurd e hyx
            · refine late (fun h => pnq y h hyq) ?_
              have hb := (hst.pair hsp y hyq).yu t hd h2
              cases hil : listed.getD y.2 false with
              | false => rfl
              | true => exact absurd hb (hlater y hy hil)
      · refine hl.getN t v ?_ fun y hy hyd => absurd ⟨y, hy, hyd⟩ hw
        rw [← g6 t fun y hy hyd => hw ⟨y, memp y hy, hyd⟩]
        exact h1
    have hcnt' : (List.range ops.size).countP (fun k => !(listed.setIfInBounds j true).getD k false) ≤ fuel := by
      have := countP_add (D := fun k => listed.getD k false) (D' := fun k => (listed.setIfInBounds j true).getD k false) (j := j) (fun k hk => getD_set_true hk) (by simp [hjl]) hnl (List.range ops.size) (List.mem_range.2 hj')
      omega
    have hdown' : ∀ (k : Nat) (p : Oper), ops[k]? = some p → (listed.setIfInBounds j true).getD k false = true → ∀ e, e ∈ p.after → Region.binds .any e = true → (listed.setIfInBounds j true).getD e.on false = true := by
      intro k ok hk hkl e he hb'
      apply getD_set_true
      by_cases e1 : k = j
      · subst e1; rw [ho] at hk; cases hk; exact hready e he hb'
      · rw [getD_set_ne false (Ne.symm e1)] at hkl
        exact hdown k ok hk hkl e he hb'
    have hsz' : (listed.setIfInBounds j true).size = ops.size := by simp [hsz]
    -- the temporaries behind it
    have hgetN : ∀ (ρ2 : Ren) (v' : Value), ρ'.le ρ2 → ∀ t u, E0.get t = some u → (∀ x, x ∈ cl fr ops → x.1.dst = some t → (listed.setIfInBounds j true).getD x.2 false = false) → VR ρ2 u ((a.put o.dst v').tmps.getD t undef) := by
      intro ρ2 v' hle2 t u hu hall
      have hd : o.dst ≠ some t := fun hd => by
        have := hall _ hx hd
        rw [self] at this; cases this
      rw [put_other hd]
      refine (hl.getN t u hu fun y hy hyd => ?_).mono hle2
      have := hall y hy hyd
      rwa [other _ (idx y hy fun e => by subst e; exact hd hyd)] at this
    have hgetW : ∀ (ρ2 : Ren) (v' : Value), ρ'.le ρ2 → (isF fr o = true ∨ VR ρ2 w v') → (ph = false → isF fr o = true ∨ (o, j) ∈ c1 fr ops ∨ (o, j) ∈ c2 fr ops) → ∀ t u y, y ∈ cl fr ops → y.1.dst = some t → (listed.setIfInBounds j true).getD y.2 false = true → (ph = false → y ∈ c1 fr ops) → (ph = true → isF fr o = false) → E.get t = some u → VR ρ2 u ((a.put o.dst v').tmps.getD t undef) := by
      intro ρ2 v' hle2 hvv _ t u y hy hyd hD hp hF hu
      by_cases hd : o.dst = some t
      · have : y = (o, j) := hst.dstU hy hx hyd hd
        subst this
        have hut : u = w := by
          have := hE t hd
          rw [hu] at this; cases this; rfl
        rw [hd, put_same (by rw [hl.size]; exact (g5 t hd).1), hut]
        rcases hvv with h | h
        · cases ph with
          | true => have := hF rfl; rw [h] at this; cases this
          | false => have := (mem_c1.1 (hp rfl)).2.1; rw [h] at this; cases this
        · exact h
      · rw [put_other hd]
        rw [other _ (idx y hy fun e => by subst e; exact hd hyd)] at hD
        exact (hl.getW t u y hy hyd hD hp hu).mono hle2
    have hfreshk : ∀ (v' : Value) (W2 : World), (∀ b, K b → W2.heap[b]? = W.heap[b]?) → isF fr o = false → ph = false → ∀ x, x ∈ cf fr ops → (listed.setIfInBounds j true).getD x.2 false = true → ∃ d k m elem cells R Hc w H1, x.1.dst = some d ∧ E.get d = some w ∧ Slab P x.1 R Hc w H1 k m elem cells ∧ (∀ pre post, cl fr ops = pre ++ x :: post → (H :: hs)[acts pre]? = some Hc ∧ (H :: hs)[acts pre + 1]? = some H1) ∧
        (a.put o.dst v').tmps.getD d undef = .slice (some ⟨pl x.2, 0, none⟩) k m ∧ W2.heap[pl x.2]? = some (.cells ⟨cells⟩ elem (0, 0)) := by
      intro v' W2 hW2 hF hp x hxc hD
      have hne : x ≠ (o, j) := fun e => by subst e; have := (mem_cf.1 hxc).2; rw [hF] at this; cases this
      rw [other _ (idx x (cf_cl hxc) hne)] at hD
      obtain ⟨d, k, m, elem, cells, R, Hc, w', H1', f1, f2, f3, f4, f5, f6⟩ := hl.fresh hp x hxc hD
      refine ⟨d, k, m, elem, cells, R, Hc, w', H1', f1, f2, f3, f4, ?_, ?_⟩
      · rw [put_other fun hd => hne (hst.dstU (cf_cl hxc) hx f1 hd)]; exact f5
      · rw [hW2 _ ((hl.kA hp _).2 (.inr ⟨x, hxc, hD, rfl⟩))]; exact f6
    have hkA : isF fr o = false → ph = false → ∀ b, K b ↔ (base b ∨ ∃ x, x ∈ cf fr ops ∧ (listed.setIfInBounds j true).getD x.2 false = true ∧ b = pl x.2) := by
      intro hF hp b
      rw [hl.kA hp b]
      have same : ∀ x, x ∈ cf fr ops → (listed.setIfInBounds j true).getD x.2 false = listed.getD x.2 false := fun x hxc => other _ (idx x (cf_cl hxc) fun e => by subst e; have := (mem_cf.1 hxc).2; rw [hF] at this; cases this)
      constructor
      · rintro (h | ⟨x, h1, h2, h3⟩)
        · exact .inl h
        · exact .inr ⟨x, h1, by rw [same x h1]; exact h2, h3⟩
      · rintro (h | ⟨x, h1, h2, h3⟩)
        · exact .inl h
        · exact .inr ⟨x, h1, by rw [← same x h1]; exact h2, h3⟩
    have back : ∀ x, x ∈ cf fr ops → isF fr o = false → (listed.setIfInBounds j true).getD x.2 false = true → listed.getD x.2 false = true := by
      intro x hxc hF hD
      rwa [other _ (idx x (cf_cl hxc) fun e => by subst e; have := (mem_cf.1 hxc).2; rw [hF] at this; cases this)] at hD
    unfold wpOp
    rw [ho]
    simp only
    cases hF : isF fr o with
    | true =>
      -- a new row
      have hxc : (o, j) ∈ cf fr ops := mem_cf.2 ⟨ho, hF⟩
      have hp : ph = false := by
        cases ph with
        | false => rfl
        | true => have := (hl.full rfl).1 _ hxc; simp only at this; rw [hnl] at this; cases this
      obtain ⟨k, m, elem, cells, hsl⟩ := fresh_slab (isF_fresh hF) g2
      have hguard : o.guard = none ∧ ∃ d, o.dst = some d := by
        have := isF_fresh hF
        unfold isFresh at this
        split at this
        · rename_i _ hg hd; exact ⟨hg, _, hd⟩
        · cases this
      obtain ⟨hg, d, hd⟩ := hguard
      have hwant : Region.wanted o (yielded ops a.tmps) = true := by unfold Region.wanted; rw [hg]
      rw [if_pos hwant]
      refine .inl ?_
      unfold Oper.wp
      rw [hsl.run n ρ' a W (hsr fun _ => .inr hxc), Oper.upon_value]
      have hhk : Hk = Hk := rfl
      refine ih _ _ _ hsz' hcnt' hdown' ⟨false, fun b => K b ∨ b = W.heap.size, fun i => if i = j then W.heap.size else pl i, ρ', Hk, ?_⟩
      have plo : ∀ x, x ∈ cf fr ops → x ≠ (o, j) → (if x.2 = j then W.heap.size else pl x.2) = pl x.2 := fun x h1 h2 => if_neg (idx x (cf_cl h1) h2)
      have hKlt : ∀ x, x ∈ cf fr ops → listed.getD x.2 false = true → pl x.2 < W.heap.size := fun x h1 h2 => hl.hr.base _ ((hl.kA hp _).2 (.inr ⟨x, h1, h2, rfl⟩))
      refine ⟨hl.le, ?_, hl.hr.garbage (fun b h => h) _, ⟨hl.ext.os, hl.ext.tape, hl.ext.output, by have := hl.ext.size; simp; omega, fun b hb => ?_⟩, put_size.trans hl.size, put_defers.trans hl.defers, hgetN ρ' _ (.refl _), fun t u y hy hyd hD hpp hu => ?_, fun h => (by cases h), fun _ b => ?_, fun _ x hxf hD => ?_, fun _ x y h1 h2 h3 h4 h5 => ?_, fun _ x hxf hD => ?_, fun _ y hy hD => ?_, fun h => by cases h⟩
      · have hat := hl.at_
        subst hp
        rw [← hat]; congr 1
        rw [kOf_false, kOf_false]
        refine na_same fun y hy hq => ?_
        have := (act_read hq).2
        refine other _ (idx y hy fun e => ?_)
        subst e; rw [hF] at this; cases this
      · have h1 := hl.hr.base b ((hl.kA hp b).2 (.inl hb))
        show (W.heap.push _)[b]? = _
        rw [Array.getElem?_push, if_neg (by omega)]
        exact hl.ext.frame b hb
      · exact hgetW ρ' _ (.refl _) (.inl hF) (fun _ => .inl hF) t u y hy hyd hD (fun _ => hpp rfl) (fun h => by rw [hp] at h; cases h) hu
      · rw [hl.kA hp b]
        constructor
        · rintro ((h | ⟨x, h1, h2, h3⟩) | h)
          · exact .inl h
          · have hne : x ≠ (o, j) := fun e => by subst e; simp only at h2; rw [hnl] at h2; cases h2
            exact .inr ⟨x, h1, by rw [other _ (idx x (cf_cl h1) hne)]; exact h2, by rw [plo x h1 hne]; exact h3⟩
          · exact .inr ⟨(o, j), hxc, self, by simp [h]⟩
        · rintro (h | ⟨x, h1, h2, h3⟩)
          · exact .inl (.inl h)
          · by_cases hne : x = (o, j)
            · subst hne; simp at h3; exact .inr h3
            · rw [other _ (idx x (cf_cl h1) hne)] at h2
              rw [plo x h1 hne] at h3
              exact .inl (.inr ⟨x, h1, h2, h3⟩)
      · by_cases hne : x = (o, j)
        · subst hne
          refine ⟨d, k, m, elem, cells, _, Hj, w, H1, hd, hE d hd, hsl, fun pre' post' e' => ?_, ?_, ?_⟩
          · have := split_unique hnd (hsp.symm.trans e')
            rw [← this]
            exact ⟨g1, g3 (isF_read hF)⟩
          · simp only [if_true]
            rw [hd, put_same (by rw [hl.size]; exact (g5 d hd).1)]
          · simp
        · rw [other _ (idx x (cf_cl hxf) hne)] at hD
          obtain ⟨d', k', m', elem', cells', R, Hc, w', H1', f1, f2, f3, f4, f5, f6⟩ := hl.fresh hp x hxf hD
          refine ⟨d', k', m', elem', cells', R, Hc, w', H1', f1, f2, f3, f4, ?_, ?_⟩
          · rw [plo x hxf hne, put_other fun hd' => hne (hst.dstU (cf_cl hxf) hx f1 hd')]; exact f5
          · have := hKlt x hxf hD
            rw [plo x hxf hne]
            show (W.heap.push _)[pl x.2]? = _
            rw [Array.getElem?_push, if_neg (by omega)]; exact f6
      · by_cases n1 : x = (o, j) <;> by_cases n2 : y = (o, j)
        · rw [n1, n2]
        · rw [other _ (idx y (cf_cl h2) n2)] at h4
          have := hKlt y h2 h4
          rw [plo y h2 n2, n1] at h5
          simp at h5
          omega
        · rw [other _ (idx x (cf_cl h1) n1)] at h3
          have := hKlt x h1 h3
          rw [plo x h1 n1, n2] at h5
          simp at h5
          omega
        · rw [other _ (idx x (cf_cl h1) n1)] at h3
          rw [other _ (idx y (cf_cl h2) n2)] at h4
          rw [plo x h1 n1, plo y h2 n2] at h5
          exact hl.inj hp x y h1 h2 h3 h4 h5
      · by_cases hne : x = (o, j)
        · subst hne
          simp only [if_true]
          intro hb
          have := hl.hr.base _ ((hl.kA hp _).2 (.inl hb))
          omega
        · rw [other _ (idx x (cf_cl hxf) hne)] at hD
          rw [plo x hxf hne]
          exact hl.away hp x hxf hD
      · have hne : y ≠ (o, j) := fun e => by subst e; have := (mem_c2.1 hy).2.1; rw [hF] at this; cases this
        rw [other _ (idx y (c2_cl hy) hne)] at hD
        obtain ⟨q0, x, d', t, w', q1, q2, q3, q4, q5, q6, q7⟩ := hl.lates hp y hy hD
        have hnx : x ≠ (o, j) := fun e => by subst e; simp only at q2; rw [hnl] at q2; cases q2
        refine ⟨q0, x, d', t, w', q1, by rw [other _ (idx x (cf_cl q1) hnx)]; exact q2, q3, q4, ?_, q6, q7⟩
        rw [put_other fun hd' => hne (hst.dstU (c2_cl hy) hx q4 hd'), put_other fun hd' => hnx (hst.dstU (cf_cl q1) hx q3 hd')]
        exact q5
    | false =>
      by_cases hcopy : ph = false ∧ (o, j) ∈ c2 fr ops
      · -- a copy of a new row
        obtain ⟨hp, hx2⟩ := hcopy
        have hic : isCopy fr ops (o, j) = true := by
          rcases hst.late _ hx2 with h | ⟨h1, h2⟩
          · exact h
          · exact absurd ⟨fun x hxc => hbef _ (h1 x hxc), fun x hxc hr => hbef _ (h2 x hxc hr)⟩ (hph hp)
        unfold isCopy at hic
        simp only at hic
        split at hic
        case h_2 => cases hic
        rename_i t d hcp hd
        rw [List.any_eq_true] at hic
        obtain ⟨r, hrc, hr2⟩ := hic
        rw [Bool.and_eq_true] at hr2
        obtain ⟨hr3, hr4⟩ := hr2
        have hrd : r.1.dst = some t := by
          cases e : r.1.dst with
          | none => rw [e] at hr3; cases hr3
          | some d' => rw [e] at hr3; rw [Nat.eq_of_beq_eq_true hr3]
        have hrD := hbef _ hr4
        obtain ⟨hg, hrd2, hrun, hcan⟩ := copy_run hcp
        have hwant : Region.wanted o (yielded ops a.tmps) = true := by unfold Region.wanted; rw [hg]
        rw [if_pos hwant]
        refine .inl ?_
        unfold Oper.wp
        rw [hrun, Oper.upon_value]
        have hnr : r ≠ (o, j) := fun e => by subst e; have := (mem_cf.1 hrc).2; rw [hF] at this; cases this
        have hEt : E.get t = some w := by
          have h1 := (restr_get (hcan _ _ _ _ _ _ _ g2)).1
          rw [← h1]
          refine g4 t fun z hz hzd => ?_
          have hzc : z ∈ cl fr ops := by
            rcases List.mem_cons.1 hz with rfl | hz
            · exact hx
            · exact memq z hz
          have := hst.dstU hzc (cf_cl hrc) hzd hrd
          subst this
          rcases List.mem_cons.1 hz with e | hz
          · exact hnr e
          · exact pnq z ((post_c2 hsp hx2).2 z hrc) hz
        have hdt : o.dst ≠ some t := fun e => hnr (hst.dstU (cf_cl hrc) hx hrd e)
        refine ih _ _ _ hsz' hcnt' hdown' ⟨false, K, pl, ρ', Hk, ?_⟩
        refine ⟨hl.le, ?_, hl.hr, hl.ext, put_size.trans hl.size, put_defers.trans hl.defers, hgetN ρ' _ (.refl _), fun t' u y hy hyd hD hpp hu => ?_, fun h => (by cases h), fun _ => hkA hF hp, fun _ => hfreshk _ W (fun _ _ => rfl) hF hp, fun _ x y h1 h2 h3 h4 => hl.inj hp x y h1 h2 (back x h1 hF h3) (back y h2 hF h4), fun _ x hxf hD => hl.away hp x hxf (back x hxf hF hD), fun _ y hy hD => ?_, fun h => by cases h⟩
        · have hat := hl.at_
          subst hp
          rw [← hat]; congr 1
          rw [kOf_false, kOf_false]
          refine na_same fun y hy hq => ?_
          have := (act_read hq).1
          refine other _ (idx y hy fun e => ?_)
          subst e; rw [hrd2] at this; cases this
        · have hne : y ≠ (o, j) := fun e => by subst e; have := (mem_c1.1 (hpp rfl)).2.2; rw [(mem_c2.1 hx2).2.2] at this; cases this
          have hdy : o.dst ≠ some t' := fun e => hne (hst.dstU hy hx hyd e)
          rw [put_other hdy]
          rw [other _ (idx y hy hne)] at hD
          exact hl.getW t' u y hy hyd hD (fun _ => hpp rfl) hu
        · by_cases hne : y = (o, j)
          · subst hne
            refine ⟨hrd2, r, d, t, w, hrc, by rw [other _ (idx r (cf_cl hrc) hnr)]; exact hrD, hrd, hd, ?_, hE d hd, hEt⟩
            rw [put_other hdt, hd, put_same (by rw [hl.size]; exact (g5 d hd).1)]
          · rw [other _ (idx y (c2_cl hy) hne)] at hD
            obtain ⟨q0, x, d', t', w', q1, q2, q3, q4, q5, q6, q7⟩ := hl.lates hp y hy hD
            have hnx : x ≠ (o, j) := fun e => by subst e; simp only at q2; rw [hnl] at q2; cases q2
            refine ⟨q0, x, d', t', w', q1, by rw [other _ (idx x (cf_cl q1) hnx)]; exact q2, q3, q4, ?_, q6, q7⟩
            rw [put_other fun hd' => hne (hst.dstU (c2_cl hy) hx q4 hd'), put_other fun hd' => hnx (hst.dstU (cf_cl q1) hx q3 hd')]
            exact q5
      · -- any other
        have hwhere : ph = false → (o, j) ∈ c1 fr ops := fun hp => by
          rcases cl_cases hx with h | h | h
          · exact h
          · have := (mem_cf.1 h).2; rw [hF] at this; cases this
          · exact absurd ⟨hp, h⟩ hcopy
        have hval : ∃ H2, cvalue P call ops o (restr Ej (usesOf ops o)) Hk = some (w, H2) ∧ (H :: hs)[kOf fr ops (fun k => (listed.setIfInBounds j true).getD k false) ph]? = some H2 := by
          cases hr : isRead o with
          | true =>
            have hz : (cl fr ops)[pre.length]? = some (o, j) := by rw [hsp]; simp
            have hlo : actsLo fr ops j ≤ kOf fr ops (fun k => listed.getD k false) ph := by
              cases hp : ph with
              | true => exact nn_le (D := fun i => inBef ops i j) (D' := fun k => listed.getD k false) fun y hy hq hd => hbef _ hd
              | false =>
                exact nn_le_na (D := fun i => inBef ops i j) (D' := fun k => listed.getD k false) fun y hy hq hd => ⟨not_fresh_bef (y := (o, j)) (mem_c1.1 (hwhere hp)).2.2 hd (mem_cl.1 hy), hbef _ hd⟩
            have hhi : kOf fr ops (fun k => listed.getD k false) ph ≤ actsHi fr ops j := by
              have nb : ∀ y, y ∈ cl fr ops → listed.getD y.2 false = true → (!inBef ops j y.2) = true := fun y hy hd => by
                cases hm : inBef ops j y.2 with
                | false => rfl
                | true => exact absurd hm (hlater y hy hd)
              cases hp : ph with
              | true => exact nn_le (D := fun k => listed.getD k false) (D' := fun i => !inBef ops j i) fun y hy _ hd => nb y hy hd
              | false => exact na_le_nn (D := fun k => listed.getD k false) (D' := fun i => !inBef ops j i) fun y hy _ hd => nb y hy hd
            obtain ⟨H2, e1⟩ := dynOk_at hdyn pre.length o j _ w hz g7 hr _ Hk hlo hhi hl.at_
            refine ⟨H2, e1, ?_⟩
            rw [cvalue_reads hr _ _ _ e1, ← hl.at_]
            congr 1
            cases ph with
            | true =>
              rw [kOf_true, kOf_true]
              refine nn_same fun y hy hq => ?_
              refine other _ (idx y hy fun e => ?_)
              subst e; simp only at hq; rw [hr] at hq; cases hq
            | false =>
              rw [kOf_false, kOf_false]
              refine na_same fun y hy hq => ?_
              have := (act_read hq).1
              refine other _ (idx y hy fun e => ?_)
              subst e; rw [hr] at this; cases this
          | false =>
            have hact := act_of hr hF
            cases hp : ph with
            | false =>
              have hx1 := hwhere hp
              have hc1 := pre_c1 hsp hx1
              have hlow : ∀ y, y ∈ pre → isAct fr y.1 = true → listed.getD y.2 false = true := fun y hy hq => hbef _ ((hst.pre hsp y hy).act hq hact)
              have hhigh : ∀ y, y ∈ post → isAct fr y.1 = true → listed.getD y.2 false = false := fun y hy hq => by
                cases hil : listed.getD y.2 false with
                | false => rfl
                | true => exact absurd ((hst.pair hsp y hy).act hact hq) (hlater y (memq y hy) hil)
              have hpa : pre.countP (fun y => isAct fr y.1) = acts pre := by
                unfold acts
                apply List.countP_congr
                intro y hy
                simp [isAct, (mem_c1.1 (hc1 y hy)).2.1]
              have n1 : na fr ops (fun k => listed.getD k false) = acts pre := by
                have := count_split (q := fun y => isAct fr y.1) (D := fun k => listed.getD k false) hsp hlow hhigh
                unfold na
                rw [this, hpa]
                simp only [hact, hnl, Bool.and_false, Nat.add_zero]
              have n2 : na fr ops (fun k => (listed.setIfInBounds j true).getD k false) = acts pre + 1 := by
                have := count_split (q := fun y => isAct fr y.1) (D := fun k => (listed.setIfInBounds j true).getD k false) hsp (fun y hy hq => getD_set_true (hlow y hy hq)) (fun y hy hq => (other _ (idx y (memq y hy) fun e => by subst e; exact xnq hy)).trans (hhigh y hy hq))
                unfold na
                rw [this, hpa]
                simp only [hact, self, Bool.and_true]
              have hk := hl.at_
              subst hp
              have hk : (H :: hs)[na fr ops (fun k => listed.getD k false)]? = some Hk := hk
              rw [n1, g1] at hk
              cases hk
              exact ⟨H1, g2, by rw [kOf_false, n2]; exact g3 hr⟩
            | true =>
              have hfull := hl.full hp
              have hx2 : (o, j) ∈ c2 fr ops := by
                rcases cl_cases hx with h | h | h
                · have := hfull.2 _ h hr; simp only at this; rw [hnl] at this; cases this
                · have := (mem_cf.1 h).2; rw [hF] at this; cases this
                · exact h
              have hpost := (post_c2 hsp hx2).1
              have hlow : ∀ y, y ∈ pre → (!isRead y.1) = true → listed.getD y.2 false = true := fun y hy hq => by
                have hq' : isRead y.1 = false := by simpa using hq
                rcases cl_cases (memp y hy) with h | h | h
                · exact hfull.2 y h hq'
                · exact hfull.1 y h
                · exact hbef _ ((hst.pre hsp y hy).act (act_of hq' (mem_c2.1 h).2.1) hact)
              have hhigh : ∀ y, y ∈ post → (!isRead y.1) = true → listed.getD y.2 false = false := fun y hy hq => by
                have hq' : isRead y.1 = false := by simpa using hq
                cases hil : listed.getD y.2 false with
                | false => rfl
                | true => exact absurd ((hst.pair hsp y hy).act hact (act_of hq' (mem_c2.1 (hpost y hy)).2.1)) (hlater y (memq y hy) hil)
              have n1 : nn fr ops (fun k => listed.getD k false) = acts pre := by
                have := count_split (q := fun y => !isRead y.1) (D := fun k => listed.getD k false) hsp hlow hhigh
                unfold nn
                rw [this]
                simp only [hr, hnl, Bool.and_false, Nat.add_zero]
                rfl
              have n2 : nn fr ops (fun k => (listed.setIfInBounds j true).getD k false) = acts pre + 1 := by
                have := count_split (q := fun y => !isRead y.1) (D := fun k => (listed.setIfInBounds j true).getD k false) hsp (fun y hy hq => getD_set_true (hlow y hy hq)) (fun y hy hq => (other _ (idx y (memq y hy) fun e => by subst e; exact xnq hy)).trans (hhigh y hy hq))
                unfold nn
                rw [this]
                simp only [hr, self, Bool.not_false, Bool.and_true]
                rfl
              have hk := hl.at_
              subst hp
              have hk : (H :: hs)[nn fr ops (fun k => listed.getD k false)]? = some Hk := hk
              rw [n1, g1] at hk
              cases hk
              exact ⟨H1, g2, by rw [kOf_true, n2]; exact g3 hr⟩
        obtain ⟨H2, hv, hH2⟩ := hval
        have step := cvalue_ok (Q := Q) (next := fun a' W' => wpAny P .any ops Q fuel (listed.setIfInBounds j true) a' W') (hcall K) hl.hr (hsr fun hp => .inl (hwhere hp)) hv fun ρ2 v' W2 hle2 hr2 hv2 hx2 => by
          have hKb : ∀ b, base b → K b := fun b hb => by
            cases hp : ph with
            | true => rw [hl.kB hp]; exact hb
            | false => exact (hl.kA hp b).2 (.inl hb)
          refine ih _ _ W2 hsz' hcnt' hdown' ⟨ph, K, pl, ρ2, H2, hl.le.trans hle2, hH2, hr2, hl.ext.trans (hx2.weaken hKb), put_size.trans hl.size, put_defers.trans hl.defers, hgetN ρ2 _ hle2, fun t u y hy hyd hD hpp hu => hgetW ρ2 _ hle2 (.inr hv2) (fun hp => .inr (.inl (hwhere hp))) t u y hy hyd hD hpp (fun _ => hF) hu, hl.kB, hkA hF, fun hp => hfreshk _ W2 hx2.frame hF hp, fun hp x y h1 h2 h3 h4 => hl.inj hp x y h1 h2 (back x h1 hF h3) (back y h2 hF h4), fun hp x hxf hD => hl.away hp x hxf (back x hxf hF hD), fun hp y hy hD => ?_, fun hp => ?_⟩
          · have hne : y ≠ (o, j) := fun e => by subst e; have := (mem_c1.1 (hwhere hp)).2.2; rw [(mem_c2.1 hy).2.2] at this; cases this
            rw [other _ (idx y (c2_cl hy) hne)] at hD
            obtain ⟨q0, x, d', t', w', q1, q2, q3, q4, q5, q6, q7⟩ := hl.lates hp y hy hD
            have hnx : x ≠ (o, j) := fun e => by subst e; simp only at q2; rw [hnl] at q2; cases q2
            refine ⟨q0, x, d', t', w', q1, by rw [other _ (idx x (cf_cl q1) hnx)]; exact q2, q3, q4, ?_, q6, q7⟩
            rw [put_other fun hd' => hne (hst.dstU (c2_cl hy) hx q4 hd'), put_other fun hd' => hnx (hst.dstU (cf_cl q1) hx q3 hd')]
            exact q5
          · have := hl.full hp
            exact ⟨fun x hxf => getD_set_true (this.1 x hxf), fun x hxf hr => getD_set_true (this.2 x hxf hr)⟩
        split at step
        · rename_i hw; rw [if_pos hw]; exact .inl step
        · rename_i hw; rw [if_neg hw]; exact step

theorem cdrawF_ok (hm : P.P.follows .mixedOrders = true) (hst : dstat fr ops = true) (hcall : ∀ K, CallOK P K call) {id : Nat} {ρ : Ren} {E E' : Env} {H H' : CH} {W : World} {a : Act} (hr : HR base ρ H W) (hs : SR n ρ E a) (e : cdrawF P fr call n ops E H = some (E', H')) {Q : Exit → Act → World → Prop}
    (hQ : ∀ ρ' a' W', ρ.le ρ' → HR base ρ' H' W' → SR n ρ' E' a' → Ext base W W' → Q .normal a' W') : (Code.region id ops true).wp P Q a W := by
  unfold cdrawF at e
  cases hq : cseq P call n ops (cl fr ops) E H with
  | none => simp only [hq] at e; cases e
  | some p =>
  obtain ⟨E1, hs1, ws⟩ := p
  simp only [hq] at e
  cases hd : dynOk P call fr ops (H :: hs1) (cl fr ops) ws with
  | false => simp only [hd] at e; cases e
  | true =>
  simp only [hd] at e
  cases e
  refine wp_region_any hm ?_
  have rep : ∀ N k : Nat, (Array.replicate N false).getD k false = false := by
    intro N k
    rw [Array.getD_eq_getD_getElem?, Array.getElem?_replicate]
    split <;> rfl
  refine draw_go (W0 := W) (dstat_ok hst) hcall hq hd (fun ρ' a' W' h1 h2 h3 h4 => hQ ρ' a' W' h1 h2 h3 h4) _ _ _ _ (by simp) ?_ ?_ ⟨false, base, fun _ => 0, ρ, H, ?_⟩
  · exact Nat.le_trans List.countP_le_length (by simp)
  · intro j o ho hj
    rw [rep] at hj; cases hj
  · refine ⟨.refl _, ?_, ⟨hr.dom, hr.big, fun i cb h1 h2 => ?_, hr.inj, hr.base, hr.zero⟩, ⟨rfl, rfl, rfl, Nat.le_refl _, fun _ _ => rfl⟩, hs.size, hs.defers, fun t v ht _ => hs.get t v ht, fun t v x hx hd hD => ?_, fun h => (by cases h), fun _ b => ?_, fun _ x _ hD => ?_, fun _ x y _ _ hD => ?_, fun _ x _ hD => ?_, fun _ y _ hD => ?_, fun h => by cases h⟩
    · have : na fr ops (fun k => (Array.replicate ops.size false).getD k false) = 0 := by
        unfold na
        rw [List.countP_eq_zero]
        intro x _
        simp only [rep]; simp
      rw [kOf_false, this]; rfl
    · obtain ⟨p, h3, h4⟩ := hr.blk i cb h1 h2
      refine ⟨p, h3, ?_⟩
      cases cb <;> exact h4
    · simp only [rep] at hD; cases hD
    · simp only [rep]; simp
    · simp only [rep] at hD; cases hD
    · simp only [rep] at hD; cases hD
    · simp only [rep] at hD; cases hD
    · simp only [rep] at hD; cases hD

theorem cdraw_ok (hm : P.P.follows .mixedOrders = true) (hcall : ∀ K, CallOK P K call) : DrawOK P base n (cdraw P call n) := by
  intro id ops ρ E E' H H' W a hr hs e Q hQ
  unfold cdraw at e
  cases hst : dstat false ops with
  | true =>
    simp only [hst] at e
    exact cdrawF_ok hm hst hcall hr hs e hQ
  | false =>
    simp only [hst] at e
    cases hst2 : dstat true ops with
    | true =>
      simp only [hst2] at e
      exact cdrawF_ok hm hst2 hcall hr hs e hQ
    | false => simp only [hst2] at e; cases e

end
end
end Go.CE
/- CE, part 27: strings.Builder. -/
namespace Go.CE
noncomputable section
open Go.Proofs Go.Shelf Go.RowKit

section
variable {base : Nat → Prop} {ρ : Ren}

theorem HR.killW {H : CH} {W W' : World} (hr : HR base ρ H W) {i : Nat} {cb : CB} {p : Pl} (hb : H.m.get i = some cb) (hl : cb.live = true) (hp : ρ i = some p) (hs : W.heap.size ≤ W'.heap.size)
    (hf : ∀ k, k < W.heap.size → k ≠ p.b → W'.heap[k]? = W.heap[k]?) : HR base ρ { H with m := T.set .dead 60 H.m i } W' := by
  have hi := (hr.dom i p hp).1
  have hbig := hr.big
  have hi60 : i + 1 < 2 ^ 60 := by unfold BIG at hbig; omega
  have get : ∀ j cj, (T.set CB.dead 60 H.m i).get j = some cj → cj.live = true → j ≠ i ∧ H.m.get j = some cj := by
    intro j cj h hlv
    by_cases e : j = i
    · subst e; rw [T.get_set _ _ _ _ hi60] at h; cases h; cases hlv
    · rw [T.get_set_ne _ _ _ _ _ e] at h; exact ⟨e, h⟩
  refine ⟨fun j q hq => ?_, hr.big, fun j cj hj hjl => ?_, fun j k cj ck q r hj hjl hk hkl hq hr' e => ?_, fun b h => by have := hr.base b h; omega, hr.zero⟩
  · obtain ⟨h1, h2, h3⟩ := hr.dom j q hq
    exact ⟨h1, h2, by omega⟩
  · obtain ⟨hne, hj'⟩ := get j cj hj hjl
    obtain ⟨q, hq, hB⟩ := hr.blk j cj hj' hjl
    exact ⟨q, hq, hB.mono (.refl _) (hf _ (hr.dom j q hq).2.2 fun e => hne (hr.inj j i cj cb q p hj' hjl hb hl hq hp e))⟩
  · exact hr.inj j k cj ck q r (get j cj hj hjl).2 hjl (get k ck hk hkl).2 hkl hq hr' e

theorem HR.later {H : CH} {W W' : World} (hr : HR base ρ H W) (hs : W.heap.size ≤ W'.heap.size) (hf : ∀ k, k < W.heap.size → W'.heap[k]? = W.heap[k]?) : HR base ρ H W' := by
  refine ⟨fun j q hq => ?_, hr.big, fun j cj hj hjl => ?_, hr.inj, fun b h => by have := hr.base b h; omega, hr.zero⟩
  · obtain ⟨h1, h2, h3⟩ := hr.dom j q hq
    exact ⟨h1, h2, by omega⟩
  · obtain ⟨q, hq, hB⟩ := hr.blk j cj hj hjl
    exact ⟨q, hq, hB.mono (.refl _) (hf _ (hr.dom j q hq).2.2)⟩
end

/-- a builder has a block of its own -/
def chkBld (T : TypeId) (a : Addr) : CM Unit := fun H => match H.m.get a.block, Nat.beq a.off 0, a.spot with
  | some (.cells n _ _ T' true), true, none => match Nat.beq n 2, Nat.beq T' T with
    | true, true => some ((), H)
    | _, _ => none
  | _, _, _ => none

def addrEq (a b : Addr) : Bool := Nat.beq a.block b.block && Nat.beq a.off b.off && (match a.spot, b.spot with | none, none => true | _, _ => false)

def copyCheckC (T : TypeId) : List Value → CM Value
  | [.pointer (some a)] => do
    chkBld T a
    match ← cload a with
    | .pointer none => do
      cstore a (.pointer (some a))
      CM.ret (.tuple #[])
    | .pointer (some c) => match addrEq c a with
      | true => CM.ret (.tuple #[])
      | false => CM.fail
    | _ => CM.fail
  | _ => CM.fail

def bytesX : List Value → Option (List UInt8)
  | [] => some []
  | .int .u8 n :: l => match decide (0 ≤ n), decide (n < 256), bytesX l with
    | true, true, some bs => some (UInt8.ofNat n.toNat :: bs)
    | _, _, _ => none
  | _ => none

def stringC (T E : TypeId) : List Value → CM Value
  | [.pointer (some a)] => do
    chkBld T a
    match ← cload (a.add 1) with
    | .slice none 0 0 => CM.ret (.string ⟨⟨[]⟩⟩)
    | .slice (some g) n c => match Nat.beq n 0, Nat.beq g.off 0, g.spot, Nat.ble n c, Nat.ble n 1000000000 with
      | false, true, none, true, true => do
        let l ← cloads g 0 n
        let bs ← CM.opt (bytesX l)
        ckill g.block E
        CM.ret (.string ⟨⟨bs⟩⟩)
      | _, _, _, _, _ => CM.fail
    | _ => CM.fail
  | _ => CM.fail

def spBuilder (fc fs : FuncId) (T E : TypeId) : SpecF := fun f => match Nat.beq f fc with
  | true => some (copyCheckC T)
  | false => match Nat.beq f fs with
    | true => some (stringC T E)
    | false => none

theorem addrEq_ok {a b : Addr} (h : addrEq a b = true) : a = b := by
  unfold addrEq at h
  simp only [Bool.and_eq_true] at h
  obtain ⟨⟨h1, h2⟩, h3⟩ := h
  obtain ⟨x, y, z⟩ := a
  obtain ⟨x', y', z'⟩ := b
  have g1 : x = x' := Nat.eq_of_beq_eq_true h1
  have g2 : y = y' := Nat.eq_of_beq_eq_true h2
  clear h1 h2
  subst g1 g2
  cases z <;> cases z' <;> first | rfl | cases h3

theorem chkBld_some {base : Nat → Prop} {ρ : Ren} {T : TypeId} {a : Addr} {H H' : CH} {W : World} {u : Unit} (hr : HR base ρ H W) (e : chkBld T a H = some (u, H')) :
    H' = H ∧ a.off = 0 ∧ a.spot = none ∧ ∃ cs d p c, H.m.get a.block = some (.cells 2 cs d T true) ∧ ρ a.block = some p ∧ p.d = 0 ∧ W.heap[p.b]? = some (.cells c T (0, 0)) ∧ c.size = 2 ∧ ∀ k v, at? 2 cs d k = some v → ∃ v', c[k]? = some v' ∧ VR ρ v v' := by
  unfold chkBld at e
  cases hm : H.m.get a.block with
  | none => simp only [hm] at e; cases e
  | some cb =>
  cases cb with
  | cells n cs d T' x =>
    cases x with
    | false => simp only [hm] at e; cases e
    | true =>
    cases ho : Nat.beq a.off 0 with
    | false => simp only [hm, ho] at e; cases e
    | true =>
    cases hsp : a.spot with
    | some s => simp only [hm, ho, hsp] at e; cases e
    | none =>
    simp only [hm, ho, hsp] at e
    cases h2 : Nat.beq n 2 with
    | false => simp only [h2] at e; cases e
    | true =>
    cases hT : Nat.beq T' T with
    | false => simp only [h2, hT] at e; cases e
    | true =>
    simp only [h2, hT] at e
    cases e
    have h2 := Nat.eq_of_beq_eq_true h2
    have hT := Nat.eq_of_beq_eq_true hT
    subst h2 hT
    obtain ⟨p, hp, hB⟩ := hr.blk _ _ hm rfl
    obtain ⟨c, q1, q2, q3, q4, q5⟩ := hB
    have q3 := q3 rfl
    refine ⟨rfl, Nat.eq_of_beq_eq_true ho, rfl, cs, d, p, c, rfl, hp, hr.zero _ _ hp, q1, by rw [q2]; exact q3.1.symm, fun k v hv => ?_⟩
    have := q5 k v hv
    rw [q3.2, Nat.zero_add] at this
    exact this
  | map _ _ => simp only [hm] at e; cases e
  | dead => simp only [hm] at e; cases e

theorem cload_some {a : Addr} {v : Value} {H H' : CH} {n : Nat} {cs : T Value} {d : Value} {t : TypeId} {x : Bool} (hm : H.m.get a.block = some (.cells n cs d t x)) (hs : a.spot = none) (e : cload a H = some (v, H')) : H' = H ∧ at? n cs d a.off = some v := by
  unfold cload at e
  simp only [hm, hs] at e
  cases ha : at? n cs d a.off with
  | none => simp only [ha] at e; cases e
  | some w => simp only [ha] at e; cases e; exact ⟨rfl, rfl⟩

theorem copyCheckC_ok {P : PT} {f : FuncId} {T : TypeId}
    (hu : ∀ (b : Nat) (w : World), w.cell? ⟨b, 0, none⟩ = some (.pointer (some ⟨b, 0, none⟩)) → Calls P.P f #[.pointer (some ⟨b, 0, none⟩)] w fun e w' => e = .returned (.tuple #[]) ∧ w' = w)
    (hf : ∀ (b : Nat) (w : World), w.cell? ⟨b, 0, none⟩ = some (.pointer none) → w.shape? b = some (T, 2) → w.frozen? ⟨b, 0, none⟩ = false → Calls P.P f #[.pointer (some ⟨b, 0, none⟩)] w fun e w' => e = .returned (.tuple #[]) ∧ w' = w.setCell ⟨b, 0, none⟩ (.pointer (some ⟨b, 0, none⟩)))
    {base : Nat → Prop} {args args' : List Value} {ρ : Ren} {H : CH} {W : World} (hr : HR base ρ H W) (hv : VRs ρ args args') {v : Value} {H' : CH} (e : copyCheckC T args H = some (v, H')) :
    Calls P.P f ⟨args'⟩ W fun e W' => ∃ v' ρ', e = .returned v' ∧ ρ.le ρ' ∧ HR base ρ' H' W' ∧ Ext base W W' ∧ VR ρ' v v' := by
  unfold copyCheckC at e
  split at e
  case h_2 => cases e
  rename_i a
  cases hv with
  | cons hv1 hv2 =>
  cases hv2
  cases hv1 with
  | ptr hA =>
  rename_i a'
  obtain ⟨u, H1, e1, f1⟩ := bind_some e
  obtain ⟨rfl, ho, hsp, cs, d, p, c, hm, hp, hpd, hw, hsz, hcells⟩ := chkBld_some hr e1
  have ha' : a' = ⟨p.b, 0, none⟩ := by
    obtain ⟨q, hq, rfl⟩ := hA
    rw [hp] at hq; cases hq
    rw [ho, hsp, hpd]
  subst ha'
  obtain ⟨w, H2, e2, f2⟩ := bind_some f1
  obtain ⟨rfl, hat⟩ := cload_some hm hsp e2
  rw [ho] at hat
  obtain ⟨w', hw', hvr⟩ := hcells 0 w hat
  have hcell : W.cell? ⟨p.b, 0, none⟩ = some w' := by simp [World.cell?, hw, hw']
  cases hvr with
  | pnil =>
    simp only at f2
    obtain ⟨u2, H3, e3, f3⟩ := bind_some f2
    obtain ⟨rfl, rfl⟩ := ret_some f3
    have hfz : W.frozen? ⟨p.b, 0, none⟩ = false := by simp [World.frozen?, hw]
    obtain ⟨ρ1, b1, W1, k1, k2, k3, k4, _⟩ := cstore_ok (P := P.P) (base := base) hA (.ptr hA) .plain _ W hr u2 _ e3
    have hW1 : W1 = W.setCell ⟨p.b, 0, none⟩ (.pointer (some ⟨p.b, 0, none⟩)) := by
      have : (Go.store ⟨p.b, 0, none⟩ (.pointer (some ⟨p.b, 0, none⟩)) .plain).run P.P W = .ok () (W.setCell ⟨p.b, 0, none⟩ (.pointer (some ⟨p.b, 0, none⟩))) := by
        unfold Go.store
        simp only [Sem.run, hcell, hfz, Bool.false_eq_true, if_false]
      rw [this] at k2
      cases k2; rfl
    subst hW1
    refine (hf p.b W hcell (by simp [World.shape?, hw, hsz]) hfz).mono ?_
    rintro e w' ⟨rfl, rfl⟩
    exact ⟨_, ρ1, rfl, k1, k3, k4, .tuple .nil⟩
  | ptr hc =>
    rename_i cc cc'
    simp only at f2
    cases hq : addrEq cc a with
    | false => simp only [hq] at f2; cases f2
    | true =>
    simp only [hq] at f2
    obtain ⟨rfl, rfl⟩ := ret_some f2
    have := addrEq_ok hq
    subst this
    have : cc' = ⟨p.b, 0, none⟩ := by
      obtain ⟨q, hq, rfl⟩ := hc
      rw [hp] at hq; cases hq
      rw [ho, hsp, hpd]
    subst this
    refine (hu p.b W hcell).mono ?_
    rintro e w' ⟨rfl, rfl⟩
    exact ⟨_, ρ, rfl, .refl _, hr, .refl _ _, .tuple .nil⟩
  | _ => cases f2

theorem bytesX_get : ∀ {l : List Value} {bs : List UInt8}, bytesX l = some bs → l.length = bs.length ∧ ∀ (j : Nat) (x : UInt8), bs[j]? = some x → l[j]? = some (.int .u8 x.toNat)
  | [], bs, h => by cases h; exact ⟨rfl, fun j x h => by simp at h⟩
  | v :: l, bs, h => by
    unfold bytesX at h
    split at h
    · rename_i e; cases e
    · rename_i n l' e
      cases e
      split at h
      · rename_i bs' h1 h2 h3
        cases h
        have h1 := of_decide_eq_true h1
        have h2 := of_decide_eq_true h2
        obtain ⟨q1, q2⟩ := bytesX_get h3
        refine ⟨by simp [q1], fun j x hx => ?_⟩
        cases j with
        | zero =>
          simp only [List.getElem?_cons_zero, Option.some.injEq] at hx ⊢
          subst hx
          congr 1
          rw [UInt8.toNat_ofNat', Nat.mod_eq_of_lt (by omega)]
          omega
        | succ j => simpa using q2 j x (by simpa using hx)
      · cases h
    · cases h

theorem stringC_ok {P : PT} {r : Go.Shelf.Ren} (L : Lays.n169 P.P r) (X : Builder.Extra P.P r)
    {base : Nat → Prop} {args args' : List Value} {ρ : Ren} {H : CH} {W : World} (hr : HR base ρ H W) (hv : VRs ρ args args') {v : Value} {H' : CH} (e : stringC (r.t 72) (r.t 5) args H = some (v, H')) :
    Calls P.P (r.f 169) ⟨args'⟩ W fun e W' => ∃ v' ρ', e = .returned v' ∧ ρ.le ρ' ∧ HR base ρ' H' W' ∧ Ext base W W' ∧ VR ρ' v v' := by
  unfold stringC at e
  split at e
  case h_2 => cases e
  rename_i a
  cases hv with
  | cons hv1 hv2 =>
  cases hv2
  cases hv1 with
  | ptr hA =>
  rename_i a'
  obtain ⟨u, H1, e1, f1⟩ := bind_some e
  obtain ⟨rfl, ho, hsp, cs, d, p, c, hm, hp, hpd, hw, hsz, hcells⟩ := chkBld_some hr e1
  have ha' : a' = ⟨p.b, 0, none⟩ := by
    obtain ⟨q, hq, rfl⟩ := hA
    rw [hp] at hq; cases hq
    rw [ho, hsp, hpd]
  subst ha'
  obtain ⟨w, H2, e2, f2⟩ := bind_some f1
  have hadd : a.add 1 = ⟨a.block, 1, none⟩ := by
    simp [Addr.add, ho]
  rw [hadd] at e2
  obtain ⟨rfl, hat⟩ := cload_some (a := ⟨a.block, 1, none⟩) hm rfl e2
  obtain ⟨w', hw', hvr⟩ := hcells 1 w hat
  obtain ⟨c0, hc0⟩ : ∃ c0, c = #[c0, w'] := by
    obtain ⟨l⟩ := c
    match l, hsz, hw' with
    | [x, y], _, h => exact ⟨x, by simp at h; rw [h]⟩
  subst hc0
  have fin : ∀ {g g' : Addr} {n cc cc' : Nat}, AR ρ g g' → (Nat.ble n cc = true → n ≤ cc') → w' = .slice (some g') n cc' → (match Nat.beq n 0, Nat.beq g.off 0, g.spot, Nat.ble n cc, Nat.ble n 1000000000 with
      | false, true, none, true, true => (do
        let l ← cloads g 0 n
        let bs ← CM.opt (bytesX l)
        ckill g.block (r.t 5)
        CM.ret (.string ⟨⟨bs⟩⟩) : CM Value)
      | _, _, _, _, _ => CM.fail) H2 = some (v, H') → Calls P.P (r.f 169) #[.pointer (some ⟨p.b, 0, none⟩)] W fun e W' => ∃ v' ρ', e = .returned v' ∧ ρ.le ρ' ∧ HR base ρ' H' W' ∧ Ext base W W' ∧ VR ρ' v v' := by
    intro g g' n cc cc' hG hncc0 hw'e f2
    cases hn0 : Nat.beq n 0 with
    | true => simp only [hn0] at f2; cases f2
    | false =>
    cases hgo : Nat.beq g.off 0 with
    | false => simp only [hn0, hgo] at f2; cases f2
    | true =>
    cases hgs : g.spot with
    | some s => simp only [hn0, hgo, hgs] at f2; cases f2
    | none =>
    cases hb1 : Nat.ble n cc with
    | false => simp only [hn0, hgo, hgs, hb1] at f2; cases f2
    | true =>
    cases hb2 : Nat.ble n 1000000000 with
    | false => simp only [hn0, hgo, hgs, hb1, hb2] at f2; cases f2
    | true =>
    simp only [hn0, hgo, hgs, hb1, hb2] at f2
    have hncc := hncc0 hb1
    have hgo := Nat.eq_of_beq_eq_true hgo
    have hb2 := Nat.le_of_ble_eq_true hb2
    obtain ⟨l, H3, e3, f3⟩ := bind_some f2
    obtain ⟨bs, H4, e4, f4⟩ := bind_some f3
    obtain ⟨hbs, rfl⟩ := opt_some e4
    obtain ⟨u5, H5, e5, f5⟩ := bind_some f4
    obtain ⟨rfl, rfl⟩ := ret_some f5
    obtain ⟨hH3, hll, hlc⟩ := cloads_at (a := g) (i := 0) (m := n) e3
    subst hH3
    obtain ⟨m, cs2, d2, x2, hm2, rfl⟩ := ckill_some e5
    obtain ⟨pg, hpg, hB⟩ := hr.blk _ _ hm2 rfl
    obtain ⟨cur, q1, q2, _, q4, q5⟩ := hB
    have hpgd := hr.zero _ _ hpg
    have hg' : g' = ⟨pg.b, 0, none⟩ := by
      obtain ⟨q, hq, rfl⟩ := hG
      rw [hpg] at hq; cases hq
      rw [hgo, hgs, hpgd]
    subst hg'
    obtain ⟨z1, z2⟩ := bytesX_get hbs
    have hnl : bs.length = n := by rw [← z1]; exact hll
    have hn : n ≠ 0 := fun e => by rw [e] at hn0; cases hn0
    obtain ⟨m', cs', d', t', x', hm3, hat3⟩ := hlc.resolve_left hn
    rw [hm2] at hm3
    cases hm3
    have hcell : ∀ (j : Nat) (x : UInt8), bs[j]? = some x → cur[j]? = some (Value.int .u8 x.toNat) := by
      intro j x hx
      have h1 := hat3 j _ (z2 j x hx)
      rw [hgo, Nat.zero_add, Nat.zero_add] at h1
      obtain ⟨v', h2, h3⟩ := q5 j _ h1
      rw [hpgd, Nat.zero_add] at h2
      have := VR.still_eq h3 rfl
      rw [h2, this]
    have hown : ∀ (j : Nat) (x : UInt8), bs[j]? = some x → W.cell? ((⟨pg.b, 0, none⟩ : Addr).add j) = some (.int .u8 x.toNat) := by
      intro j x hx
      have : (⟨pg.b, 0, none⟩ : Addr).add j = ⟨pg.b, j, none⟩ := by
        unfold Addr.add
        split
        · rename_i h; rw [h]
        · simp
      rw [this]
      simp [World.cell?, q1, hcell j x hx]
    have hcs : bs.length ≤ cur.size := by
      rcases Nat.lt_or_ge cur.size bs.length with h | h
      · have := hcell cur.size bs[cur.size] (by simp [h])
        simp at this
      · exact h
    have hWb : W.heap[p.b]? = some (.cells #[c0, .slice (some ⟨pg.b, 0, none⟩) bs.length cc'] (r.t 72) (0, 0)) := by rw [hw, hw'e, hnl]
    refine (Go.AX.string_some L X p.b pg.b cc' cur c0 (0, 0) (0, 0) bs W hWb q1 (by omega) (by omega) hcs hown (fun h => by rw [h] at hnl; simp at hnl; omega)).mono ?_
    rintro e w1 ⟨rfl, hk⟩
    refine ⟨_, ρ, rfl, .refl _, hr.killW hm2 rfl hpg hk.size hk.ne, ⟨hk.os, hk.tape, hk.output, hk.size, fun b hb => hk.ne b (hr.base b hb) fun e => ?_⟩, .string _⟩
    exact (hr.dom _ _ hpg).2.1 (by rw [← e]; exact hb)
  cases hvr with
  | snil l cc =>
    cases l with
    | succ l => cases f2
    | zero =>
      cases cc with
      | succ cc => cases f2
      | zero =>
        obtain ⟨rfl, rfl⟩ := ret_some f2
        refine (Any.Builder_String_nil L X W.heap.size p.b c0 W hw).mono ?_
        rintro e w1 ⟨rfl, hk⟩
        exact ⟨_, ρ, rfl, .refl _, hr.later hk.size hk.block, ⟨hk.os, hk.tape, hk.output, hk.size, fun b hb => hk.block b (hr.base b hb)⟩, .string _⟩
  | sl hG hlt => exact fin hG (fun h => Nat.le_of_ble_eq_true h) rfl f2
  | slu q1 q2 q3 q4 => exact fin ⟨_, q1, q2⟩ (fun _ => q3) rfl f2
  | _ => cases f2

/-- the two functions of strings.Builder that are told apart -/
theorem spBuilder_ok {P : PT} {r : Go.Shelf.Ren} (L : Lays.n169 P.P r) (X : Builder.Extra P.P r) {fc : FuncId}
    (h1 : ∃ fn, P.P.funcs[fc]? = some fn ∧ fn.body.isSome ∧ (fn.name == "runtime.NumGoroutine") = false) (h2 : ∃ fn, P.P.funcs[r.f 169]? = some fn ∧ fn.body.isSome ∧ (fn.name == "runtime.NumGoroutine") = false)
    (hu : ∀ (b : Nat) (w : World), w.cell? ⟨b, 0, none⟩ = some (.pointer (some ⟨b, 0, none⟩)) → Calls P.P fc #[.pointer (some ⟨b, 0, none⟩)] w fun e w' => e = .returned (.tuple #[]) ∧ w' = w)
    (hf : ∀ (b : Nat) (w : World), w.cell? ⟨b, 0, none⟩ = some (.pointer none) → w.shape? b = some (r.t 72, 2) → w.frozen? ⟨b, 0, none⟩ = false → Calls P.P fc #[.pointer (some ⟨b, 0, none⟩)] w fun e w' => e = .returned (.tuple #[]) ∧ w' = w.setCell ⟨b, 0, none⟩ (.pointer (some ⟨b, 0, none⟩)))
    (base : Nat → Prop) : SpOK P base (spBuilder fc (r.f 169) (r.t 72) (r.t 5)) := by
  intro f g hg f' vs vs' ρ H W hr hv v H' e
  by_cases hff : f' = f
  · subst hff
    simp only [if_true] at e
    unfold spBuilder at hg
    cases hq : Nat.beq f' fc with
    | true =>
      simp only [hq] at hg
      cases hg
      have := Nat.eq_of_beq_eq_true hq
      subst this
      exact ⟨h1, copyCheckC_ok hu hf hr hv e⟩
    | false =>
      simp only [hq] at hg
      cases hq2 : Nat.beq f' (r.f 169) with
      | false => simp only [hq2] at hg; cases hg
      | true =>
        simp only [hq2] at hg
        cases hg
        have := Nat.eq_of_beq_eq_true hq2
        subst this
        exact ⟨h2, stringC_ok L X hr hv e⟩
  · simp only [hff, if_false] at e; cases e

end
end Go.CE
/- CE, part 28: a closed call, as the model has it. -/
namespace Go.CE
noncomputable section

def ofL {α : Type} : List α → Nat → T α → T α
  | [], _, t => t
  | v :: l, i, t => ofL l (i + 1) (T.set v 60 t i)

theorem ofL_some {α : Type} : ∀ (l : List α) (i : Nat) (t : T α) (k : Nat) (v : α), i + l.length < BIG → (ofL l i t).get k = some v → (i ≤ k ∧ l[k - i]? = some v) ∨ t.get k = some v
  | [], _, _, _, _, _, h => .inr h
  | x :: l, i, t, k, v, hb, h => by
    simp only [ofL] at h
    rcases ofL_some l (i + 1) _ k v (by simp at hb; omega) h with ⟨h1, h2⟩ | h
    · refine .inl ⟨by omega, ?_⟩
      rw [show k - i = (k - (i + 1)) + 1 by omega, List.getElem?_cons_succ]; exact h2
    · by_cases e : k = i
      · subst e
        rw [T.get_set _ _ _ _ (by simp at hb; unfold BIG at hb; omega)] at h
        cases h
        exact .inl ⟨Nat.le_refl _, by simp⟩
      · rw [T.get_set_ne _ _ _ _ _ e] at h; exact .inr h

theorem closed {P : PT} (hm : P.P.follows .mixedOrders = true) {sp : SpecF} (hsp : ∀ base, SpOK P base sp) {k : Nat} {f : FuncId} {b : Bool} {H' : CH} (h : cfun P sp (cdraw P) k f [] ⟨0, .e⟩ = some (.bool b, H')) (W : World) :
    Calls P f #[] W fun e W' => e = .returned (.bool b) ∧ W'.os = W.os ∧ W'.tape = W.tape ∧ W'.output = W.output ∧ W.heap.size ≤ W'.heap.size ∧ ∀ b, b < W.heap.size → W'.heap[b]? = W.heap[b]? := by
  have hok := cfun_ok hsp (fun call n hc base => cdraw_ok hm hc) k (fun b => b < W.heap.size)
  have hr : HR (fun b => b < W.heap.size) (fun _ => none) ⟨0, .e⟩ W := by
    refine ⟨fun i p h => (by cases h), by show 0 ≤ BIG; unfold BIG; decide, fun i cb h => ?_, fun i j ci cj p q h => ?_, fun b h => h, fun i p h => (by cases h)⟩
    · rw [T.get_e] at h; cases h
    · rw [T.get_e] at h; cases h
  refine (hok f [] [] (fun _ => none) ⟨0, .e⟩ W hr .nil (.bool b) H' h).2.mono ?_
  rintro e W' ⟨v', ρ', rfl, _, _, hx, hv⟩
  have : v' = .bool b := VR.still_eq hv rfl
  subst this
  exact ⟨rfl, hx.os, hx.tape, hx.output, hx.size, fun b hb => hx.frame b hb⟩

def isTrue (r : Option (Value × CH)) : Bool := match r with
  | some (.bool true, _) => true
  | _ => false
theorem isTrue_some {r : Option (Value × CH)} (h : isTrue r = true) : ∃ H', r = some (.bool true, H') := by
  unfold isTrue at h
  split at h
  · exact ⟨_, rfl⟩
  · cases h

end
end Go.CE

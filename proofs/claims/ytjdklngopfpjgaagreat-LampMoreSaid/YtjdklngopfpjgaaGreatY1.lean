/- A closed run of the model's code,proved sound: values,the heap,operations. -/
import GoSem.Dispatch
import Derived.Calls
import Derived.Orders
import Derived.Laws.Sem
import Derived.KernelRfl
namespace Go.CE
structure Pl where
 b:Nat
 d:Nat
 n:Nat
abbrev Ren:=Nat→Option Pl
def Ren.le(ρ ρ':Ren):Prop:=∀i p,ρ i=some p→ρ' i=some p
theorem Ren.le.refl(ρ:Ren):ρ.le ρ:=fun _ _ h=>h
theorem Ren.le.trans{ρ ρ' ρ'':Ren}(h:ρ.le ρ')(k:ρ'.le ρ''):ρ.le ρ'':=fun i p e=>k i p (h i p e)
def UNK:Nat:=18446744073709551616
def AR(ρ:Ren)(a a':Addr):Prop:=∃p,ρ a.block=some p∧a'=⟨p.b,a.off+p.d,a.spot⟩
mutual
inductive VR(ρ:Ren):Value→Value→Prop
 |bool (b:Bool):VR ρ (.bool b) (.bool b)
 |int (k:IntKind) (n:Int):VR ρ (.int k n) (.int k n)
 |float (k:FloatKind) (n:Nat):VR ρ (.float k n) (.float k n)
 |string (s:ByteArray):VR ρ (.string s) (.string s)
 |pnil:VR ρ (.pointer none) (.pointer none)
 |ptr {a a':Addr}:AR ρ a a'→VR ρ (.pointer (some a)) (.pointer (some a'))
 |snil (l c:Nat):VR ρ (.slice none l c) (.slice none l c)
 |sl {a a':Addr} {l c:Nat}:AR ρ a a'→c<UNK→VR ρ (.slice (some a) l c) (.slice (some a') l c)
 |slu {a a':Addr} {l c e:Nat} {p:Pl}:ρ a.block=some p→a'=⟨p.b,a.off+p.d,a.spot⟩→l≤c→a'.off+c*e≤p.n→VR ρ (.slice (some a) l (UNK+e)) (.slice (some a') l c)
 |mnil:VR ρ (.map none) (.map none)
 |map {r:Nat} {p:Pl}:ρ r=some p→VR ρ (.map (some r)) (.map (some p.b))
 |func (fn:Fn) {f f' c c':Array Value}:VRs ρ f.toList f'.toList→VRs ρ c.toList c'.toList→VR ρ (.func fn f c) (.func fn f' c')
 |nilFunc:VR ρ .nilFunc .nilFunc
 |iface (t:TypeId) {v v':Value}:VR ρ v v'→VR ρ (.iface t v) (.iface t v')
 |nilIface:VR ρ .nilIface .nilIface
 |agg {c c':Array Value}:VRs ρ c.toList c'.toList→VR ρ (.agg c) (.agg c')
 |tuple {c c':Array Value}:VRs ρ c.toList c'.toList→VR ρ (.tuple c) (.tuple c')
 |many (n:Nat):VR ρ (.complex .f64 n 0) (.agg (Array.replicate n (.int .i64 0)))
inductive VRs(ρ:Ren):List Value→List Value→Prop
 |nil:VRs ρ [] []
 |cons {v v':Value} {l l':List Value}:VR ρ v v'→VRs ρ l l'→VRs ρ (v::l) (v'::l')
end
theorem AR.mono{ρ ρ':Ren}(h:ρ.le ρ'){a a':Addr}:AR ρ a a'→AR ρ' a a':=fun ⟨p,h1,h2⟩=>⟨p,h _ _ h1,h2⟩
mutual
theorem VR.mono{ρ ρ':Ren}(h:ρ.le ρ'):∀{v v':Value},VR ρ v v'→VR ρ' v v'
 | _,_,.bool b=>.bool b
 | _,_,.int k n=>.int k n
 | _,_,.float k n=>.float k n
 | _,_,.string s=>.string s
 | _,_,.pnil=>.pnil
 | _,_,.ptr a=>.ptr (a.mono h)
 | _,_,.snil l c=>.snil l c
 | _,_,.sl a b=>.sl (a.mono h) b
 | _,_,.slu a b c d=>.slu (h _ _ a) b c d
 | _,_,.mnil=>.mnil
 | _,_,.map a=>.map (h _ _ a)
 | _,_,.func fn a b=>.func fn (VRs.mono h a) (VRs.mono h b)
 | _,_,.nilFunc=>.nilFunc
 | _,_,.iface t a=>.iface t (VR.mono h a)
 | _,_,.nilIface=>.nilIface
 | _,_,.agg a=>.agg (VRs.mono h a)
 | _,_,.tuple a=>.tuple (VRs.mono h a)
 | _,_,.many n=>.many n
theorem VRs.mono{ρ ρ':Ren}(h:ρ.le ρ'):∀{l l':List Value},VRs ρ l l'→VRs ρ' l l'
 | _,_,.nil=>.nil
 | _,_,.cons a b=>.cons (VR.mono h a) (VRs.mono h b)
end
theorem VRs.length{ρ:Ren}:∀{l l':List Value},VRs ρ l l'→l.length=l'.length
 | _,_,.nil=>rfl
 | _,_,.cons _ h=>by simp[VRs.length h]
theorem VRs.get{ρ:Ren}:∀{l l':List Value},VRs ρ l l'→∀(i:Nat) (v:Value),l[i]? = some v→∃v',l'[i]? = some v'∧VR ρ v v'
 | _,_,.nil,i,v,h=>by simp at h
 | _,_,.cons a b,0,v,h=>by simp at h;subst h;exact⟨_,rfl,a⟩
 | _,_,.cons a b,i+1,v,h=>by simp at h;simpa using VRs.get b i v h
theorem VRs.app{ρ:Ren}:∀{l l' m m':List Value},VRs ρ l l'→VRs ρ m m'→VRs ρ (l++m) (l'++m')
 | _,_,_,_,.nil,h=>h
 | _,_,_,_,.cons a b,h=>.cons a (VRs.app b h)
theorem VRs.drop{ρ:Ren}:∀{l l':List Value} (n:Nat),VRs ρ l l'→VRs ρ (l.drop n) (l'.drop n)
 | _,_,0,h=>h
 | _,_,_+1,.nil=>.nil
 | _,_,n+1,.cons _ b=>VRs.drop n b
theorem VRs.take{ρ:Ren}:∀{l l':List Value} (n:Nat),VRs ρ l l'→VRs ρ (l.take n) (l'.take n)
 | _,_,0,_=>.nil
 | _,_,_+1,.nil=>.nil
 | _,_,n+1,.cons a b=>.cons a (VRs.take n b)
theorem VRs.set{ρ:Ren}{v v':Value}(hv:VR ρ v v'):∀{l l':List Value} (n:Nat),VRs ρ l l'→VRs ρ (l.set n v) (l'.set n v')
 | _,_,0,.nil=>.nil
 | _,_,_+1,.nil=>.nil
 | _,_,0,.cons _ b=>.cons hv b
 | _,_,n+1,.cons a b=>.cons a (VRs.set hv n b)
theorem VRs.of_get{ρ:Ren}:∀{l l':List Value},l.length=l'.length→(∀(i:Nat) (v v':Value),l[i]? = some v→l'[i]? = some v'→VR ρ v v')→VRs ρ l l'
 |[],[],_,_=>.nil
 |[],_::_,h,_=>by simp at h
 | _::_,[],h,_=>by simp at h
 |a::l,b::l',h,k=>.cons (k 0 a b rfl rfl) (VRs.of_get (by simpa using h) fun i v v' e e'=>k (i+1) v v' (by simpa using e) (by simpa using e'))
def flat:Value→Bool
 | .bool _ | .int _ _ | .string _ | .pointer none | .map none | .nilFunc | .nilIface | .float _ _=>true
 | .slice none _ _=>true
 | _=>false
theorem VR.flat{ρ:Ren}{v v':Value}(h:VR ρ v v')(hf:flat v=true):v'=v:=by
 cases h<;>first|rfl|(simp[CE.flat]at hf)
mutual
def Adq:Value→Bool
 | .bool _ | .int _ _ | .string _ | .pointer none | .map none | .nilFunc | .nilIface | .float _ _=>true
 | .slice none _ _=>true
 | .iface _ v=>Adq v
 | .agg ⟨c⟩=>Amh c
 | .tuple ⟨c⟩=>Amh c
 | .func _ ⟨f⟩ ⟨c⟩=>Amh f&&Amh c
 | _=>false
def Amh:List Value→Bool
 |[]=>true
 |v::l=>Adq v&&Amh l
end
mutual
theorem VR.of_still{ρ:Ren}:∀{v:Value},Adq v=true→VR ρ v v
 | .bool _,_=>.bool _
 | .int _ _,_=>.int _ _
 | .float _ _,_=>.float _ _
 | .string _,_=>.string _
 | .pointer none,_=>.pnil
 | .pointer (some _),h=>by simp[Adq]at h
 | .slice none _ _,_=>.snil _ _
 | .slice (some _) _ _,h=>by simp[Adq]at h
 | .map none,_=>.mnil
 | .map (some _),h=>by simp[Adq]at h
 | .nilFunc,_=>.nilFunc
 | .nilIface,_=>.nilIface
 | .iface t v,h=>.iface t (VR.of_still (by simpa [Adq]using h))
 | .agg ⟨c⟩,h=>.agg (VRs.of_still (by simpa [Adq]using h))
 | .tuple ⟨c⟩,h=>.tuple (VRs.of_still (by simpa [Adq]using h))
 | .func fn ⟨f⟩ ⟨c⟩,h=>by
  simp only[Adq,Bool.and_eq_true]at h
  exact .func fn (VRs.of_still h.1) (VRs.of_still h.2)
 | .chan _,h=>by simp[Adq]at h
 | .complex ..,h=>by simp[Adq]at h
theorem VRs.of_still{ρ:Ren}:∀{l:List Value},Amh l=true→VRs ρ l l
 |[],_=>.nil
 |v::l,h=>by
  simp only[Amh,Bool.and_eq_true]at h
  exact .cons (VR.of_still h.1) (VRs.of_still h.2)
end
mutual
theorem VR.still_eq{ρ:Ren}:∀{v v':Value},VR ρ v v'→Adq v=true→v'=v
 | _,_,.bool _,_ | _,_,.int _ _,_ | _,_,.float _ _,_ | _,_,.string _,_ | _,_,.pnil,_ | _,_,.snil _ _,_ | _,_,.mnil,_ | _,_,.nilFunc,_ | _,_,.nilIface,_=>rfl
 | _,_,.ptr _,h | _,_,.sl _ _,h | _,_,.slu _ _ _ _,h | _,_,.map _,h=>by simp[Adq]at h
 | _,_,.iface t a,h=>by rw[VR.still_eq a (by simpa [Adq]using h)]
 | .agg ⟨l⟩,.agg ⟨l'⟩,.agg a,h=>by
  have e:l'=l:=VRs.still_eq a (by simpa [Adq]using h)
  rw[e]
 | .tuple ⟨l⟩,.tuple ⟨l'⟩,.tuple a,h=>by
  have e:l'=l:=VRs.still_eq a (by simpa [Adq]using h)
  rw[e]
 | .func _ ⟨l⟩ ⟨m⟩,.func _ ⟨l'⟩ ⟨m'⟩,.func fn a b,h=>by
  simp only[Adq,Bool.and_eq_true]at h
  have e1:l'=l:=VRs.still_eq a h.1
  have e2:m'=m:=VRs.still_eq b h.2
  rw[e1,e2]
theorem VRs.still_eq{ρ:Ren}:∀{l l':List Value},VRs ρ l l'→Amh l=true→l'=l
 | _,_,.nil,_=>rfl
 | _,_,.cons a b,h=>by
  simp only[Amh,Bool.and_eq_true]at h
  rw[VR.still_eq a h.1,VRs.still_eq b h.2]
end
/- By recursors alone: each step is one reduction of the kernel's. -/
inductive D4 where
 |a|b|c|d
inductive T(α:Type) where
 |e
 |n (v:Option α) (a b c d:T α)
noncomputable section
def Cso(k:Nat):D4:=Nat.rec D4.a (fun k _=>Nat.rec D4.b (fun k _=>Nat.rec D4.c (fun _ _=>D4.d) k) k) k
def Cbc(f:Nat):Nat→List D4 :=
 Nat.rec (motive:=fun _=>Nat→List D4) (fun _=>[]) (fun _ ih k=>Bool.rec (motive:=fun _=>List D4) (Cso (Nat.mod k (nat_lit 4))::ih (Nat.div k (nat_lit 4))) [] (Nat.beq k (nat_lit 0))) f
def C1c(k:Nat):List D4:=Cbc k k
def Ct8{α:Type}(p:List D4):T α→Option α :=
 List.rec (motive:=fun _=>T α→Option α) (fun t=>T.rec (motive:=fun _=>Option α) none (fun v _ _ _ _ _ _ _ _=>v) t)
  (fun x _ ih t=>T.rec (motive:=fun _=>Option α) none (fun _ a b c d _ _ _ _=>D4.rec (motive:=fun _=>Option α) (ih a) (ih b) (ih c) (ih d) x) t) p
def C7b{α:Type}(v:α)(p:List D4):T α→T α :=
 List.rec (motive:=fun _=>T α→T α) (fun t=>T.rec (motive:=fun _=>T α) (.n (some v) .e .e .e .e) (fun _ a b c d _ _ _ _=>.n (some v) a b c d) t)
  (fun x _ ih t=>T.rec (motive:=fun _=>T α) (D4.rec (motive:=fun _=>T α) (.n none (ih .e) .e .e .e) (.n none .e (ih .e) .e .e) (.n none .e .e (ih .e) .e) (.n none .e .e .e (ih .e)) x)
   (fun w a b c d _ _ _ _=>D4.rec (motive:=fun _=>T α) (.n w (ih a) b c d) (.n w a (ih b) c d) (.n w a b (ih c) d) (.n w a b c (ih d)) x) t) p
def Ciq{α:Type}(k:Nat)(f:Nat→α):α:=Nat.rec (motive:=fun _=>α) (f (nat_lit 0)) (fun n _=>f (Nat.succ n)) k
def T.get{α:Type}(t:T α)(k:Nat):Option α:=Ciq k fun k=>Ct8 (C1c k) t
def T.set{α:Type}(v:α)(_:Nat)(t:T α)(k:Nat):T α:=Ciq k fun k=>C7b v (C1c k) t
end
theorem A4v{α:Type}(k:Nat)(f:Nat→α):Ciq k f=f k:=by cases k<;>rfl
theorem Cir{α:Type}:∀p:List D4,Ct8 p (T.e:T α)=none
 |[]=>rfl
 | _::_=>rfl
theorem A0n{α:Type}(v:α):∀(p:List D4) (t:T α),Ct8 p (C7b v p t)=some v
 |[],.e=>rfl
 |[],.n _ _ _ _ _=>rfl
 | .a::p,.e=>A0n v p .e
 | .b::p,.e=>A0n v p .e
 | .c::p,.e=>A0n v p .e
 | .d::p,.e=>A0n v p .e
 | .a::p,.n _ a _ _ _=>A0n v p a
 | .b::p,.n _ _ b _ _=>A0n v p b
 | .c::p,.n _ _ _ c _=>A0n v p c
 | .d::p,.n _ _ _ _ d=>A0n v p d
theorem Bv1{α:Type}(v:α):∀(p q:List D4) (t:T α),q≠p→Ct8 q (C7b v p t)=Ct8 q t
 |[],[],_,h=>absurd rfl h
 |[],_::_,.e,_=>by rename_i x q _;cases x<;>exact Cir q
 |[],_::_,.n _ _ _ _ _,_=>rfl
 |x::_,[],.e,_=>by cases x<;>rfl
 |x::_,[],.n _ _ _ _ _,_=>by cases x<;>rfl
 |x::p,y::q,.e,h=>by
  cases x<;>cases y<;>first|exact Cir q|exact (Bv1 v p q .e (fun e=>h (by rw[e]))).trans (Cir q)
 |x::p,y::q,.n w a b c d,h=>by
  cases x<;>cases y<;>first|rfl|exact Bv1 v p q _ (fun e=>h (by rw[e]))
theorem C4j{i j:Nat}(hi:i<4)(hj:j<4)(h:Cso i=Cso j):i=j:=by
 have:i=0∨i=1∨i=2∨i=3:=by omega
 have:j=0∨j=1∨j=2∨j=3:=by omega
 rcases ‹i=0∨_› with rfl|rfl|rfl|rfl<;>rcases ‹j=0∨_› with rfl|rfl|rfl|rfl<;>first|rfl|cases h
theorem Cis(f:Nat):Cbc f 0=[]:=by cases f<;>rfl
theorem Bn7(f k:Nat):Cbc (f+1) (k+1)=Cso ((k+1)%4)::Cbc f ((k+1)/4):=rfl
theorem Cpp:∀(f g i j:Nat),i≤f→j≤g→Cbc f i=Cbc g j→i=j
 | _,_,0,0,_,_,_=>rfl
 |f,g+1,0,j+1,_,_,h=>by rw[Cis,Bn7]at h;cases h
 |f+1,g,i+1,0,_,_,h=>by rw[Cis,Bn7]at h;cases h
 |f+1,g+1,i+1,j+1,hi,hj,h=>by
  rw[Bn7,Bn7]at h
  injection h with h1 h2
  have d:=C4j (Nat.mod_lt _ (by decide)) (Nat.mod_lt _ (by decide)) h1
  have:=Cpp f g ((i+1)/4) ((j+1)/4) (by omega) (by omega) h2
  omega
theorem C7c{i j:Nat}(h:C1c i=C1c j):i=j:=Cpp i j i j (Nat.le_refl _) (Nat.le_refl _) h
theorem T.get_e{α:Type}(k:Nat):(T.e:T α).get k=none:=by rw[T.get,A4v,Cir]
theorem T.get_set{α:Type}(v:α)(f:Nat)(t:T α)(k:Nat)(_:k+1<2^f):(T.set v f t k).get k=some v:=by
 rw[T.get,T.set,A4v,A4v,A0n]
theorem T.get_set_ne{α:Type}(v:α)(f:Nat)(t:T α)(k j:Nat)(h:j≠k):(T.set v f t k).get j=t.get j:=by
 rw[T.get,T.get,T.set,A4v,A4v,A4v]
 exact Bv1 v _ _ t fun e=>h (C7c e)
end Go.CE
namespace Go.CE
noncomputable section
inductive CB where
 |cells (n:Nat) (cs:T Value) (d:Value) (elem:TypeId) (exact:Bool)
 |map (es:List MapEntry) (clock:Nat)
 |dead
def at?(n:Nat)(cs:T Value)(d:Value)(k:Nat):Option Value :=
 match Nat.blt k n with
 |true=>some ((cs.get k).getD d)
 |false=>none
structure CH where
 next:Nat
 m:T CB
def CM(α:Type):Type:=CH→Option (α×CH)
def CM.ret{α:Type}(a:α):CM α:=fun H=>some (a,H)
def CM.bind{α β:Type}(c:CM α)(f:α→CM β):CM β:=fun H=>
 Option.rec (motive:=fun _=>Option (β×CH)) none (fun p=>Prod.rec (motive:=fun _=>Option (β×CH)) (fun a H'=>f a H') p) (c H)
theorem CM.bind_at{α β:Type}(c:CM α)(f:α→CM β)(H:CH):CM.bind c f H=match c H with
 |some (a,H')=>f a H'
 |none=>none:=by
 unfold CM.bind
 cases c H with
 |none=>rfl
 |some p=>cases p;rfl
def CM.fail{α:Type}:CM α:=fun _=>none
instance:Monad CM where
 pure:=CM.ret
 bind:=CM.bind
instance:Bind CM:=⟨CM.bind⟩
def CM.opt{α:Type}:Option α→CM α
 |some a=>CM.ret a
 |none=>CM.fail
def BIG:Nat:=576460752303423488
inductive ERs(ρ:Ren):List MapEntry→List MapEntry→Prop
 |nil:ERs ρ [] []
 |cons {e e':MapEntry} {l l':List MapEntry}:VR ρ e.key e'.key→VR ρ e.val e'.val→e'.born=e.born→ERs ρ l l'→ERs ρ (e::l) (e'::l')
theorem ERs.mono{ρ ρ':Ren}(h:ρ.le ρ'):∀{l l':List MapEntry},ERs ρ l l'→ERs ρ' l l'
 | _,_,.nil=>.nil
 | _,_,.cons a b c d=>.cons (a.mono h) (b.mono h) c (ERs.mono h d)
def BR(ρ:Ren)(p:Pl)(W:World):CB→Prop
 | .cells n cs d elem exact=>∃c,W.heap[p.b]? = some (.cells c elem (0,0))∧c.size=p.n∧(exact=true→n=p.n∧p.d=0)∧p.d+n≤p.n∧
   ∀k v,at? n cs d k=some v→∃v',c[p.d+k]? = some v'∧VR ρ v v'
 | .map es clock=>∃es',W.heap[p.b]? = some (.map es' clock)∧ERs ρ es es'.toList
 | .dead=>True
def CB.live:CB→Bool
 | .dead=>false
 | _=>true
structure HR(base:Nat→Prop)(ρ:Ren)(H:CH)(W:World):Prop where
 dom:∀i p,ρ i=some p→i<H.next∧¬base p.b∧p.b<W.heap.size
 big:H.next≤BIG
 blk:∀i cb,H.m.get i=some cb→cb.live=true→∃p,ρ i=some p∧BR ρ p W cb
 inj:∀i j ci cj p q,H.m.get i=some ci→ci.live=true→H.m.get j=some cj→cj.live=true→ρ i=some p→ρ j=some q→p.b=q.b→i=j
 base:∀b,base b→b<W.heap.size
 zero:∀i p,ρ i=some p→p.d=0
structure Ext(base:Nat→Prop)(W W':World):Prop where
 os:W'.os=W.os
 tape:W'.tape=W.tape
 output:W'.output=W.output
 size:W.heap.size≤W'.heap.size
 frame:∀b,base b→W'.heap[b]? = W.heap[b]?
theorem Ext.refl(base:Nat→Prop)(W:World):Ext base W W:=⟨rfl,rfl,rfl,Nat.le_refl _,fun _ _=>rfl⟩
theorem Ext.trans{base:Nat→Prop}{W W' W'':World}(h:Ext base W W')(k:Ext base W' W''):Ext base W W'' :=
 ⟨k.os.trans h.os,k.tape.trans h.tape,k.output.trans h.output,Nat.le_trans h.size k.size,fun b hb=>(k.frame b hb).trans (h.frame b hb)⟩
section
variable (P:Program) (base:Nat→Prop)
def Sim{α β:Type}(ρ:Ren)(Q:Ren→α→β→Prop)(c:CM α)(s:Sem β):Prop :=
 ∀H W,HR base ρ H W→∀a H',c H=some (a,H')→
  ∃ρ' b W',ρ.le ρ'∧s.run P W = .ok b W'∧HR base ρ' H' W'∧Ext base W W'∧Q ρ' a b
end
section
variable {P:Program} {base:Nat→Prop} {α β γ δ:Type} {ρ:Ren}
theorem Sim.pure{Q:Ren→α→β→Prop}{a:α}{b:β}(h:Q ρ a b):Sim P base ρ Q (Pure.pure a) (Pure.pure b):=by
 intro H W hr x H' e
 cases e
 exact⟨ρ,b,W,.refl _,rfl,hr,.refl _ _,h⟩
theorem Sim.bind{Q:Ren→α→β→Prop}{R:Ren→γ→δ→Prop}{c:CM α}{s:Sem β}{f:α→CM γ}{g:β→Sem δ}(h:Sim P base ρ Q c s)(k:∀ρ' a b,ρ.le ρ'→Q ρ' a b→Sim P base ρ' R (f a) (g b)):Sim P base ρ R (c >>= f) (s >>= g):=by
 intro H W hr x H' e
 have e:CM.bind c f H=some (x,H'):=e
 rw[CM.bind_at]at e
 split at e
 case h_2=>cases e
 rename_i a H1 e1
 obtain⟨ρ1,b,W1,hle,hrun,hr1,he1,hq⟩:=h H W hr a H1 e1
 obtain⟨ρ2,d,W2,hle2,hrun2,hr2,he2,hq2⟩:=k ρ1 a b hle hq H1 W1 hr1 x H' e
 exact⟨ρ2,d,W2,hle.trans hle2,by rw[Sem.run_bind,hrun];exact hrun2,hr2,he1.trans he2,hq2⟩
theorem Sim.fail{Q:Ren→α→β→Prop}{s:Sem β}:Sim P base ρ Q CM.fail s:=fun _ _ _ _ _ e=>by cases e
theorem Sim.mono{Q Q':Ren→α→β→Prop}{c:CM α}{s:Sem β}(h:Sim P base ρ Q c s)(k:∀ρ' a b,ρ.le ρ'→Q ρ' a b→Q' ρ' a b):Sim P base ρ Q' c s:=by
 intro H W hr a H' e
 obtain⟨ρ1,b,W1,hle,hrun,hr1,he1,hq⟩:=h H W hr a H' e
 exact⟨ρ1,b,W1,hle,hrun,hr1,he1,k _ _ _ hle hq⟩
theorem Sim.left{Q:Ren→α→δ→Prop}{c:CM α}{s:Sem β}{g:β→Sem δ}{b:β}(h:∀W,s.run P W = .ok b W)(k:Sim P base ρ Q c (g b)):Sim P base ρ Q c (s >>= g):=by
 intro H W hr a H' e
 obtain⟨ρ1,d,W1,hle,hrun,hr1,he1,hq⟩:=k H W hr a H' e
 exact⟨ρ1,d,W1,hle,by rw[Sem.run_bind,h];exact hrun,hr1,he1,hq⟩
theorem Sim.opt{Q:Ren→α→β→Prop}{f:γ→CM α}{o:Option γ}{s:Sem β}(h:∀x,o=some x→Sim P base ρ Q (f x) s):Sim P base ρ Q (CM.opt o >>= f) s:=by
 cases o with
 |none=>intro H W hr a H' e;cases e
 |some x=>exact h x rfl
theorem Bg7{n:Nat}{cs:T Value}{d:Value}{k:Nat}{v:Value}(h:at? n cs d k=some v):k<n∧v=(cs.get k).getD d:=by
 unfold at? at h
 split at h
 ·rename_i hb
  cases h
  exact⟨by simpa [Nat.blt_eq]using hb,rfl⟩
 ·cases h
theorem Dei{n:Nat}{cs:T Value}{d:Value}{k:Nat}(h:k<n):at? n cs d k=some ((cs.get k).getD d):=by
 unfold at?
 have:Nat.blt k n=true:=by simpa [Nat.blt_eq]using h
 rw[this]
def A7a(a:Addr):CM Value:=fun H=>
 match a.spot,H.m.get a.block with
 |none,some (.cells n cs d _ _)=>match at? n cs d a.off with
  |some v=>some (v,H)
  |none=>none
 | _,_=>none
def Azg:Value→Bool
 | .agg _ | .tuple _ | .complex ..=>false
 | _=>true
def Cit(a:Addr)(v:Value):CM Unit:=fun H=>
 match Azg v,a.spot,H.m.get a.block with
 |true,none,some (.cells n cs d t x)=>match Nat.blt a.off n,Nat.blt a.off BIG with
  |true,true=>some ((),{H with m:=T.set (.cells n (T.set v 60 cs a.off) d t x) 60 H.m a.block})
  | _,_=>none
 | _,_,_=>none
theorem BR.cells{p:Pl}{W:World}{n:Nat}{cs:T Value}{d:Value}{t:TypeId}{x:Bool}(h:BR ρ p W (.cells n cs d t x)) :
  ∃c,W.heap[p.b]? = some (.cells c t (0,0))∧c.size=p.n∧(x=true→n=p.n∧p.d=0)∧p.d+n≤p.n∧∀k v,at? n cs d k=some v→∃v',c[p.d+k]? = some v'∧VR ρ v v':=h
theorem Ct9{a a':Addr}(h:AR ρ a a')(m:Mode):Sim P base ρ VR (A7a a) (Go.load a' m):=by
 intro H W hr v H' e
 unfold A7a at e
 split at e
 case h_2=>cases e
 rename_i hs hb
 split at e
 case h_2=>cases e
 rename_i hv
 cases e
 obtain⟨p,hp,rfl⟩:=h
 obtain⟨q,hq,hB⟩:=hr.blk _ _ hb rfl
 rw[hp]at hq;cases hq
 obtain⟨c,h1,h2,_,h3,h4⟩:=hB.cells
 obtain⟨v',h5,h6⟩:=h4 _ _ hv
 refine⟨ρ,v',W,.refl _,?_,hr,.refl _ _,h6⟩
 have:W.cell? ⟨p.b,a.off+p.d,a.spot⟩=some v':=by
  simp only[World.cell?,h1,hs]
  rw[Nat.add_comm];simpa using h5
 simp only[Go.load,Sem.run,this]
theorem BR.mono{ρ':Ren}(h:ρ.le ρ'){p:Pl}{W W':World}{cb:CB}(hw:W'.heap[p.b]? = W.heap[p.b]?)(hb:BR ρ p W cb):BR ρ' p W' cb:=by
 cases cb with
 |cells n cs d t x=>
  obtain⟨c,h1,h2,h3,h4,h5⟩:=hb.cells
  refine⟨c,hw.trans h1,h2,h3,h4,fun k v hv=>?_⟩
  obtain⟨v',e1,e2⟩:=h5 k v hv
  exact⟨v',e1,e2.mono h⟩
 |map es cl=>
  obtain⟨es',h1,h2⟩:=hb
  exact⟨es',hw.trans h1,h2.mono h⟩
 |dead=>trivial
theorem HR.upd{H:CH}{W W':World}(hr:HR base ρ H W){i:Nat}{cb cb':CB}{p:Pl}(hb:H.m.get i=some cb)(hl:cb.live=true)(hp:ρ i=some p)(hs:W'.heap.size=W.heap.size)(hf:∀b,b≠p.b→W'.heap[b]? = W.heap[b]?)(hn:BR ρ p W' cb'):HR base ρ {H with m:=T.set cb' 60 H.m i} W':=by
 have hi:=(hr.dom i p hp).1
 have hbig:=hr.big
 have hi60:i+1<2^60:=by unfold BIG at hbig;omega
 have get:∀j cj,(T.set cb' 60 H.m i).get j=some cj→(j=i∧cj=cb')∨(j≠i∧H.m.get j=some cj):=by
  intro j cj h
  by_cases e:j=i
  ·subst e;rw[T.get_set _ _ _ _ hi60]at h;cases h;exact .inl ⟨rfl,rfl⟩
  ·rw[T.get_set_ne _ _ _ _ _ e]at h;exact .inr ⟨e,h⟩
 refine⟨fun j q hq=>by rw[hs];exact hr.dom j q hq,hbig,fun j cj hj hjl=>?_,fun j k cj ck q r hj hjl hk hkl hq hr' e=>?_,by rw[hs];exact hr.base,hr.zero⟩
 ·rcases get j cj hj with ⟨rfl,rfl⟩|⟨hne,hj'⟩
  ·exact⟨p,hp,hn⟩
  ·obtain⟨q,hq,hB⟩:=hr.blk j cj hj' hjl
   refine⟨q,hq,hB.mono (.refl _) (hf _ fun e=>hne ?_)⟩
   exact hr.inj j i cj cb q p hj' hjl hb hl hq hp e
 ·have live:∀j cj,(T.set cb' 60 H.m i).get j=some cj→∃cj',H.m.get j=some cj'∧(cj.live=true→cj'.live=true):=by
   intro j cj h
   rcases get j cj h with ⟨rfl,rfl⟩|⟨_,h'⟩
   ·exact⟨cb,hb,fun _=>hl⟩
   ·exact⟨cj,h',fun h=>h⟩
  obtain⟨cj',a1,a2⟩:=live j cj hj
  obtain⟨ck',b1,b2⟩:=live k ck hk
  exact hr.inj j k cj' ck' q r a1 (a2 hjl) b1 (b2 hkl) hq hr' e
theorem Cpq{a a':Addr}(h:AR ρ a a'){v v':Value}(hv:VR ρ v v')(m:Mode):Sim P base ρ (fun _ _ _=>True) (Cit a v) (Go.store a' v' m):=by
 intro H W hr u H' e
 unfold Cit at e
 split at e
 case h_2=>cases e
 rename_i n cs d t x h1 hs hb
 split at e
 case h_2=>cases e
 rename_i hlt hbg
 cases e
 have hlt:a.off<n:=by simpa [Nat.blt_eq]using hlt
 have hbg:a.off<BIG:=by simpa [Nat.blt_eq]using hbg
 obtain⟨p,hp,rfl⟩:=h
 obtain⟨q,hq,hB⟩:=hr.blk _ _ hb rfl
 rw[hp]at hq;cases hq
 obtain⟨c,e1,e2,e3,e4,e5⟩:=hB.cells
 have hpb:=(hr.dom _ _ hp).2.2
 have hlt':a.off+p.d<c.size:=by omega
 have hcell:W.cell? ⟨p.b,a.off+p.d,a.spot⟩=some c[a.off+p.d]:=by
  simp only[World.cell?,e1,hs];simp[hlt']
 have hfr:W.frozen? ⟨p.b,a.off+p.d,a.spot⟩=false:=by
  simp only[World.frozen?,e1];simp
 have hset:(W.setCell ⟨p.b,a.off+p.d,a.spot⟩ v').heap=W.heap.setIfInBounds p.b (.cells (c.setIfInBounds (a.off+p.d) v') t (0,0)):=by
  simp only[World.setCell,hs]
  apply Array.ext_getElem?
  intro i
  rw[Array.getElem?_modify,Array.getElem?_setIfInBounds]
  by_cases ei:p.b=i
  ·subst ei;simp only[if_true,e1,Option.map_some];rw[if_pos hpb];simp
  ·simp only[ei,if_false]
 refine⟨ρ,(),W.setCell ⟨p.b,a.off+p.d,a.spot⟩ v',.refl _,?_,?_,?_,trivial⟩
 ·have:∀(k:Sem Unit),(Sem.store m ⟨p.b,a.off+p.d,a.spot⟩ v' k).run P W=k.run P (W.setCell ⟨p.b,a.off+p.d,a.spot⟩ v'):=by
   intro k
   cases hv<;>first|(simp[Azg]at h1;done)|simp only[Sem.run,hcell,hfr,Bool.false_eq_true,if_false]
  exact this _
 ·refine hr.upd hb rfl hp (by rw[hset];simp) (fun b hbn=>?_) ?_
  ·rw[hset,Array.getElem?_setIfInBounds_ne (fun e=>hbn e.symm)]
  ·refine⟨c.setIfInBounds (a.off+p.d) v',by rw[hset];simp[hpb],by simp[e2],e3,e4,fun k w hw=>?_⟩
   obtain⟨hk,hw⟩:=Bg7 hw
   by_cases ek:k=a.off
   ·subst ek
    rw[T.get_set _ _ _ _ (by unfold BIG at hbg;omega)]at hw
    simp at hw;subst hw
    exact⟨v',by rw[Nat.add_comm p.d a.off];simp[hlt'],hv⟩
   ·rw[T.get_set_ne _ _ _ _ _ ek]at hw
    obtain⟨w',f1,f2⟩:=e5 k w (by rw[hw];exact Dei hk)
    exact⟨w',by rw[Array.getElem?_setIfInBounds_ne (by omega)];exact f1,f2⟩
 ·refine⟨rfl,rfl,rfl,by rw[hset];simp,fun b hbb=>?_⟩
  have:=(hr.dom _ _ hp).2.1
  rw[hset,Array.getElem?_setIfInBounds_ne (fun e=>this (by rw[e];exact hbb))]
def Ren.put(ρ:Ren)(i:Nat)(p:Pl):Ren:=fun j=>if j=i then some p else ρ j
def B6j(cb:CB):CM Nat:=fun H=>Ciq H.next fun n=>
 match Nat.blt n BIG with
 |true=>some (n,⟨n+1,T.set cb 60 H.m n⟩)
 |false=>none
theorem Bg8(cb:CB)(H:CH):B6j cb H=match Nat.blt H.next BIG with
 |true=>some (H.next,⟨H.next+1,T.set cb 60 H.m H.next⟩)
 |false=>none:=by unfold B6j;rw[A4v]
theorem HR.push{H:CH}{W:World}(hr:HR base ρ H W)(hb:H.next<BIG){o:Obj}{cb:CB}{n:Nat}(hn:∀ρ',ρ.le ρ'→BR ρ' ⟨W.heap.size,0,n⟩ {W with heap:=W.heap.push o} cb) :
  ρ.le (ρ.put H.next ⟨W.heap.size,0,n⟩)∧HR base (ρ.put H.next ⟨W.heap.size,0,n⟩) ⟨H.next+1,T.set cb 60 H.m H.next⟩ {W with heap:=W.heap.push o}:=by
 have hle:ρ.le (ρ.put H.next ⟨W.heap.size,0,n⟩):=by
  intro i p hp
  have:=(hr.dom i p hp).1
  unfold Ren.put;rw[if_neg (by omega)];exact hp
 have h60:H.next+1<2^60:=by unfold BIG at hb;omega
 have get:∀j cj,(T.set cb 60 H.m H.next).get j=some cj→(j=H.next∧cj=cb)∨(j≠H.next∧H.m.get j=some cj):=by
  intro j cj h
  by_cases e:j=H.next
  ·subst e;rw[T.get_set _ _ _ _ h60]at h;cases h;exact .inl ⟨rfl,rfl⟩
  ·rw[T.get_set_ne _ _ _ _ _ e]at h;exact .inr ⟨e,h⟩
 have put_ne:∀j,j≠H.next→(ρ.put H.next ⟨W.heap.size,0,n⟩) j=ρ j:=fun j e=>by unfold Ren.put;rw[if_neg e]
 have put_eq:(ρ.put H.next ⟨W.heap.size,0,n⟩) H.next=some ⟨W.heap.size,0,n⟩:=by unfold Ren.put;rw[if_pos rfl]
 refine⟨hle,fun j q hq=>?_,by show H.next+1≤BIG;omega,fun j cj hj hjl=>?_,fun j k cj ck q r hj hjl hk hkl hq hr' e=>?_,fun b hb=>by have:=hr.base b hb;simp;omega,fun j q hq=>?_⟩
 ·by_cases e:j=H.next
  ·subst e;rw[put_eq]at hq;cases hq
   exact⟨Nat.lt_succ_self _,fun hb=>Nat.lt_irrefl _ (hr.base _ hb),by simp⟩
  ·rw[put_ne j e]at hq
   obtain⟨h1,h2,h3⟩:=hr.dom j q hq
   exact⟨by show j<H.next+1;omega,h2,by simp;omega⟩
 ·rcases get j cj hj with ⟨rfl,rfl⟩|⟨hne,hj'⟩
  ·exact⟨_,put_eq,hn _ hle⟩
  ·obtain⟨q,hq,hB⟩:=hr.blk j cj hj' hjl
   have:=(hr.dom j q hq).2.2
   exact⟨q,by rw[put_ne j hne];exact hq,hB.mono hle (by show (W.heap.push o)[q.b]? = _;rw[Array.getElem?_push,if_neg (by omega)])⟩
 ·rcases get j cj hj with ⟨rfl,rfl⟩|⟨hne,hj'⟩<;>rcases get k ck hk with ⟨rfl,rfl⟩|⟨hne2,hk'⟩
  ·rfl
  ·rw[put_eq]at hq;cases hq
   rw[put_ne k hne2]at hr'
   have:=(hr.dom k r hr').2.2
   have e:W.heap.size=r.b:=e
   omega
  ·rw[put_eq]at hr';cases hr'
   rw[put_ne j hne]at hq
   have:=(hr.dom j q hq).2.2
   have e:q.b=W.heap.size:=e
   omega
  ·rw[put_ne j hne]at hq;rw[put_ne k hne2]at hr'
   exact hr.inj j k cj ck q r hj' hjl hk' hkl hq hr' e
 ·by_cases e:j=H.next
  ·subst e;rw[put_eq]at hq;cases hq;rfl
  ·rw[put_ne j e]at hq;exact hr.zero j q hq
def Aov:List Value→Nat→T Value→T Value
 |[],_,t=>t
 |v::l,i,t=>Aov l (i+1) (T.set v 60 t i)
theorem Cpr:∀(l:List Value) (i:Nat) (t:T Value) (k:Nat),k<i→(Aov l i t).get k=t.get k
 |[],_,_,_,_=>rfl
 |v::l,i,t,k,h=>by
  simp only[Aov]
  rw[Cpr l (i+1) _ k (by omega),T.get_set_ne _ _ _ _ _ (by omega)]
theorem A7b:∀(l:List Value) (i:Nat) (t:T Value) (k:Nat) (v:Value),i+l.length<BIG→l[k]? = some v→(Aov l i t).get (i+k)=some v
 |[],_,_,_,_,_,h=>by simp at h
 |v::l,i,t,0,w,hb,h=>by
  simp at h;subst h
  simp only[Aov]
  rw[Cpr l (i+1) _ (i+0) (by omega),Nat.add_zero,T.get_set _ _ _ _ (by simp at hb;unfold BIG at hb;omega)]
 |v::l,i,t,k+1,w,hb,h=>by
  simp at h
  simp only[Aov]
  have:=A7b l (i+1) (T.set v 60 t i) k w (by simp at hb;omega) h
  rw[show i+(k+1)=i+1+k by omega];exact this
def Bv2(t:TypeId)(l:List Value):CM Addr:=fun H=>
 match Nat.blt l.length BIG with
 |true=>match B6j (.cells l.length (Aov l 0 .e) .nilIface t true) H with
  |some (i,H')=>some (⟨i,0,none⟩,H')
  |none=>none
 |false=>none
theorem Cbd{t:TypeId}{l l':List Value}(h:VRs ρ l l'):Sim P base ρ AR (Bv2 t l) (newRow t ⟨l'⟩):=by
 intro H W hr a H' e
 unfold Bv2 at e
 split at e
 case h_2=>cases e
 rename_i hlb
 have hlb:l.length<BIG:=by simpa [Nat.blt_eq]using hlb
 split at e
 case h_2=>cases e
 rename_i i H1 e1
 cases e
 rw[Bg8]at e1
 split at e1
 case h_2=>cases e1
 rename_i hnb
 have hnb:H.next<BIG:=by simpa [Nat.blt_eq]using hnb
 cases e1
 have hlen:=h.length
 obtain⟨h1,h2⟩:=hr.push (o:=.cells ⟨l'⟩ t) (cb:=.cells l.length (Aov l 0 .e) .nilIface t true) (n:=l.length) hnb (fun ρ' hle=>by
  refine⟨⟨l'⟩,by simp,by simp[hlen],fun _=>⟨rfl,rfl⟩,by simp,fun k v hv=>?_⟩
  obtain⟨hk,hv⟩:=Bg7 hv
  have hl:l[k]? = some l[k]:=by simp[hk]
  have:=A7b l 0 .e k _ (by omega) hl
  rw[Nat.zero_add]at this
  rw[this]at hv
  simp at hv;subst hv
  obtain⟨v',e1,e2⟩:=h.get k _ hl
  exact⟨v',by simpa using e1,e2.mono hle⟩)
 refine⟨_,⟨W.heap.size,0,none⟩,_,h1,rfl,h2,⟨rfl,rfl,rfl,by simp,fun b hb=>?_⟩,?_⟩
 ·have:=hr.base b hb
  show (W.heap.push _)[b]? = _
  rw[Array.getElem?_push,if_neg (by omega)]
 ·exact⟨⟨W.heap.size,0,l.length⟩,by simp[Ren.put],by simp⟩
def Cbe(t:TypeId)(n:Nat)(x:Value):CM Addr:=fun H=>
 match B6j (.cells n .e x t true) H with
 |some (i,H')=>some (⟨i,0,none⟩,H')
 |none=>none
theorem Cua{t:TypeId}{n:Nat}{x:Value}(hx:Adq x=true):Sim P base ρ AR (Cbe t n x) (newRow t (Array.replicate n x)):=by
 intro H W hr a H' e
 unfold Cbe at e
 split at e
 case h_2=>cases e
 rename_i i H1 e1
 cases e
 rw[Bg8]at e1
 split at e1
 case h_2=>cases e1
 rename_i hnb
 have hnb:H.next<BIG:=by simpa [Nat.blt_eq]using hnb
 cases e1
 obtain⟨h1,h2⟩:=hr.push (o:=.cells (Array.replicate n x) t) (cb:=.cells n .e x t true) (n:=n) hnb (fun ρ' hle=>by
  refine⟨Array.replicate n x,by simp,by simp,fun _=>⟨rfl,rfl⟩,by simp,fun k v hv=>?_⟩
  obtain⟨hk,hv⟩:=Bg7 hv
  rw[T.get_e]at hv
  simp at hv;subst hv
  exact⟨_,by simp[hk],VR.of_still hx⟩)
 refine⟨_,⟨W.heap.size,0,none⟩,_,h1,rfl,h2,⟨rfl,rfl,rfl,by simp,fun b hb=>?_⟩,?_⟩
 ·have:=hr.base b hb
  show (W.heap.push _)[b]? = _
  rw[Array.getElem?_push,if_neg (by omega)]
 ·exact⟨⟨W.heap.size,0,n⟩,by simp[Ren.put],by simp⟩
end
end
end Go.CE
namespace Go.CE
noncomputable section
abbrev Env:=T Value
def run0{α:Type}(P:Program):Sem α→Option α
 | .pure a=>some a
 | .program k=>run0 P (k P)
 | .mark _ k=>run0 P k
 | _=>none
def A96(P:Program)(s:Sem Value):CM Value :=
 match run0 P s with
 |some x=>match Adq x with
  |true=>CM.ret x
  |false=>CM.fail
 |none=>CM.fail
structure PT where
 P:Program
 info:T TypeInfo
 fns:T Func
 okI:∀t i,info.get t=some i→P.info? t=some i
 okF:∀f g,fns.get f=some g→P.funcs[f]? = some g
 /-- types of which the zero is one value many times -/
 cons:T (Nat×Value)
 okC:∀t n v,cons.get t=some (n,v)→Adq v=true∧∃i z,P.info? t=some i∧i.zero=some z∧z.cells=Array.replicate n v
instance:Coe PT Program:=⟨PT.P⟩
section
variable (P:PT)
def Biu(E:Env):Operand→Option Value
 | .tmp t=>E.get t
 | .const v=>match Adq v with|true=>some v|false=>none
 | .global _=>none
 | .func f=>some (.func (.func f) #[] #[])
def Bjb(ev:Operand→Option Value):List Operand→Option (List Value)
 |[]=>some []
 |x::l=>match ev x,Bjb ev l with
  |some v,some vs=>some (v::vs)
  | _,_=>none
def B6k(ev:Operand→Option Value):List (Nat×Operand)→Option (List (Nat×Value))
 |[]=>some []
 |(i,x)::l=>match ev x,B6k ev l with
  |some v,some vs=>some ((i,v)::vs)
  | _,_=>none
def Bxi(ev:Operand→Option Value):Option Operand→Option (Option Value)
 |none=>some none
 |some x=>(ev x).map some
def under(t:TypeId):Option TypeDesc :=
 match P.info.get t with
 |some {desc:=.named _ u,..}=>(P.info.get u).map (·.desc)
 |some i=>some i.desc
 |none=>none
def Akk(t:TypeId):Option Nat:=(P.info.get t).map (·.size)
def Cub(t:TypeId):Option Bool:=match under P t with
 |some (.struct _)|some (.array _ _)=>some true
 |some _=>some false
 |none=>none
def A3g(t:TypeId):Option Value:=match P.info.get t with
 |some i=>match i.zero with
  |some v=>match Adq v with|true=>some v|false=>none
  |none=>none
 |none=>none
def Bxj:Value→Bool
 | .complex ..=>true
 | _=>false
def Aws(a:Addr):Nat→Nat→CM (List Value)
 | _,0=>CM.ret []
 |i,n+1=>do
  let v ←A7a (a.add i)
  let r ←Aws a (i+1) n
  CM.ret (v::r)
def Bb8(a:Addr):Nat→List Value→CM Unit
 | _,[]=>CM.ret ()
 |i,v::l=>do
  Cit (a.add i) v
  Bb8 a (i+1) l
def Bav(t:TypeId)(a:Addr):CM Value:=do
 match ←CM.opt (Cub P t) with
 |true=>do
  let n ←CM.opt (Akk P t)
  let l ←Aws a 0 n
  CM.ret (.agg ⟨l⟩)
 |false=>A7a a
def B6l(t:TypeId)(a:Addr)(v:Value):CM Unit:=do
 let n ←CM.opt (Akk P t)
 match Bxj v with
 |true=>CM.fail
 |false=>match Nat.beq v.cells.size n with
  |true=>Bb8 a 0 v.cells.toList
  |false=>CM.fail
def Csp(t:TypeId)(cs:List Value)(off:Nat):Option Value:=do
 match ←Cub P t with
 |true=>do
  let n ←Akk P t
  some (.agg ⟨(cs.take (off+n)).drop off⟩)
 |false=>cs[off]?
def A2e(r:Nat):CM (List MapEntry×Nat):=fun H=>
 match H.m.get r with
 |some (.map es c)=>some ((es,c),H)
 | _=>none
def A7c(r:Nat)(es:List MapEntry)(c:Nat):CM Unit:=fun H=>
 match H.m.get r with
 |some (.map _ _)=>some ((),{H with m:=T.set (.map es c) 60 H.m r})
 | _=>none
def Bxk:CM Nat:=B6j (.map [] 0)
def Bxl(hi:Nat):Value→Option Nat
 | .int _ i=>match decide (0≤i),decide (i≤hi) with
  |true,true=>some i.toNat
  | _,_=>none
 | _=>none
def Cbf(hi:Nat)(d:Nat):Option Value→Option Nat
 |none=>some d
 |some v=>Bxl hi v
def Bxm(lim len:Nat)(low high max:Option Value):Option (Nat×Nat×Option Nat) :=
 match max with
 |some v=>match Bxl lim v,high with
  |some m,some w=>match Bxl m w with
   |some h=>match Cbf h 0 low with
    |some l=>some (l,h,some m)
    |none=>none
   |none=>none
  | _,_=>none
 |none=>match Cbf lim len high with
  |some h=>match Cbf h 0 low with
   |some l=>some (l,h,none)
   |none=>none
  |none=>none
def Bxn(size:Nat)(a:Option Addr)(len cap:Nat)(low high max:Option Value):Option Value :=
 match Nat.blt cap UNK with
 |true=>match Bxm cap len low high max with
  |some (l,h,m)=>some (.slice (match Nat.beq (m.getD cap) l with|true=>a|false=>a.map (·.add (l*size))) (h-l) (m.getD cap-l))
  |none=>none
 |false=>match Nat.beq cap (UNK+size),Bxm len len low high max,a with
  |true,some (0,h,none),some a=>some (.slice (some a) h cap)
  |true,some (l+1,h,none),some a=>match Nat.blt (l+1) len with
   |true=>some (.slice (some (a.add ((l+1)*size))) (h-(l+1)) cap)
   |false=>none
  |true,some (l,h,some m),some a=>match Nat.blt m UNK with
   |true=>some (.slice (some (match Nat.beq m l with|true=>a|false=>a.add (l*size))) (h-l) (m-l))
   |false=>none
  | _,_,_=>none
def Ant(size n:Nat):Value→CM (List Value)
 | .slice (some a) _ _=>Aws a 0 (n*size)
 | .slice none _ _=>CM.ret []
 | .string s=>CM.ret (((s.extract 0 n).data.toList).map fun b=>.int .u8 b.toNat)
 | _=>CM.fail
def Cfp:Value→Option Nat
 | .slice _ n _=>some n
 | .string s=>some s.size
 | _=>none
def Biv(t:TypeId)(l:List Value):CM Addr:=fun H=>
 match Nat.blt l.length BIG with
 |true=>match B6j (.cells l.length (Aov l 0 .e) .nilIface t false) H with
  |some (i,H')=>some (⟨i,0,none⟩,H')
  |none=>none
 |false=>none
def Buc(r:Nat)(t:TypeId):CM Unit:=fun H=>
 match H.m.get r with
 |some (.cells _ _ _ u _)=>match Nat.beq u t with
  |true=>some ((),{H with m:=T.set .dead 60 H.m r})
  |false=>none
 | _=>none
def Bjc(elem:TypeId)(size need:Nat):Bool :=
 match P.info.get elem,A3g P elem with
 |some i,some z=>Nat.beq z.cells.size size&&Nat.ble ((2*need+1000)*i.bytes) 140737488355328&&Nat.blt 0 i.bytes&&Nat.ble need 1000000000
 | _,_=>false
def Clx(sType:TypeId)(s x:Value):CM Value:=do
 let u ←CM.opt (under P sType)
 match u,s with
 | .slice elem,.slice base sLen sCap=>do
  let size ←CM.opt (Akk P elem)
  let n ←CM.opt (Cfp x)
  match Nat.blt sCap UNK with
  |true=>match Nat.ble (sLen+n) sCap with
   |true=>match base with
    |some a=>do
     let new ←Ant size n x
     Bb8 (a.add (sLen*size)) 0 new
     CM.ret (.slice (some a) (sLen+n) sCap)
    |none=>do
     let _ ←Ant size n x
     CM.ret (.slice none (sLen+n) sCap)
   |false=>match Bjc P elem size (sLen+n) with
    |true=>do
     let old ←Ant size sLen s
     let new ←Ant size n x
     match Nat.beq (old.length+new.length) ((sLen+n)*size) with
     |true=>do
      let a ←Biv elem (old++new)
      CM.ret (.slice (some a) (sLen+n) (UNK+size))
     |false=>CM.fail
    |false=>CM.fail
  |false=>match base,Nat.beq sCap (UNK+size),Bjc P elem size (sLen+n) with
   |some a,true,true=>do
    let old ←Ant size sLen s
    let new ←Ant size n x
    match (Nat.beq (old.length+new.length) ((sLen+n)*size)&&Nat.beq a.off 0),new.all Azg,a.spot with
    |true,true,none=>do
     Buc a.block elem
     let b ←Biv elem (old++new)
     CM.ret (.slice (some b) (sLen+n) (UNK+size))
    | _,_,_=>CM.fail
   | _,_,_=>CM.fail
 | _,_=>CM.fail
def C1d(dType:TypeId)(dst src:Value):CM Value:=do
 match ←CM.opt (under P dType),dst with
 | .slice elem,.slice base dLen _=>do
  let size ←CM.opt (Akk P elem)
  let m ←CM.opt (Cfp src)
  let n:=Nat.min m dLen
  let cells ←Ant size n src
  match base with
  |some a=>do
   Bb8 a 0 cells
   CM.ret (goInt n)
  |none=>CM.ret (goInt n)
 | _,_=>CM.fail
def B6m(t:TypeId)(x:Value):CM Value:=do
 match ←CM.opt (under P t),x with
 | .string,.string s=>CM.ret (goInt s.size)
 | .array n _,_=>CM.ret (goInt n)
 | .slice _,.slice _ n _=>CM.ret (goInt n)
 | .map _ _,.map none=>CM.ret (goInt 0)
 | .map _ _,.map (some r)=>do
  let (es,_) ←A2e r
  CM.ret (goInt es.length)
 | _,_=>CM.fail
def Ciu(sz:Option Nat)(a b:Addr):CM Bool:=fun H=>
 match sz,Nat.beq a.block b.block with
 |some (_+1),true=>some (a==b,H)
 |some (_+1),false=>match H.m.get a.block,H.m.get b.block with
  |some (.cells ..),some (.cells ..)=>some (false,H)
  | _,_=>none
 | _,_=>none
def Bxo(t:TypeId)(x y:Value):CM Bool :=
 match Adq x,Adq y with
 |true,true=>CM.opt (run0 P (Op.equal t x y))
 | _,_=>do
  match ←CM.opt (under P t),x,y with
  | .pointer _,.pointer none,.pointer (some _)=>CM.ret false
  | .pointer _,.pointer (some _),.pointer none=>CM.ret false
  | .pointer elem,.pointer (some a),.pointer (some b)=>Ciu (Akk P elem) a b
  | .slice _,.slice none _ _,.slice (some _) _ _=>CM.ret false
  | .slice _,.slice (some _) _ _,.slice none _ _=>CM.ret false
  | .map _ _,.map none,.map (some _)=>CM.ret false
  | .map _ _,.map (some _),.map none=>CM.ret false
  | .func _ _ _,.nilFunc,.func _ _ _=>CM.ret false
  | .func _ _ _,.func _ _ _,.nilFunc=>CM.ret false
  | .interface _,.nilIface,.iface _ _=>CM.ret false
  | .interface _,.iface _ _,.nilIface=>CM.ret false
  | _,_,_=>CM.fail
def B0o(kind:TypeDesc)(k:Value)(es:List MapEntry):Option (Option (Nat×Value)):=Instr.findNow kind k es 0
def Bxp(xType:TypeId)(x index:Value)(commaOk:Bool):CM Value:=do
 match ←CM.opt (under P xType),flat index with
 | .map key elem,true=>do
  let (es,_) ←(match x with
   | .map none=>CM.ret ([],0)
   | .map (some r)=>A2e r
   | _=>CM.fail:CM (List MapEntry×Nat))
  let kind ←CM.opt (under P key)
  CM.opt (run0 P (Instr.checkKey es.isEmpty 10000 key index))
  match ←CM.opt (B0o kind index es) with
  |some (_,v)=>CM.ret (match commaOk with|true=>.tuple #[v,.bool true]|false=>v)
  |none=>do
   let z ←CM.opt (A3g P elem)
   CM.ret (match commaOk with|true=>.tuple #[z,.bool false]|false=>z)
 | _,_=>CM.fail
def B0p(t:TypeId)(m key value:Value):CM Unit:=do
 match ←CM.opt (under P t),m,flat key with
 | .map keyType _,.map (some r),true=>do
  let (es,clock) ←A2e r
  CM.opt (run0 P (Instr.checkKey false 10000 keyType key))
  let kind ←CM.opt (under P keyType)
  match ←CM.opt (B0o kind key es) with
  |some (i,_)=>A7c r (es.modify i fun e=>{e with key,val:=value}) clock
  |none=>A7c r (es++[{key,val:=value,born:=clock}]) (clock+1)
 | _,_,_=>CM.fail
def B6n(t:TypeId)(m key:Value):CM Value:=do
 match ←CM.opt (under P t),m,flat key with
 | .map keyType elem,.map (some r),true=>do
  let (es,clock) ←A2e r
  CM.opt (run0 P (Instr.checkKey false 10000 keyType key))
  let kind ←CM.opt (under P keyType)
  match ←CM.opt (B0o kind key es) with
  |some (i,v)=>do
   A7c r (es.modify i fun e=>{e with key}) clock
   CM.ret (.tuple #[v,goInt (((es[i]?).map (·.born)).getD 0)])
  |none=>do
   let z ←CM.opt (A3g P elem)
   A7c r (es++[{key,val:=z,born:=clock}]) (clock+1)
   CM.ret (.tuple #[z,goInt clock])
 | _,_,_=>CM.fail
def Bv3(m stamp value:Value):CM Unit:=do
 match m,stamp with
 | .map (some r),.int _ born=>do
  let (es,clock) ←A2e r
  match es.findIdx? (fun e=>(e.born:Int)==born) with
  |some i=>A7c r (es.modify i fun e=>{e with val:=value}) clock
  |none=>CM.fail
 | _,_=>CM.fail
def Cly(t:TypeId)(m key:Value):CM Value:=do
 match ←CM.opt (under P t),m,flat key with
 | .map keyType _,.map (some r),true=>do
  let (es,clock) ←A2e r
  CM.opt (run0 P (Instr.checkKey es.isEmpty 10000 keyType key))
  let kind ←CM.opt (under P keyType)
  match ←CM.opt (B0o kind key es) with
  |some (i,_)=>do
   A7c r (es.eraseIdx i) clock
   CM.ret (.tuple #[])
  |none=>do
   A7c r es clock
   CM.ret (.tuple #[])
 | _,_,_=>CM.fail
def Csq:Value→Value→Value→CM Value
 | .bool true,a,_=>CM.ret a
 | .bool false,_,b=>CM.ret b
 | _,_,_=>CM.fail
def Civ(t:TypeId):CM Value:=match P.cons.get t with
 |some (n,x)=>do
  let a ←Cbe t n x
  CM.ret (.pointer (some a))
 |none=>do
  let z ←CM.opt (A3g P t)
  let a ←Bv2 t z.cells.toList
  CM.ret (.pointer (some a))
def Dch(t:TypeId)(x:Value):CM Value:=match x with
 | .complex _ n _=>do
  let a ←Cbe t n (.int .i64 0)
  CM.ret (.pointer (some a))
 | _=>do
  let a ←Bv2 t x.cells.toList
  CM.ret (.pointer (some a))
def Bxq(ps:List (Nat×Value)):Bool:=ps.all fun x => !Bxj x.2
def Clz(t:TypeId)(n:Nat):CM Value:=do
 let u ←CM.opt (under P t)
 match u with
 | .array _ elem=>do
  let _ ←CM.opt (Akk P elem)
  CM.ret (.complex .f64 n 0)
 | _=>CM.fail
def Bpi(t:TypeId)(ps:List (Nat×Value)):CM Value:=do
 let z ←CM.opt (A3g P t)
 let u ←CM.opt (under P t)
 match u with
 | .struct fields=>do
  let places ←CM.opt (fields.toList.mapM fun f=>(Akk P f.type).map (f.offset,·))
  let cells ←CM.opt (Instr.fill (places[·]?) z.cells ps)
  CM.ret (.agg cells)
 | .array _ elem=>do
  let size ←CM.opt (Akk P elem)
  let cells ←CM.opt (Instr.fill (fun i=>some (i*size,size)) z.cells ps)
  CM.ret (.agg cells)
 | _=>CM.fail
def B6o(t:TypeId)(ps:List (Nat×Value)):CM Value:=match ps with
 |[]=>match P.cons.get t with
  |some (n,.int .i64 0)=>Clz P t n
  | _=>Bpi P t []
 |p::l=>match Bxq (p::l) with
  |true=>Bpi P t (p::l)
  |false=>CM.fail
def C4k(size len:Nat)(elem:TypeId):Option (Array Value) :=
 match Nat.beq (len*size) 0 with
 |true=>some #[]
 |false=>(A3g P elem).map (·.cells)
def Bv4(t:TypeId)(len:Nat)(ps:List (Nat×Value)):CM Value:=match Bxq ps with
 |false=>CM.fail
 |true=>do
 let u ←CM.opt (under P t)
 match u with
 | .slice elem=>do
  let size ←CM.opt (Akk P elem)
  match Nat.blt (2^24) (len*size) with
  |true=>CM.fail
  |false=>do
   let zero ←CM.opt (C4k P size len elem)
   let cells ←CM.opt (Instr.fill (fun i=>some (i*size,size)) ((Array.range (len*size)).map (zero[· % zero.size]!)) ps)
   match Nat.blt len UNK with
   |true=>do
    let a ←Bv2 elem cells.toList
    CM.ret (.slice (some a) len len)
   |false=>CM.fail
 | _=>CM.fail
def C1e:Value→CM Value
 | .pointer (some a)=>CM.ret (.pointer (some a))
 | .func (.func f) a b=>CM.ret (.func (.func f) a b)
 | .iface t w=>CM.ret (.iface t w)
 | _=>CM.fail
def Cbg:Value→Value→Bool
 | .agg _,_ | _,.agg _=>false
 | .complex ..,_ | _,.complex ..=>false
 | _,_=>true
def Cuc(op:BinOp)(t:TypeId)(x y:Operand)(a b:Value):CM Value :=
 match Adq a&&Adq b,op with
 |true,_=>A96 P (do eqGuard op t x y a b;binOp op t a b)
 |false,.eql=>match Cbg a b with
  |false=>CM.fail
  |true=>do let r ←Bxo P t a b;CM.ret (.bool r)
 |false,.neq=>match Cbg a b with
  |false=>CM.fail
  |true=>do let r ←Bxo P t a b;CM.ret (.bool (!r))
 |false,_=>CM.fail
def cun(op:UnOp)(a:Value):CM Value :=
 match Adq a with
 |true=>A96 P (Op.unary op a)
 |false=>CM.fail
def bytesOf:List Value→Option (List UInt8)
 |[]=>some []
 | .int .u8 n::l=>(bytesOf l).map (UInt8.ofNat n.toNat::·)
 | _=>none
def Ciw(s d:TypeId)(a:Value):CM Value :=
 match Adq a with
 |true=>A96 P (convert s d a)
 |false=>do
  let us ←CM.opt (under P s)
  let ud ←CM.opt (under P d)
  match us,ud,a with
  | .slice e,.string,.slice (some p) n _=>do
   let ue ←CM.opt (under P e)
   match ue with
   | .int .u8=>do
    let l ←Aws p 0 n
    let bs ←CM.opt (bytesOf l)
    CM.ret (.string ⟨⟨bs⟩⟩)
   | _=>CM.fail
  | _,_,_=>CM.fail
def B6p(t:TypeId)(a:Value):CM Value:=do
 let u ←CM.opt (under P t)
 match u with
 | .interface _=>CM.fail
 | _=>CM.ret (.iface t a)
def Cfq(t:TypeId):Option Value→CM Value
 |none=>do let i ←Bxk;CM.ret (.map (some i))
 |some h=>do
  let u ←CM.opt (under P t)
  match u,h with
  | .map _ _,.int _ _=>do let i ←Bxk;CM.ret (.map (some i))
  | _,_=>CM.fail
def Cbh(t:TypeId)(l c:Value):Option (Nat×Nat×TypeId×List Value) :=
 match under P t with
 |some (.slice elem)=>match l with
  | .int _ l=>match c with
   | .int _ c=>match P.info.get elem with
    |some i=>match decide (0≤l),decide (l≤c),decide (c<1000000),decide ((i.bytes*c:Int)≤2^40) with
     |true,true,true,true=>match A3g P elem with
      |some z=>match Nat.beq (c.toNat*i.size) 0 with
       |true=>some (l.toNat,c.toNat,elem,[])
       |false=>some (l.toNat,c.toNat,elem,((Array.range (c.toNat*i.size)).map (z.cells[· % z.cells.size]!)).toList)
      |none=>none
     | _,_,_,_=>none
    |none=>none
   | _=>none
  | _=>none
 | _=>none
def Bn8(t:TypeId)(l c:Value):CM Value :=
 match Cbh P t l c with
 |some (l,c,elem,cells)=>do
  let a ←Bv2 elem cells
  CM.ret (.slice (some a) l c)
 |none=>CM.fail
def Bp0(t:TypeId)(a:Value)(lo hi mx:Option Value):CM Value:=do
 let u ←CM.opt (under P t)
 match u,a with
 | .string,.string s=>match lo.all Adq&&hi.all Adq&&mx.all Adq with
  |true=>A96 P (Instr.slice t (.string s) lo hi mx)
  |false=>CM.fail
 | .slice elem,.slice a len cap=>do
  let size ←CM.opt (Akk P elem)
  CM.opt (Bxn size a len cap lo hi mx)
 | .array n elem,.pointer (some a)=>do
  let size ←CM.opt (Akk P elem)
  match Nat.blt n UNK with
  |true=>CM.opt (Bxn size (some a) n n lo hi mx)
  |false=>CM.fail
 | _,_=>CM.fail
def Bcx(s:TypeId)(x:Value)(f:Nat):CM Value:=do
 let u ←CM.opt (under P s)
 match u,x with
 | .struct fields,.pointer (some a)=>do
  let fl ←CM.opt (fields[f]?)
  let n ←CM.opt (Akk P fl.type)
  match n with
  |0=>CM.fail
  | _+1=>CM.ret (.pointer (some (a.add fl.offset)))
 | _,_=>CM.fail
def B6q(t:TypeId)(x:Value)(f:Nat):CM Value:=do
 let u ←CM.opt (under P t)
 match u,x with
 | .struct fields,.agg cs=>do
  let fl ←CM.opt (fields[f]?)
  CM.opt (Csp P fl.type cs.toList fl.offset)
 | _,_=>CM.fail
def Bcy(t:TypeId)(x ix:Value):CM Value:=do
 let u ←CM.opt (under P t)
 match ix with
 | .int _ i=>match u,x with
  | .array len elem,.pointer (some a)=>do
   let size ←CM.opt (Akk P elem)
   match decide (0≤i),decide (i<len) with
   |true,true=>CM.ret (.pointer (some (a.add (i.toNat*size))))
   | _,_=>CM.fail
  | .slice elem,.slice (some a) len _=>do
   let size ←CM.opt (Akk P elem)
   match decide (0≤i),decide (i<len) with
   |true,true=>CM.ret (.pointer (some (a.add (i.toNat*size))))
   | _,_=>CM.fail
  | _,_=>CM.fail
 | _=>CM.fail
def B6r(t:TypeId)(x ix:Value):CM Value:=do
 let u ←CM.opt (under P t)
 match ix with
 | .int k i=>match u,x with
  | .string,.string s=>A96 P (Instr.index t (.string s) (.int k i))
  | .array len elem,.agg cs=>do
   let size ←CM.opt (Akk P elem)
   match decide (0≤i),decide (i<len) with
   |true,true=>CM.opt (Csp P elem cs.toList (i.toNat*size))
   | _,_=>CM.fail
  | _,_=>CM.fail
 | _=>CM.fail
def B0q(t:Value)(i:Nat):CM Value :=
 match t with
 | .tuple vs=>CM.opt (vs[i]?)
 | _=>CM.fail
def Bud(t:Option TypeId):Option Bool :=
 match t with
 |some t=>match under P t with
  |some (.slice _)=>some false
  |some .string=>some false
  | _=>none
 |none=>some false
def Bp1(b:Builtin)(argTypes:Array TypeId)(type:TypeId)(vs:List Value):CM Value :=
 match b,vs with
 | .append,[s,x]=>do
  let t ←CM.opt (argTypes[0]?)
  let xInt ←CM.opt (Bud P (argTypes[1]?))
  match xInt with
  |false=>Clx P t s x
  |true=>CM.fail
 | .len,[x]=>do B6m P (←CM.opt (argTypes[0]?)) x
 | .copy,[d,s]=>do C1d P (←CM.opt (argTypes[0]?)) d s
 | .delete,[m,k]=>do Cly P (←CM.opt (argTypes[0]?)) m k
 | .max,l=>match Amh l with
  |true=>A96 P (Builtin.max_ argTypes type l.toArray)
  |false=>CM.fail
 | .min,l=>match Amh l with
  |true=>A96 P (Builtin.min_ argTypes type l.toArray)
  |false=>CM.fail
 | _,_=>CM.fail
def Bxr(t:TypeId):Value→CM Value
 | .pointer (some a)=>Bav P t a
 | _=>CM.fail
def Cz6(t:TypeId):Value→Value→CM Unit
 | .pointer (some a),x=>B6l P t a x
 | _,_=>CM.fail
def cop(ev:Operand→Option Value)(o:Oper):CM (Option Value) :=
 let e (x:Operand):CM Value:=CM.opt (ev x)
 let v (c:CM Value):CM (Option Value):=do let x ←c;CM.ret (some x)
 let u (c:CM Unit):CM (Option Value):=do c;CM.ret none
 match o.op with
 | .move x | .assign x=>v (e x)
 | .pick c a b=>v do Csq (←e c) (←e a) (←e b)
 | .alloc t=>v (Civ P t)
 | .box t x=>v do Dch t (←e x)
 | .build t parts=>v do B6o P t (←CM.opt (B6k ev parts.toList))
 | .buildSlice t len parts=>v do Bv4 P t len (←CM.opt (B6k ev parts.toList))
 | .load t a=>v do Bxr P t (←e a)
 | .store t a x=>u do Cz6 P t (←e a) (←e x)
 | .nilCheck x=>v do C1e (←e x)
 | .binOp op t x y _=>v do Cuc P op t x y (←e x) (←e y)
 | .unOp op _ x=>v do cun P op (←e x)
 | .convert s d x=>v do Ciw P s d (←e x)
 | .makeInterface t x=>v do B6p P t (←e x)
 | .makeFunc fn first captured=>v do
  let f ←CM.opt (Bjb ev first.toList)
  let c ←CM.opt (Bjb ev captured.toList)
  CM.ret (.func fn ⟨f⟩ ⟨c⟩)
 | .makeMap t r=>v do Cfq P t (←CM.opt (Bxi ev r))
 | .makeSlice t l c=>v do Bn8 P t (←e l) (←e c)
 | .slice t x lo hi mx=>v do Bp0 P t (←e x) (←CM.opt (Bxi ev lo)) (←CM.opt (Bxi ev hi)) (←CM.opt (Bxi ev mx))
 | .fieldAddr s x f=>v do Bcx P s (←e x) f
 | .field t x f=>v do B6q P t (←e x) f
 | .indexAddr t x ix=>v do Bcy P t (←e x) (←e ix)
 | .index t x ix=>v do B6r P t (←e x) (←e ix)
 | .lookup t x ix ok=>v do Bxp P t (←e x) (←e ix) ok
 | .mapUpdate t m k x | .insert t m k x=>u do B0p P t (←e m) (←e k) (←e x)
 | .mapEntry t m k=>v do B6n P t (←e m) (←e k)
 | .entryStore _ m s x=>u do Bv3 (←e m) (←e s) (←e x)
 | .extract t i=>v do B0q (←e t) i
 | .call {callee:=.builtin b,args,argTypes}=>v do Bp1 P b argTypes o.type (←CM.opt (Bjb ev args.toList))
 | _=>CM.fail
def Cz7(v:Value)(name:String)(vs:List Value):Option (FuncId×List Value):=match v with
 | .iface t w=>match Adq w with
  |true=>match run0 P (method (P.P.types.size+Made.depth) t w name) with
   |some (f,r)=>match Adq r with
    |true=>some (f,r::vs)
    |false=>none
   |none=>none
  |false=>none
 | _=>none
def A2f(ev:Operand→Option Value)(o:Oper):Option (FuncId×List Value) :=
 match o.op with
 | .call {callee:=.invoke recv name,args,..}=>match ev recv,Bjb ev args.toList with
  |some v,some vs=>Cz7 P v name vs
  | _,_=>none
 | .call {callee:=.value f,args,..}=>match ev f,Bjb ev args.toList with
  |some (.func (.func f) first captured),some vs=>some (f,first.toList++vs++captured.toList)
  | _,_=>none
 | _=>none
inductive CEx where
 |normal|exit (id:Nat)|ret
 deriving Inhabited
def Cud(ops:Array Oper)(E:Env)(j:Nat):Option (Option Bool) :=
 match (ops[j]?).bind (·.dst) with
 |some d=>match E.get d with
  |some (.bool b)=>some (some b)
  |some (.tuple _)=>some none
  | _=>none
 |none=>none
def Bpj(ops:Array Oper)(o:Oper)(E:Env):Option Bool :=
 match o.guard with
 |none=>some true
 |some (j,want)=>match Cud ops E j with
  |some (some b)=>some (b==want)
  |some none=>some false
  |none=>none
end
end
end Go.CE
namespace Go.CE
noncomputable section
theorem AR.add{ρ:Ren}{a a':Addr}(h:AR ρ a a')(n:Nat):AR ρ (a.add n) (a'.add n):=by
 obtain⟨p,h1,rfl⟩:=h
 unfold Addr.add
 by_cases e:n=0
 ·simp only[e,if_true];exact⟨p,h1,rfl⟩
 ·simp only[e,if_false];exact⟨p,h1,by simp;omega⟩
theorem C1f{v:Value}(h:Adq v=true):Bxj v=false:=by
 cases v<;>first|rfl|(simp[Adq]at h)
theorem VR.cells{ρ:Ren}{v v':Value}(h:VR ρ v v')(hm:Bxj v=false):VRs ρ v.cells.toList v'.cells.toList:=by
 cases h with
 |agg h=>exact h
 |bool b=>exact .cons (.bool b) .nil
 |int k n=>exact .cons (.int k n) .nil
 |float k n=>exact .cons (.float k n) .nil
 |string s=>exact .cons (.string s) .nil
 |pnil=>exact .cons .pnil .nil
 |ptr a=>exact .cons (.ptr a) .nil
 |snil l c=>exact .cons (.snil l c) .nil
 |sl a b=>exact .cons (.sl a b) .nil
 |slu a b c d=>exact .cons (.slu a b c d) .nil
 |mnil=>exact .cons .mnil .nil
 |map a=>exact .cons (.map a) .nil
 |func fn a b=>exact .cons (.func fn a b) .nil
 |nilFunc=>exact .cons .nilFunc .nil
 |iface t a=>exact .cons (.iface t a) .nil
 |nilIface=>exact .cons .nilIface .nil
 |tuple a=>exact .cons (.tuple a) .nil
 |many n=>cases hm
theorem VRs.toList_of{ρ:Ren}{c c':Array Value}(h:VRs ρ c.toList c'.toList):c.size=c'.size:=by
 have:=h.length;simpa using this
section
variable {P:PT} {base:Nat→Prop} {α β γ δ:Type} {ρ:Ren}
theorem A2g{α:Type}:∀{s:Sem α} {a:α},run0 P s=some a→∀W,s.run P W = .ok a W
 | .pure a,b,h,W=>by cases h;rfl
 | .program k,b,h,W=>by
  simp only[run0]at h
  simpa only [Sem.run]using A2g h W
 | .mark _ k,b,h,W=>by
  simp only[run0]at h
  simpa only [Sem.run]using A2g h W
 | .load ..,_,h,_ | .store ..,_,h,_ | .new ..,_,h,_ | .shape ..,_,h,_ | .freeze ..,_,h,_ | .frozen ..,_,h,_ | .getObj ..,_,h,_ | .setObj ..,_,h,_ | .choose ..,_,h,_ | .sys ..,_,h,_ | .halt _,_,h,_=>by cases h
theorem Sim.run0{Q:Ren→α→β→Prop}{s:Sem γ}{k:γ→CM α}{g:γ→Sem β}(h:∀x,CE.run0 P s=some x→Sim P base ρ Q (k x) (g x)) :
  Sim P base ρ Q (CM.opt (CE.run0 P s) >>= k) (s >>= g):=by
 cases e:CE.run0 P s with
 |none=>intro H W hr a H' e';cases e'
 |some x=>exact Sim.left (fun W=>A2g e W) (h x e)
theorem Sim.run0'{Q:Ren→γ→γ→Prop}{s:Sem γ}(h:∀x,CE.run0 P s=some x→Q ρ x x):Sim P base ρ Q (CM.opt (CE.run0 P s)) s:=by
 cases e:CE.run0 P s with
 |none=>intro H W hr a H' e';cases e'
 |some x=>
  intro H W hr a H' e'
  cases e'
  exact⟨ρ,x,W,.refl _,A2g e W,hr,.refl _ _,h x e⟩
theorem C7d{t:TypeId}{d:TypeDesc}(h:under P t=some d):P.P.underlying t=some d:=by
 unfold under at h
 unfold Program.underlying
 cases hi:P.info.get t with
 |none=>rw[hi]at h;cases h
 |some i=>
  rw[hi]at h
  rw[P.okI _ _ hi]
  obtain⟨desc,a1,a2,a3,a4,a5,a6,a7,a8,a9⟩:=i
  cases desc with
  |named n u=>
   simp only at h ⊢
   cases hu:P.info.get u with
   |none=>rw[hu]at h;cases h
   |some i2=>rw[hu]at h;rw[P.okI _ _ hu];exact h
  | _=>exact h
theorem Aaq{t:TypeId}{d:TypeDesc}(h:under P t=some d)(W:World):(underlying t).run P W = .ok d W:=by
 simp[underlying,program,C7d h,Sem.run]
theorem Azh{t:TypeId}{i:TypeInfo}(h:P.info.get t=some i)(W:World):(typeInfo t).run P W = .ok i W:=by
 simp[typeInfo,program,P.okI _ _ h,Sem.run]
theorem Aey{t:TypeId}{n:Nat}(h:Akk P t=some n)(W:World):(sizeOf t).run P W = .ok n W:=by
 unfold Akk at h
 cases e:P.info.get t with
 |none=>rw[e]at h;cases h
 |some i=>rw[e]at h;cases h;simp[sizeOf,Azh e]
theorem Bp2{t:TypeId}{b:Bool}(h:Cub P t=some b)(W:World):(isAgg t).run P W = .ok b W:=by
 unfold Cub at h
 unfold isAgg
 cases e:under P t with
 |none=>rw[e]at h;cases h
 |some d=>
  rw[e]at h
  rw[Sem.run_bind,Aaq e,Result.andThen_ok]
  cases d<;>cases h<;>rfl
theorem At1{t:TypeId}{v:Value}(h:A3g P t=some v)(W:World):(zeroValue t).run P W = .ok v W:=by
 unfold A3g at h
 split at h
 case h_2=>cases h
 rename_i i hi
 split at h
 case h_2=>cases h
 rename_i w hw
 split at h
 case h_2=>cases h
 cases h
 simp[zeroValue,Azh hi,hw]
theorem At2{t:TypeId}{v:Value}(h:A3g P t=some v):Adq v=true:=by
 unfold A3g at h
 split at h
 case h_2=>cases h
 split at h
 case h_2=>cases h
 split at h
 case h_2=>cases h
 rename_i hs
 cases h;exact hs
theorem Cps{a a':Addr}(h:AR ρ a a'):∀(n i:Nat) (acc:Array Value) (ρ':Ren),ρ.le ρ'→
  Sim P base ρ' (fun ρ'' l c=>∃l',c.toList=acc.toList++l'∧VRs ρ'' l l') (Aws a i n) (loadCellsFrom a' i n acc)
 |0,i,acc,ρ',hle=>Sim.pure ⟨[],by simp,.nil⟩
 |n+1,i,acc,ρ',hle=>by
  simp only[Aws,loadCellsFrom]
  refine Sim.bind (Ct9 ((h.mono hle).add i) _) fun ρ1 v v' h1 hv=>?_
  refine Sim.mono ?_ (Q:=fun ρ'' l c=>∃l0 l',l=v::l0∧c.toList=(acc.push v').toList++l'∧VRs ρ'' l0 l') (fun ρ2 l c h2 ⟨l0,l',e1,e2,e3⟩=>?_)
  ·have:=Cps h n (i+1) (acc.push v') ρ1 (hle.trans h1)
   intro H W hr x H' e
   have e:CM.bind (Aws a (i+1) n) (fun r=>CM.ret (v::r)) H=some (x,H'):=e
   rw[CM.bind_at]at e
   split at e
   case h_2=>cases e
   rename_i r H1 e1
   cases e
   obtain⟨ρ2,b,W1,k1,k2,k3,k4,l',k5,k6⟩:=this H W hr r H' e1
   exact⟨ρ2,b,W1,k1,k2,k3,k4,r,l',rfl,k5,k6⟩
  ·subst e1
   exact⟨v'::l',by rw[e2];simp,.cons (hv.mono h2) e3⟩
theorem B0r{a a':Addr}(h:AR ρ a a')(n:Nat):Sim P base ρ (fun ρ' l c=>VRs ρ' l c.toList) (Aws a 0 n) (loadCells a' n) :=
 (Cps h n 0 #[] ρ (.refl _)).mono fun ρ' l c _ ⟨l',e,k⟩=>by simp at e;rw[e];exact k
theorem Bn9{a a':Addr}(h:AR ρ a a'):∀(l l':List Value) (i:Nat) (ρ':Ren),ρ.le ρ'→VRs ρ' l l'→Sim P base ρ' (fun _ _ _=>True) (Bb8 a i l) (storeCells a' l' i)
 |[],[],i,ρ',_,_=>Sim.pure trivial
 |v::l,v'::l',i,ρ',hle,.cons hv hl=>by
  simp only[Bb8,storeCells]
  exact Sim.bind (Cpq ((h.mono hle).add i) hv _) fun ρ1 _ _ h1 _=>Bn9 h l l' (i+1) ρ1 (hle.trans h1) (hl.mono h1)
theorem Sim.mapRet{Q:Ren→α→β→Prop}{R:Ren→γ→δ→Prop}{c:CM α}{s:Sem β}{f:α→γ}{g:β→δ}(h:Sim P base ρ Q c s)(k:∀ρ' a b,ρ.le ρ'→Q ρ' a b→R ρ' (f a) (g b)) :
  Sim P base ρ R (c >>= fun a=>CM.ret (f a)) (s >>= fun b=>Pure.pure (g b)) :=
 Sim.bind h fun ρ' a b hle hq=>Sim.pure (k ρ' a b hle hq)
theorem Sim.optRun{Q:Ren→α→β→Prop}{o:Option γ}{s:Sem γ}{k:γ→CM α}{g:γ→Sem β}(hs:∀x,o=some x→∀W,s.run P W = .ok x W)(h:∀x,o=some x→Sim P base ρ Q (k x) (g x)) :
  Sim P base ρ Q (CM.opt o >>= k) (s >>= g):=by
 cases o with
 |none=>intro H W hr a H' e;cases e
 |some x=>exact Sim.left (hs x rfl) (h x rfl)
theorem Cx1{t:TypeId}{a a':Addr}(h:AR ρ a a'):Sim P base ρ VR (Bav P t a) (loadVar t a'):=by
 unfold Bav loadVar
 refine Sim.optRun (fun x e W=>Bp2 e W) fun x e=>?_
 cases x with
 |false=>simp only[Bool.false_eq_true,if_false];exact Ct9 h _
 |true=>
  simp only[if_true]
  refine Sim.optRun (fun n e W=>Aey e W) fun n e=>?_
  exact Sim.mapRet (B0r h n) fun ρ' l c _ k=>.agg k
theorem Cue{t:TypeId}{a a':Addr}(h:AR ρ a a'){v v':Value}(hv:VR ρ v v'):Sim P base ρ (fun _ _ _=>True) (B6l P t a v) (storeVar t a' v'):=by
 unfold B6l storeVar
 refine Sim.optRun (fun n e W=>Aey e W) fun n e=>?_
 cases hm:Bxj v with
 |true=>exact Sim.fail
 |false=>
 have hs:v.cells.size=v'.cells.size:=(hv.cells hm).toList_of
 cases hb:Nat.beq v.cells.size n with
 |false=>exact Sim.fail
 |true=>
  have:v'.cells.size=n:=by rw[←hs];exact Nat.eq_of_beq_eq_true hb
  simp only[this,ne_eq,not_true_eq_false,if_false]
  exact Bn9 h _ _ 0 ρ (.refl _) (hv.cells hm)
theorem Cuf{t:TypeId}{cs cs':Array Value}(h:VRs ρ cs.toList cs'.toList){off:Nat}{v:Value}(e:Csp P t cs.toList off=some v) :
  ∃v',VR ρ v v'∧∀W,(part t cs' off).run P W = .ok v' W:=by
 unfold Csp at e
 cases ha:Cub P t with
 |none=>rw[ha]at e;cases e
 |some b=>
  rw[ha]at e
  cases b with
  |true=>
   cases hn:Akk P t with
   |none=>simp[hn]at e
   |some n=>
    simp[hn]at e
    subst e
    refine⟨.agg (cs'.extract off (off+n)),.agg ?_,fun W=>?_⟩
    ·simp only[Array.toList_extract,List.extract_eq_take_drop]
     have:=(h.take (off+n)).drop off
     simpa [List.drop_take]using this
    ·simp[part,Bp2 ha,Aey hn]
  |false=>
   simp at e
   obtain⟨v',h1,h2⟩:=h.get off v (by simpa using e)
   refine⟨v',h2,fun W=>?_⟩
   have:cs'[off]? = some v':=by simpa using h1
   simp[part,Bp2 ha,this]
end
end
end Go.CE
namespace Go.CE
noncomputable section
section
variable {P:PT} {base:Nat→Prop} {α β γ δ:Type} {ρ:Ren}
theorem Sim.ret{Q:Ren→α→β→Prop}{a:α}{b:β}(h:Q ρ a b):Sim P base ρ Q (CM.ret a) (Pure.pure b):=Sim.pure h
theorem Sim.optRet{Q:Ren→α→β→Prop}{o:Option α}{s:Sem β}(h:∀a,o=some a→∃b,Q ρ a b∧∀W,s.run P W = .ok b W):Sim P base ρ Q (CM.opt o) s:=by
 intro H W hr a H' e
 cases o with
 |none=>cases e
 |some x=>
  cases e
  obtain⟨b,h1,h2⟩:=h _ rfl
  exact⟨ρ,b,W,.refl _,h2 W,hr,.refl _ _,h1⟩
theorem C7e{c a b c' a' b':Value}(hc:VR ρ c c')(ha:VR ρ a a')(hb:VR ρ b b'):Sim P base ρ VR (Csq c a b) (do pure (if ←asBool c' then a' else b')):=by
 cases hc with
 |bool t=>cases t<;>first|exact Sim.ret ha|exact Sim.ret hb
 | _=>exact Sim.fail
theorem C4l{t:TypeId}:Sim P base ρ VR (Civ P t) (Instr.alloc t true (.tuple #[])):=by
 unfold Civ Instr.alloc
 split
 ·rename_i n x hc
  obtain⟨hx,i,z,hi,hz,hcs⟩:=P.okC _ _ _ hc
  have hrun:∀W,(zeroValue t).run P W = .ok z W:=fun W=>by
   simp[zeroValue,typeInfo,program,Sem.run,hi,hz]
  refine Sim.left hrun ?_
  have e:newVar t z=newRow t (Array.replicate n x):=by unfold newVar;rw[hcs]
  show Sim P base ρ VR _ (do let a ←newVar t z;pure (Value.pointer (some a)))
  rw[e]
  exact Sim.mapRet (Cua hx) fun ρ' a b _ h=>.ptr h
 refine Sim.optRun (fun z e W=>At1 e W) fun z e=>?_
 exact Sim.mapRet (Cbd (VR.cells (VR.of_still (At2 e)) (C1f (At2 e)))) fun ρ' a b _ h=>.ptr h
theorem C99{t:TypeId}{x x':Value}(h:VR ρ x x'):Sim P base ρ VR (Dch t x) (Instr.box t x'):=by
 have gen:Bxj x=false→Sim P base ρ VR (do let a ←Bv2 t x.cells.toList;CM.ret (.pointer (some a))) (Instr.box t x'):=fun hm=>Sim.mapRet (Cbd (h.cells hm)) fun _ _ _ _ h=>.ptr h
 cases h with
 |many n=>exact Sim.mapRet (Cua rfl) fun _ _ _ _ h=>.ptr h
 | _=>exact gen rfl
theorem Daa{x x':Value}(h:VR ρ x x'){f:Operand→Value}{o:Oper}{y:Operand}(ho:o.op = .nilCheck y)(hf:f y=x') :
  Sim P base ρ (fun ρ' v n=>∃v',n = .value v'∧VR ρ' v v') (C1e x) (execOp f o):=by
 cases h with
 |ptr a=>simp only[execOp,ho,hf];exact Sim.ret ⟨_,rfl,.ptr a⟩
 |func fn a b=>
  cases fn with
  |func g=>simp only[execOp,ho,hf];exact Sim.ret ⟨_,rfl,.func _ a b⟩
  | _=>exact Sim.fail
 |iface t a=>simp only[execOp,ho,hf];exact Sim.ret ⟨_,rfl,.iface t a⟩
 | _=>exact Sim.fail
theorem A4w{s:Sem Value}:Sim P base ρ VR (A96 P s) s:=by
 unfold A96
 split
 ·rename_i x hx
  split
  ·rename_i hs
   intro H W hr a H' e
   cases e
   exact⟨ρ,x,W,.refl _,A2g hx W,hr,.refl _ _,VR.of_still hs⟩
  ·exact Sim.fail
 ·exact Sim.fail
theorem Dci{op:UnOp}{a a':Value}(h:VR ρ a a'):Sim P base ρ VR (cun P op a) (Op.unary op a'):=by
 unfold cun
 cases e:Adq a with
 |false=>exact Sim.fail
 |true=>rw[h.still_eq e];exact A4w
theorem C4m{t:TypeId}{a a':Value}(h:VR ρ a a'):Sim P base ρ VR (B6p P t a) (Instr.makeInterface t a'):=by
 unfold B6p Instr.makeInterface
 refine Sim.optRun (fun u e W=>Aaq e W) fun u e=>?_
 cases u<;>first|exact Sim.fail|exact Sim.ret (.iface t h)
theorem Cx2{t t':Value}{i:Nat}(h:VR ρ t t'):Sim P base ρ VR (B0q t i) (Instr.extract t' i):=by
 cases h with
 |tuple h=>
  rename_i c c'
  refine Sim.optRet fun a e=>?_
  obtain⟨v',h1,h2⟩:=h.get i a (by simpa using e)
  exact⟨v',h2,fun W=>by
   have:c'[i]? = some v':=by simpa using h1
   simp[Instr.extract,this]⟩
 | _=>exact Sim.fail
theorem C4n{t:TypeId}{x x':Value}{f:Nat}(h:VR ρ x x'):Sim P base ρ VR (B6q P t x f) (Instr.field t x' f):=by
 unfold B6q Instr.field
 refine Sim.optRun (fun u e W=>Aaq e W) fun u e=>?_
 cases u with
 |struct fields=>
  cases h with
  |agg h=>
   refine Sim.opt fun fl hf=>Sim.optRet fun a e=>?_
   obtain⟨v',h1,h2⟩:=Cuf h e
   refine⟨v',h1,fun W=>?_⟩
   simp only[hf]
   simp[asAgg,h2]
  | _=>exact Sim.fail
 | _=>exact Sim.fail
theorem Cqc{s:TypeId}{x x':Value}{f:Nat}(h:VR ρ x x'):Sim P base ρ VR (Bcx P s x f) (Instr.fieldAt s x' f):=by
 unfold Bcx Instr.fieldAt
 refine Sim.optRun (fun u e W=>Aaq e W) fun u e=>?_
 cases u with
 |struct fields=>
  cases h with
  |ptr a=>
   refine Sim.opt fun fl hf=>?_
   simp only[hf]
   refine Sim.left (b:=_) (fun W=>rfl) ?_
   cases hn:Akk P fl.type with
   |none=>intro H W hr a H' e;cases e
   |some n=>
    cases n with
    |zero=>exact Sim.fail
    |succ n=>
     refine Sim.left (b:=_) (fun W=>?_) (Sim.ret (.ptr (a.add fl.offset)))
     simp[fieldPlace,Aey hn]
  | _=>exact Sim.fail
 | _=>exact Sim.fail
theorem Cqd{t:TypeId}{x x' ix ix':Value}(h:VR ρ x x')(hi:VR ρ ix ix'):Sim P base ρ VR (Bcy P t x ix) (Instr.indexAt t x' ix'):=by
 unfold Bcy
 refine Sim.opt fun u hu=>?_
 cases hi with
 |int k i=>
  cases u with
  |array len elem=>
   cases h with
   |ptr a=>
    refine Sim.opt fun n hn=>?_
    split
    ·rename_i h1 h2
     have h1:=of_decide_eq_true h1
     have h2:=of_decide_eq_true h2
     intro H W hr y H' e
     cases e
     refine⟨ρ,_,W,.refl _,?_,hr,.refl _ _,.ptr (a.add (i.toNat*n))⟩
     simp[Instr.indexAt,asIntOf,Instr.sureAddr,Aaq hu,h1,h2,Aey hn]
    ·exact Sim.fail
   | _=>exact Sim.fail
  |slice elem=>
   cases h with
   |sl a b=>
    refine Sim.opt fun n hn=>?_
    split
    ·rename_i h1 h2
     have h1:=of_decide_eq_true h1
     have h2:=of_decide_eq_true h2
     intro H W hr y H' e
     cases e
     refine⟨ρ,_,W,.refl _,?_,hr,.refl _ _,.ptr (a.add (i.toNat*n))⟩
     simp[Instr.indexAt,asIntOf,Aaq hu,h1,h2,Aey hn]
    ·exact Sim.fail
   |slu hp ha hl hc=>
    refine Sim.opt fun n hn=>?_
    split
    ·rename_i h1 h2
     have h1:=of_decide_eq_true h1
     have h2:=of_decide_eq_true h2
     intro H W hr y H' e
     cases e
     refine⟨ρ,_,W,.refl _,?_,hr,.refl _ _,.ptr (AR.add ⟨_,hp,ha⟩ (i.toNat*n))⟩
     simp[Instr.indexAt,asIntOf,Aaq hu,h1,h2,Aey hn]
    ·exact Sim.fail
   | _=>exact Sim.fail
  | _=>exact Sim.fail
 | _=>exact Sim.fail
theorem C4o{t:TypeId}{x x' ix ix':Value}(h:VR ρ x x')(hi:VR ρ ix ix'):Sim P base ρ VR (B6r P t x ix) (Instr.index t x' ix'):=by
 unfold B6r
 refine Sim.opt fun u hu=>?_
 cases hi with
 |int k i=>
  cases u with
  |string=>
   cases h with
   |string s=>exact A4w
   | _=>exact Sim.fail
  |array len elem=>
   cases h with
   |agg h=>
    refine Sim.opt fun n hn=>?_
    split
    ·rename_i h1 h2
     have h1:=of_decide_eq_true h1
     have h2:=of_decide_eq_true h2
     refine Sim.optRet fun v e=>?_
     obtain⟨v',k1,k2⟩:=Cuf h e
     refine⟨v',k1,fun W=>?_⟩
     simp[Instr.index,asIntOf,Aaq hu,h1,h2,Aey hn,k2]
    ·exact Sim.fail
   | _=>exact Sim.fail
  | _=>exact Sim.fail
 | _=>exact Sim.fail
theorem C4p{t:TypeId}{x x':Value}(h:VR ρ x x'):Sim P base ρ VR (Bxr P t x) (Instr.loadAt t x'):=by
 cases h with
 |ptr a=>exact Sim.left (fun W=>rfl) (Cx1 a)
 | _=>exact Sim.fail
theorem C1g{t:TypeId}{x x' v v':Value}(h:VR ρ x x')(hv:VR ρ v v'):Sim P base ρ (fun _ _ _=>True) (Cz6 P t x v) (Instr.storeAt t x' v'):=by
 cases h with
 |ptr a=>exact Sim.left (fun W=>rfl) (Cue a hv)
 | _=>exact Sim.fail
end
end
end Go.CE
namespace Go.CE
noncomputable section
section
variable {P:PT} {base:Nat→Prop} {α β γ δ:Type} {ρ:Ren}
inductive PRs(ρ:Ren):List (Nat×Value)→List (Nat×Value)→Prop
 |nil:PRs ρ [] []
 |cons {i:Nat} {v v':Value} {l l':List (Nat×Value)}:VR ρ v v'→PRs ρ l l'→PRs ρ ((i,v)::l) ((i,v')::l')
theorem B6s{ev:Operand→Option Value}{f:Operand→Value}(h:∀x v,ev x=some v→VR ρ v (f x)):∀{l:List (Nat×Operand)} {ps:List (Nat×Value)},B6k ev l=some ps→PRs ρ ps (l.map fun x=>(x.1,f x.2))
 |[],ps,e=>by cases e;exact .nil
 |(i,x)::l,ps,e=>by
  simp only[B6k]at e
  split at e
  ·rename_i v vs e1 e2
   cases e
   exact .cons (h _ _ e1) (B6s h e2)
  ·cases e
theorem Bb9{ev:Operand→Option Value}{f:Operand→Value}(h:∀x v,ev x=some v→VR ρ v (f x)):∀{l:List Operand} {vs:List Value},Bjb ev l=some vs→VRs ρ vs (l.map f)
 |[],ps,e=>by cases e;exact .nil
 |x::l,ps,e=>by
  simp only[Bjb]at e
  split at e
  ·rename_i v vs e1 e2
   cases e
   exact .cons (h _ _ e1) (Bb9 h e2)
  ·cases e
theorem Cz8(off:Nat):∀{l l':List Value} (k:Nat) {c c':Array Value},VRs ρ l l'→VRs ρ c.toList c'.toList→
  VRs ρ ((l.zipIdx k).foldl (fun cs (x:Value×Nat)=>cs.setIfInBounds (off+x.2) x.1) c).toList ((l'.zipIdx k).foldl (fun cs (x:Value×Nat)=>cs.setIfInBounds (off+x.2) x.1) c').toList
 |[],[],k,c,c',_,h=>h
 |v::l,v'::l',k,c,c',.cons hv hl,h=>by
  simp only[List.zipIdx_cons,List.foldl_cons]
  refine Cz8 off (k+1) hl ?_
  simp only[Array.toList_setIfInBounds]
  exact h.set hv _
theorem A2c{place:Nat→Option (Nat×Nat)}:∀{ps ps':List (Nat×Value)} {c c' r:Array Value},PRs ρ ps ps'→Bxq ps=true→VRs ρ c.toList c'.toList→Instr.fill place c ps=some r→
  ∃r',Instr.fill place c' ps'=some r'∧VRs ρ r.toList r'.toList
 |[],[],c,c',r,_,_,hc,h=>by
  simp only[Instr.fill]at h
  cases h
  exact⟨c',rfl,hc⟩
 |(i,v)::ps,(_,v')::ps',c,c',r,.cons hv hps,hm,hc,h=>by
  simp only[Bxq,List.all_cons,Bool.and_eq_true,Bool.not_eq_true']at hm
  simp only[Instr.fill]at h ⊢
  split at h
  ·cases h
  ·rename_i off size hp
   split at h
   ·cases h
   ·rename_i hn
    have e1:=(hv.cells hm.1).toList_of
    have e2:=VRs.toList_of hc
    rw[if_neg (by rw[←e1,←e2];exact hn)]
    refine A2c hps hm.2 ?_ h
    have:=Cz8 (ρ:=ρ) off 0 (hv.cells hm.1) hc
    rw[←Array.foldl_toList,←Array.foldl_toList,Array.toList_zipIdx,Array.toList_zipIdx]
    exact this
theorem Biw{v:Value}(h:Adq v=true):Amh v.cells.toList=true:=by
 cases v with
 |agg c=>cases c;simpa [Adq,Value.cells]using h
 | _=>simp[Value.cells,Amh,h]
theorem B0s:∀{l:List Value} {i:Nat} {v:Value},Amh l=true→l[i]? = some v→Adq v=true
 |[],_,_,_,h=>by simp at h
 |a::l,0,v,h,e=>by
  simp only[Amh,Bool.and_eq_true]at h
  simp at e;subst e;exact h.1
 |a::l,i+1,v,h,e=>by
  simp only[Amh,Bool.and_eq_true]at h
  exact B0s h.2 (by simpa using e)
theorem Cix{c:Array Value}(h:Amh c.toList=true)(i:Nat):Adq c[i]! = true:=by
 rw[getElem!_def]
 split
 ·rename_i v e
  exact B0s h (by simpa using e)
 ·rfl
theorem C7f{c:Array Value}(h:Amh c.toList=true)(n:Nat):VRs ρ ((Array.range n).map (c[· % c.size]!)).toList ((Array.range n).map (c[· % c.size]!)).toList:=by
 refine VRs.of_get rfl fun i v v' e e'=>?_
 rw[e]at e';cases e'
 simp at e
 obtain⟨_,_,e⟩:=e
 rw[←e]
 exact VR.of_still (Cix h _)
theorem Sim.run{Q:Ren→α→β→Prop}{c:CM α}{s s':Sem β}(h:∀W,s.run P W=s'.run P W)(k:Sim P base ρ Q c s'):Sim P base ρ Q c s:=by
 intro H W hr a H' e
 obtain⟨ρ1,b,W1,k1,k2,k3⟩:=k H W hr a H' e
 exact⟨ρ1,b,W1,k1,by rw[h];exact k2,k3⟩
theorem Cpt:∀{l:List Field} {ps:List (Nat×Nat)},l.mapM (fun f=>(Akk P f.type).map (f.offset,·))=some ps→
  ∀W,(l.mapM fun f=>(do pure (f.offset,←sizeOf f.type):Sem (Nat×Nat))).run P W = .ok ps W
 |[],ps,e,W=>by simp at e;subst e;simp
 |f::l,ps,e,W=>by
  rw[List.mapM_cons]at e
  cases hn:Akk P f.type with
  |none=>rw[hn]at e;simp at e
  |some n=>
   rw[hn]at e
   cases hr:l.mapM (fun f=>(Akk P f.type).map (f.offset,·)) with
   |none=>rw[hr]at e;simp at e
   |some r=>
    rw[hr]at e
    simp at e;subst e
    rw[List.mapM_cons]
    simp only[Sem.run_bind,Aey hn,Result.andThen_ok,Sem.run_pure,Cpt hr]
theorem Ciy{t:TypeId}{ps:List (Nat×Value)}{ps':Array (Nat×Value)}(h:PRs ρ ps ps'.toList)(hm:Bxq ps=true):Sim P base ρ VR (Bpi P t ps) (Instr.build t ps'):=by
 unfold Bpi Instr.build
 refine Sim.opt fun z hz=>?_
 refine Sim.left (b:=z) (fun W=>At1 hz W) ?_
 have hzs:=Biw (At2 hz)
 refine Sim.optRun (fun u e W=>Aaq e W) fun u e=>?_
 cases u with
 |struct fields=>
  refine Sim.opt fun places hp=>?_
  refine Sim.left (b:=places.toArray) (fun W=>?_) ?_
  ·have:=Cpt hp W
   rw[←Array.toArray_toList (xs:=fields),List.mapM_toArray]
   simp only[Sem.run_map,this,Result.andThen_ok]
  ·refine Sim.opt fun cells hc=>?_
   obtain⟨r',h1,h2⟩:=A2c h hm (VRs.of_still hzs) hc
   have:Instr.fill (fun x=>places.toArray[x]?) z.cells ps'.toList=some r':=by simpa using h1
   simp only[this]
   exact Sim.ret (.agg h2)
 |array n elem=>
  refine Sim.optRun (fun n e W=>Aey e W) fun size e=>?_
  refine Sim.opt fun cells hc=>?_
  obtain⟨r',h1,h2⟩:=A2c h hm (VRs.of_still hzs) hc
  simp only[h1]
  exact Sim.ret (.agg h2)
 | _=>exact Sim.fail
theorem C4q{t:TypeId}{ps:List (Nat×Value)}{ps':Array (Nat×Value)}(h:PRs ρ ps ps'.toList):Sim P base ρ VR (B6o P t ps) (Instr.build t ps'):=by
 unfold B6o
 split
 ·split
  ·rename_i n hc
   obtain⟨hx,i,z,hi,hz,hcs⟩:=P.okC _ _ _ hc
   have hrun:∀W,(zeroValue t).run P W = .ok z W:=fun W=>by
    simp[zeroValue,typeInfo,program,Sem.run,hi,hz]
   have hps:ps'.toList=[]:=by
    generalize hq:ps'.toList=q at h
    cases h;rfl
   unfold Clz Instr.build
   refine Sim.left hrun ?_
   refine Sim.optRun (fun u e W=>Aaq e W) fun u e=>?_
   cases u with
   |array m elem=>
    refine Sim.optRun (fun n e W=>Aey e W) fun size e=>?_
    rw[hps]
    simp only[Instr.fill,hcs]
    exact Sim.ret (.many n)
   | _=>exact Sim.fail
  ·exact Ciy h rfl
 ·split
  ·rename_i hm;exact Ciy h hm
  ·exact Sim.fail
theorem Cl0{t:TypeId}{len:Nat}{ps:List (Nat×Value)}{ps':Array (Nat×Value)}(h:PRs ρ ps ps'.toList):Sim P base ρ VR (Bv4 P t len ps) (Instr.buildSlice t len ps'):=by
 unfold Bv4 Instr.buildSlice
 cases hmm:Bxq ps with
 |false=>exact Sim.fail
 |true=>
 refine Sim.optRun (fun u e W=>Aaq e W) fun u e=>?_
 cases u with
 |slice elem=>
  refine Sim.optRun (fun n e W=>Aey e W) fun size e=>?_
  cases hb:Nat.blt (2^24) (len*size) with
  |true=>exact Sim.fail
  |false=>
   have hb:¬2^24<len*size:=by intro h;rw[show Nat.blt (2^24) (len*size)=true by simpa [Nat.blt_eq]using h]at hb;cases hb
   simp only[gt_iff_lt,hb,if_false]
   refine Sim.opt fun zero hz=>?_
   have rest:∀zero:Array Value,Amh zero.toList=true→Sim P base ρ VR (do
     let cells ←CM.opt (Instr.fill (fun i=>some (i*size,size)) ((Array.range (len*size)).map (zero[· % zero.size]!)) ps)
     match Nat.blt len UNK with
     |true=>do
      let a ←Bv2 elem cells.toList
      CM.ret (.slice (some a) len len)
     |false=>CM.fail) (match Instr.fill (fun i=>some (i*size,size)) ((Array.range (len*size)).map (zero[· % zero.size]!)) ps'.toList with
     |some cells=>do pure (.slice (some (←newRow elem cells)) len len)
     | _=>stuck "buildSlice: a part of the wrong size"):=by
    intro zero hzz
    refine Sim.opt fun cells hc=>?_
    obtain⟨r',h1,h2⟩:=A2c h hmm (C7f hzz _) hc
    simp only[h1]
    cases hl:Nat.blt len UNK with
    |false=>exact Sim.fail
    |true=>
     have hl:len<UNK:=by simpa [Nat.blt_eq]using hl
     exact Sim.mapRet (Cbd h2) fun ρ' a b _ h=>.sl h hl
   unfold C4k at hz
   split at hz
   ·rename_i e0
    cases hz
    have e0:=Nat.eq_of_beq_eq_true e0
    rw[if_pos e0]
    exact Sim.left (b:=#[]) (fun W=>rfl) (rest #[] rfl)
   ·rename_i e0
    rw[if_neg (fun e=>by rw[e]at e0;cases e0)]
    cases hc:A3g P elem with
    |none=>rw[hc]at hz;cases hz
    |some z=>
     rw[hc]at hz;cases hz
     exact Sim.left (b:=z) (fun W=>At1 hc W) (Sim.left (b:=z.cells) (fun W=>rfl) (rest _ (Biw (At2 hc))))
 | _=>exact Sim.fail
end
end
end Go.CE

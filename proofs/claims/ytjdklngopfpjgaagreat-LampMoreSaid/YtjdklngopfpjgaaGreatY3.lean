/- A closed run of the model's code,proved sound: steps,code,functions. -/
import Derived.Test.YtjdklngopfpjgaaGreatY2
import Derived.Scope
namespace Go.CE
noncomputable section
section
variable {P:PT} {base:Nat→Prop} {α β γ δ:Type} {ρ:Ren}
theorem C1o{ts:Array TypeId}{t ty:TypeId}{s s' x x':Value}(ht:ts[0]? = some t)(hxi:Bud P ts[1]? = some false)(hs:VR ρ s s')(hx:VR ρ x x'):Sim P base ρ VR (Clx P t s x) (Builtin.append_ ts ty #[s',x']):=by
 unfold Clx
 refine Sim.opt fun u hu=>?_
 cases u with
 |slice elem=>
  cases hs with
  |snil l c=>
   refine Sim.opt fun size hsz=>Sim.opt fun n hn=>?_
   cases hb:Nat.blt c UNK with
   |false=>exact Sim.fail
   |true=>exact B2g ht hxi hu hsz hn hx (.snil l c) (by simpa [Nat.blt_eq]using hb) rfl (fun a a' h=>by cases h)
  |sl ha hc=>
   rename_i a a' l c
   refine Sim.opt fun size hsz=>Sim.opt fun n hn=>?_
   have hb:Nat.blt c UNK=true:=by simpa [Nat.blt_eq]using hc
   rw[hb]
   exact B2g ht hxi hu hsz hn hx (.sl ha hc) hc rfl (fun a1 a2 h1 h2=>by cases h1;cases h2;exact ha)
  |slu hp ha hlc hcap=>
   rename_i a a' l c e p
   refine Sim.opt fun size hsz=>Sim.opt fun n hn=>?_
   have hb:Nat.blt (UNK+e) UNK=false:=by
    cases hb:Nat.blt (UNK+e) UNK with
    |false=>rfl
    |true=>simp[Nat.blt_eq]at hb;omega
   rw[hb]
   cases he:Nat.beq (UNK+e) (UNK+size) with
   |false=>exact Sim.fail
   |true=>
    have he:=Nat.eq_of_beq_eq_true he
    have he:e=size:=by omega
    subst he
    cases hg:Bjc P elem e (l+n) with
    |false=>exact Sim.fail
    |true=>exact Cqf ht hxi hu hsz hn hx hp ha hlc hcap hg
  | _=>exact Sim.fail
 | _=>exact Sim.fail
theorem C7i{ts:Array TypeId}{t ty:TypeId}{d d' x x':Value}(ht:ts[0]? = some t)(hd:VR ρ d d')(hx:VR ρ x x'):Sim P base ρ VR (C1d P t d x) (Builtin.copy_ ts ty #[d',x']):=by
 unfold C1d
 refine Sim.opt fun u hu=>?_
 cases u with
 |slice elem=>
  have core:∀(a a':Addr) (l c c':Nat),d = .slice (some a) l c→d' = .slice (some a') l c'→AR ρ a a'→Sim P base ρ VR (do
    let size ←CM.opt (Akk P elem)
    let m ←CM.opt (Cfp x)
    let n:=Nat.min m l
    let cells ←Ant size n x
    Bb8 a 0 cells
    CM.ret (goInt n)) (Builtin.copy_ ts ty #[d',x']):=by
   intro a a' l c c' hd1 hd2 hA
   refine Sim.opt fun size hsz=>Sim.opt fun m hm=>?_
   refine Sim.run (s':=do
     let cells ←Builtin.firstCells size (Nat.min m l) x'
     storeCells a' cells.toList
     pure (goInt (Nat.min m l))) (fun W=>?_) ?_
   ·rw[hd2];simp[Builtin.copy_,ht,Aaq hu,B0t hx hm,Aey hsz]
   ·refine Sim.bind (A0c hx) fun ρ1 cs cs' h1 hcs=>?_
    refine Sim.bind (Bn9 hA cs cs'.toList 0 ρ1 h1 hcs) fun ρ2 _ _ h2 _=>?_
    exact Sim.ret (.int _ _)
  cases hd with
  |sl ha hc=>exact core _ _ _ _ _ rfl rfl ha
  |slu hp ha _ _=>exact core _ _ _ _ _ rfl rfl ⟨_,hp,ha⟩
  |snil l c=>
   refine Sim.opt fun size hsz=>Sim.opt fun m hm=>?_
   refine Sim.run (s':=do
     let cells ←Builtin.firstCells size (Nat.min m l) x'
     pure (goInt (Nat.min m l))) (fun W=>?_) ?_
   ·simp[Builtin.copy_,ht,Aaq hu,B0t hx hm,Aey hsz]
   ·exact Sim.mapRet (A0c hx) fun ρ1 cs cs' h1 hcs=>.int _ _
  | _=>exact Sim.fail
 | _=>exact Sim.fail
theorem Cuk{a b:Addr}{W:World}{c c':Array Value}{t t':TypeId}(ha:W.heap[a.block]? = some (.cells c t (0,0)))(hb:W.heap[b.block]? = some (.cells c' t' (0,0)))(hne:a.block≠b.block) :
  (sameAddr a b).run P W = .ok false W:=by
 simp[sameAddr,hne,frozen,shape,noView,viewAt,mayBeOne,stringish,Sem.run,World.frozen?,World.shape?,ha,hb]
theorem C7j{sz:Option Nat}{elem:TypeId}(hsz:Akk P elem=sz){a b a' b':Addr}(ha:AR ρ a a')(hb:AR ρ b b'):Sim P base ρ (fun _ x y=>x=y) (Ciu sz a b)
  (do if (←sizeOf elem)≠0 then sameAddr a' b' else if a'==b' then pure true else pure ((←choose .zeroSizeEq)=1)):=by
 intro H W hr y H' e
 unfold Ciu at e
 split at e
 ·rename_i n hbl
  cases e
  have hbl:=Nat.eq_of_beq_eq_true hbl
  obtain⟨p,hp,rfl⟩:=ha
  obtain⟨q,hq,rfl⟩:=hb
  rw[hbl]at hp
  rw[hp]at hq;cases hq
  refine⟨ρ,(a==b),W,.refl _,?_,hr,.refl _ _,rfl⟩
  have he:(({block:=p.b,off:=a.off+p.d,spot:=a.spot}:Addr)=={block:=p.b,off:=b.off+p.d,spot:=b.spot})=(a==b):=by
   rw[Bool.eq_iff_iff]
   simp only[beq_iff_eq,Addr.mk.injEq]
   cases a;cases b;simp_all
  simp[Aey hsz,sameAddr,he]
 ·rename_i n hbl
  split at e
  case h_2=>cases e
  rename_i n1 c1 d1 t1 x1 n2 c2 d2 t2 x2 h1 h2
  cases e
  obtain⟨p,hp,hB1⟩:=hr.blk _ _ h1 rfl
  obtain⟨q,hq,hB2⟩:=hr.blk _ _ h2 rfl
  obtain⟨p',hp',rfl⟩:=ha
  obtain⟨q',hq',rfl⟩:=hb
  rw[hp]at hp';cases hp'
  rw[hq]at hq';cases hq'
  obtain⟨e1,f1,_⟩:=hB1.cells
  obtain⟨e2,f2,_⟩:=hB2.cells
  have hne:p.b≠q.b:=fun e=>by
   have:=hr.inj _ _ _ _ p q h1 rfl h2 rfl hp hq e
   rw[this]at hbl;simp at hbl
  refine⟨ρ,false,W,.refl _,?_,hr,.refl _ _,rfl⟩
  rw[Sem.run_bind,Aey hsz,Result.andThen_ok,if_pos (by omega)]
  exact Cuk f1 f2 hne
 ·cases e
theorem Cpy{t:TypeId}{x y x' y':Value}(hx:VR ρ x x')(hy:VR ρ y y'):Sim P base ρ (fun _ a b=>a=b) (Bxo P t x y) (Op.equal t x' y'):=by
 unfold Bxo
 have un:∀{u:TypeDesc},under P t=some u→∀{r:Sem Bool},(∀d W,(Op.equalIn (d+1) t x' y').run P W=r.run P W)→∀{c:CM Bool},Sim P base ρ (fun _ a b=>a=b) c r→Sim P base ρ (fun _ a b=>a=b) c (Op.equal t x' y') :=
  fun hu r hr c h=>Sim.run (fun W=>hr 9999 W) h
 split
 ·rename_i hsx hsy
  rw[hx.still_eq hsx,hy.still_eq hsy]
  exact Sim.run0' fun _ _=>rfl
 ·refine Sim.opt fun u hu=>?_
  split
  case h_12=>exact Sim.fail
  ·cases hx;cases hy
   exact un hu (r:=pure false) (fun d W=>by simp only[Op.equalIn,Sem.run_bind,Aaq hu,Result.andThen_ok];try rfl) (Sim.ret rfl)
  ·cases hx;cases hy
   exact un hu (r:=pure false) (fun d W=>by simp only[Op.equalIn,Sem.run_bind,Aaq hu,Result.andThen_ok];try rfl) (Sim.ret rfl)
  ·cases hx with
   |ptr ha=>cases hy with
    |ptr hb=>exact un hu (fun d W=>by simp only[Op.equalIn,Sem.run_bind,Aaq hu,Result.andThen_ok];try rfl) (C7j rfl ha hb)
  ·cases hx;cases hy<;>exact un hu (r:=pure false) (fun d W=>by simp only[Op.equalIn,Sem.run_bind,Aaq hu,Result.andThen_ok];try rfl) (Sim.ret rfl)
  ·cases hy;cases hx<;>exact un hu (r:=pure false) (fun d W=>by simp only[Op.equalIn,Sem.run_bind,Aaq hu,Result.andThen_ok];try rfl) (Sim.ret rfl)
  ·cases hx;cases hy;exact un hu (r:=pure false) (fun d W=>by simp only[Op.equalIn,Sem.run_bind,Aaq hu,Result.andThen_ok];try rfl) (Sim.ret rfl)
  ·cases hx;cases hy;exact un hu (r:=pure false) (fun d W=>by simp only[Op.equalIn,Sem.run_bind,Aaq hu,Result.andThen_ok];try rfl) (Sim.ret rfl)
  ·cases hx;cases hy;exact un hu (r:=pure false) (fun d W=>by simp only[Op.equalIn,Sem.run_bind,Aaq hu,Result.andThen_ok];try rfl) (Sim.ret rfl)
  ·cases hx;cases hy;exact un hu (r:=pure false) (fun d W=>by simp only[Op.equalIn,Sem.run_bind,Aaq hu,Result.andThen_ok];try rfl) (Sim.ret rfl)
  ·cases hx;cases hy;exact un hu (r:=pure false) (fun d W=>by simp only[Op.equalIn,Sem.run_bind,Aaq hu,Result.andThen_ok];try rfl) (Sim.ret rfl)
  ·cases hx;cases hy;exact un hu (r:=pure false) (fun d W=>by simp only[Op.equalIn,Sem.run_bind,Aaq hu,Result.andThen_ok];try rfl) (Sim.ret rfl)
end
end
end Go.CE
namespace Go.CE
noncomputable section
def B6u:Value→Value→Bool
 | .int ..,.int .. | .float ..,.float .. | .complex ..,.complex .. | .string _,.string _=>true
 | _,_=>false
theorem C4t{t:TypeId}:∀{a b:Value},B6u a b=false→binOp .eql t a b=(do pure (.bool (←Op.equal t a b))):=by
 intro a b h
 cases a<;>cases b<;>first|rfl|(simp[B6u]at h;done)
theorem C4u{t:TypeId}:∀{a b:Value},B6u a b=false→binOp .neq t a b=(do pure (.bool (!(←Op.equal t a b)))):=by
 intro a b h
 cases a<;>cases b<;>first|rfl|(simp[B6u]at h;done)
def C7k:Value→Value→Bool
 | .nilIface,.nilIface | .agg _,.agg _=>true
 | _,_=>false
theorem Ceg{P:PT}{op:BinOp}{t:TypeId}{x y:Operand}:∀{a b:Value},C7k a b=false→∀W,(eqGuard op t x y a b).run P W = .ok () W:=by
 intro a b h W
 cases op<;>first
  |rfl
  |(cases a<;>cases b<;>first|rfl|(simp[C7k]at h;done))
section
variable {P:PT} {base:Nat→Prop} {α β γ δ:Type} {ρ:Ren}
theorem VR.simple_of{a b a' b':Value}(ha:VR ρ a a')(hb:VR ρ b b')(h:(Adq a&&Adq b)=false):B6u a' b'=false:=by
 cases ha<;>cases hb<;>first|rfl|(simp[Adq]at h;done)
theorem VR.both_of{a b a' b':Value}(ha:VR ρ a a')(hb:VR ρ b b')(h:(Adq a&&Adq b)=false)(hn:Cbg a b=true):C7k a' b'=false:=by
 cases ha<;>cases hb<;>first|rfl|(simp[Adq]at h;done)|(simp[Cbg]at hn;done)
theorem Dab{op:BinOp}{t:TypeId}{x y:Operand}{a b a' b':Value}(ha:VR ρ a a')(hb:VR ρ b b'):Sim P base ρ VR (Cuc P op t x y a b) (do eqGuard op t x y a' b';binOp op t a' b'):=by
 unfold Cuc
 cases hs:Adq a&&Adq b with
 |true=>
  simp only[Bool.and_eq_true]at hs
  rw[ha.still_eq hs.1,hb.still_eq hs.2]
  exact A4w
 |false=>
  cases op with
  |eql=>
   cases hn:Cbg a b with
   |false=>exact Sim.fail
   |true=>
    refine Sim.left (fun W=>Ceg (ha.both_of hb hs hn) W) ?_
    rw[C4t (ha.simple_of hb hs)]
    exact Sim.mapRet (Cpy ha hb) fun ρ1 u v _ h=>by rw[h];exact .bool _
  |neq=>
   cases hn:Cbg a b with
   |false=>exact Sim.fail
   |true=>
    refine Sim.left (fun W=>Ceg (ha.both_of hb hs hn) W) ?_
    rw[C4u (ha.simple_of hb hs)]
    exact Sim.mapRet (Cpy ha hb) fun ρ1 u v _ h=>by rw[h];exact .bool _
  | _=>exact Sim.fail
theorem Ceh{F:Value→ByteArray→Sem (ForInStep ByteArray)}(hF:∀n s,F (.int .u8 n) s=pure (.yield (s.push (UInt8.ofNat n.toNat)))):∀{l l':List Value} {bs:List UInt8},VRs ρ l l'→bytesOf l=some bs→∀(s:ByteArray) (W:World),
  (forIn l' s F).run P W = .ok ⟨s.data++bs.toArray⟩ W
 |[],[],bs,_,h,s,W=>by
  cases h
  cases s;simp
 |v::l,v'::l',bs,.cons hv hl,h,s,W=>by
  cases hv with
  |int k n=>
   cases k with
   |u8=>
    simp only[bytesOf]at h
    cases hb:bytesOf l with
    |none=>rw[hb]at h;cases h
    |some r=>
     rw[hb]at h;cases h
     have:=Ceh hF hl hb (s.push (UInt8.ofNat n.toNat)) W
     simp only[List.forIn_cons,hF,Sem.run_bind,Sem.run_pure,Result.andThen_ok]
     rw[this]
     congr 1
     cases s
     simp[ByteArray.push]
   | _=>simp[bytesOf]at h
  | _=>simp[bytesOf]at h
theorem C7l{s d:TypeId}{a a':Value}(ha:VR ρ a a'):Sim P base ρ VR (Ciw P s d a) (convert s d a'):=by
 unfold Ciw
 cases hs:Adq a with
 |true=>rw[ha.still_eq hs];exact A4w
 |false=>
  refine Sim.opt fun us hus=>Sim.opt fun ud hud=>?_
  have core:∀(e:TypeId) (p p':Addr) (n c c':Nat),us = .slice e→ud = .string→a = .slice (some p) n c→a' = .slice (some p') n c'→AR ρ p p'→Sim P base ρ VR (do
    let ue ←CM.opt (under P e)
    match ue with
    | .int .u8=>do
     let l ←Aws p 0 n
     let bs ←CM.opt (bytesOf l)
     CM.ret (.string ⟨⟨bs⟩⟩)
    | _=>CM.fail) (convert s d a'):=by
   intro e p p' n c c' h1 h2 h3 h4 hA
   subst h1 h2 h4
   refine Sim.opt fun ue hue=>?_
   cases ue with
   |int k=>
    cases k with
    |u8=>
     intro H W hr y H' er
     obtain⟨l,H1,e1,f1⟩:=bind_some er
     obtain⟨rfl,l',hl,hrun⟩:=Bc0 (P:=P) hr hA n 0 #[] e1
     obtain⟨bs,H2,e2,f2⟩:=bind_some f1
     obtain⟨hbs,rfl⟩:=Ahv e2
     obtain⟨rfl,rfl⟩:=Abt f2
     refine⟨ρ,.string ⟨⟨bs⟩⟩,W,.refl _,?_,hr,.refl _ _,.string _⟩
     have hl2:(loadCells p' n).run P W = .ok l'.toArray W:=by simpa [loadCells]using hrun
     simp only[convert,Sem.run_bind,Aaq hus,Aaq hud,Aaq hue,Result.andThen_ok,Conv.bytesToString,hl2]
     rw[List.forIn_toArray,Ceh (fun _ _=>rfl) hl hbs]
     simp[ByteArray.empty,ByteArray.emptyWithCapacity]<;>rfl
    | _=>exact Sim.fail
   | _=>exact Sim.fail
  cases us with
  |slice e=>cases ud with
   |string=>
    cases ha with
    |sl hA hc=>exact core _ _ _ _ _ _ rfl rfl rfl rfl hA
    |slu hp hA _ _=>exact core _ _ _ _ _ _ rfl rfl rfl rfl ⟨_,hp,hA⟩
    | _=>exact Sim.fail
   | _=>exact Sim.fail
  | _=>exact Sim.fail
end
end
end Go.CE
namespace Go.CE
noncomputable section
def NR(ρ:Ren):Option Value→Next→Prop
 |some v,n=>∃v',n = .value v'∧VR ρ v v'
 |none,n=>n = .skip
section
variable {P:PT} {base:Nat→Prop} {α β γ δ:Type} {ρ:Ren}
theorem Alm{c:CM Value}{s:Sem Value}(h:Sim P base ρ VR c s):Sim P base ρ NR (do let x ←c;CM.ret (some x)) (do pure (Next.value (←s))) :=
 Sim.mapRet h fun _ _ b _ hv=>⟨b,rfl,hv⟩
theorem Cbi{c:CM Unit}{s:Sem Unit}(h:Sim P base ρ (fun _ _ _=>True) c s):Sim P base ρ NR (do c;CM.ret none) (do s;pure Next.skip) :=
 Sim.bind h fun _ _ _ _ _=>Sim.ret rfl
theorem C0a{c:CM Value}{s:Sem Next}(h:Sim P base ρ (fun ρ' v n=>∃v',n=Next.value v'∧VR ρ' v v') c s):Sim P base ρ NR (do let x ←c;CM.ret (some x)) s:=by
 intro H W hr y H' e
 obtain⟨v,H1,e1,f1⟩:=bind_some e
 obtain⟨rfl,rfl⟩:=Abt f1
 exact h H W hr v _ e1
theorem Cx6{b:Builtin}{ts:Array TypeId}{ty:TypeId}{cs:Array Bool}{vs vs':List Value}(h:VRs ρ vs vs'):Sim P base ρ (fun ρ' v n=>∃v',n=Next.value v'∧VR ρ' v v') (Bp1 P b ts ty vs) (builtin b ts ty cs ⟨vs'⟩):=by
 have fin:∀{c:CM Value} {s:Sem Value},Sim P base ρ VR c s→Sim P base ρ (fun ρ' v n=>∃v',n=Next.value v'∧VR ρ' v v') c (do pure (Next.value (←s))):=by
  intro c s h H W hr a H' e
  obtain⟨ρ1,v,W1,k1,k2,k3,k4,k5⟩:=h H W hr a H' e
  exact⟨ρ1,.value v,W1,k1,by rw[Sem.run_bind,k2];rfl,k3,k4,v,rfl,k5⟩
 have pures:∀{s:Sem Value},Amh vs=true→(∀l,vs=l→True)→Sim P base ρ VR (A96 P s) s:=fun _ _=>A4w
 unfold Bp1
 split
 ·rename_i s x
  cases h with
  |cons hs h=>cases h with
   |cons hx h=>cases h with
    |nil=>
     refine Sim.opt fun t ht=>Sim.opt fun xi hxi=>?_
     cases xi with
     |true=>exact Sim.fail
     |false=>exact fin (C1o ht hxi hs hx)
 ·cases h with
  |cons hs h=>cases h with
   |nil=>exact Sim.opt fun t ht=>fin (C4r ht hs)
 ·cases h with
  |cons hs h=>cases h with
   |cons hx h=>cases h with
    |nil=>exact Sim.opt fun t ht=>fin (C7i ht hs hx)
 ·cases h with
  |cons hs h=>cases h with
   |cons hx h=>cases h with
    |nil=>exact Sim.opt fun t ht=>fin (C1j ht hs hx)
 ·cases hst:Amh vs with
  |false=>exact Sim.fail
  |true=>
   have e:=h.still_eq hst
   subst e
   exact fin A4w
 ·cases hst:Amh vs with
  |false=>exact Sim.fail
  |true=>
   have e:=h.still_eq hst
   subst e
   exact fin A4w
 ·exact Sim.fail
theorem Bue{ev:Operand→Option Value}{f:Operand→Value}(h:∀x v,ev x=some v→VR ρ v (f x)){o:Option Operand}{r:Option Value}(e:Bxi ev o=some r):OR ρ r (o.map f):=by
 cases o with
 |none=>cases e;exact .none
 |some x=>
  simp only[Bxi]at e
  cases hx:ev x with
  |none=>rw[hx]at e;cases e
  |some v=>rw[hx]at e;cases e;exact .some (h _ _ hx)
theorem Ail{Q:Ren→α→β→Prop}{ev:Operand→Option Value}{f:Operand→Value}(h:∀x v,ev x=some v→VR ρ v (f x)){x:Operand}{k:Value→CM α}{s:Sem β}(hk:∀v,VR ρ v (f x)→Sim P base ρ Q (k v) s) :
  Sim P base ρ Q (CM.opt (ev x) >>= k) s:=Sim.opt fun v hv=>hk v (h _ _ hv)
theorem Dcj{ev:Operand→Option Value}{f:Operand→Value}(h:∀x v,ev x=some v→VR ρ v (f x))(o:Oper):Sim P base ρ NR (cop P ev o) (execOp f o):=by
 unfold cop
 cases ho:o.op with
 |move x=>simp only[execOp,ho];exact Sim.run (s':=do pure (Next.value (←(pure (f x):Sem Value)))) (fun W=>rfl) (Alm (Sim.optRet fun v hv=>⟨_,h _ _ hv,fun W=>rfl⟩))
 |assign x=>simp only[execOp,ho];exact Sim.run (s':=do pure (Next.value (←(pure (f x):Sem Value)))) (fun W=>rfl) (Alm (Sim.optRet fun v hv=>⟨_,h _ _ hv,fun W=>rfl⟩))
 |pick c a b=>
  simp only[execOp,ho]
  refine Sim.run (s':=do pure (Next.value (←(do pure (if ←asBool (f c) then f a else f b):Sem Value)))) (fun W=>?_) (Alm ?_)
  ·simp only[Sem.run_bind]
   cases hq:(asBool (f c)).run P W<;>rfl
  ·exact Ail h fun c hc=>Ail h fun a ha=>Ail h fun b hb=>C7e hc ha hb
 |alloc t=>simp only[execOp,ho];exact Alm C4l
 |box t x=>simp only[execOp,ho];exact Alm (Ail h fun v hv=>C99 hv)
 |build t ps=>
  simp only[execOp,ho]
  refine Alm (Sim.opt fun vs hvs=>C4q ?_)
  have:=B6s h hvs
  simpa using this
 |buildSlice t n ps=>
  simp only[execOp,ho]
  refine Alm (Sim.opt fun vs hvs=>Cl0 ?_)
  have:=B6s h hvs
  simpa using this
 |load t a=>simp only[execOp,ho];exact Alm (Ail h fun v hv=>C4p hv)
 |store t a x=>
  simp only[execOp,ho]
  exact Cbi (Ail h fun v hv=>Ail h fun w hw=>C1g hv hw)
 |nilCheck x=>
  exact C0a (Ail h fun v hv=>Daa hv ho rfl)
 |binOp op t x y yt=>simp only[execOp,ho];exact Alm (Ail h fun a ha=>Ail h fun b hb=>Dab ha hb)
 |unOp op t x=>simp only[execOp,ho];exact Alm (Ail h fun a ha=>Dci ha)
 |convert s d x=>simp only[execOp,ho];exact Alm (Ail h fun a ha=>C7l ha)
 |makeInterface t x=>simp only[execOp,ho];exact Alm (Ail h fun a ha=>C4m ha)
 |makeFunc fn fs cs=>
  simp only[execOp,ho]
  refine Alm (Sim.opt fun a ha=>Sim.opt fun b hb=>Sim.ret (.func fn ?_ ?_))
  ·have:=Bb9 h ha;simpa using this
  ·have:=Bb9 h hb;simpa using this
 |makeMap t r=>simp only[execOp,ho];exact Alm (Sim.opt fun a ha=>Cx4 (Bue h ha))
 |makeSlice t l c=>simp only[execOp,ho];exact Alm (Ail h fun a ha=>Ail h fun b hb=>Cqe ha hb)
 |slice t x lo hi mx=>simp only[execOp,ho];exact Alm (Ail h fun a ha=>Sim.opt fun b hb=>Sim.opt fun c hc=>Sim.opt fun d hd=>Cx3 ha (Bue h hb) (Bue h hc) (Bue h hd))
 |fieldAddr s x i=>simp only[execOp,ho];exact Alm (Ail h fun a ha=>Cqc ha)
 |field t x i=>simp only[execOp,ho];exact Alm (Ail h fun a ha=>C4n ha)
 |indexAddr t x i=>simp only[execOp,ho];exact Alm (Ail h fun a ha=>Ail h fun b hb=>Cqd ha hb)
 |index t x i=>simp only[execOp,ho];exact Alm (Ail h fun a ha=>Ail h fun b hb=>C4o ha hb)
 |lookup t x i ok=>simp only[execOp,ho];exact Alm (Ail h fun a ha=>Ail h fun b hb=>C1i ha hb)
 |mapUpdate t m k x=>simp only[execOp,ho];exact Cbi (Ail h fun a ha=>Ail h fun b hb=>Ail h fun c hc=>B2f ha hb hc)
 |insert t m k x=>simp only[execOp,ho];exact Cbi (Ail h fun a ha=>Ail h fun b hb=>Ail h fun c hc=>B2f ha hb hc)
 |mapEntry t m k=>simp only[execOp,ho];exact Alm (Ail h fun a ha=>Ail h fun b hb=>Cug ha hb)
 |entryStore t m k x=>simp only[execOp,ho];exact Cbi (Ail h fun a ha=>Ail h fun b hb=>Ail h fun c hc=>Cl1 ha hb hc)
 |extract t i=>simp only[execOp,ho];exact Alm (Ail h fun a ha=>Cx2 ha)
 |call c=>
  obtain⟨cal,args,ats⟩:=c
  cases cal with
  |builtin b=>
   refine C0a (Sim.opt fun vs hvs=>?_)
   refine Sim.run (s':=builtin b ats o.type (args.map fun | .const _=>true | _=>false) ⟨args.toList.map f⟩) (fun W=>?_) (Cx6 (Bb9 h hvs))
   have e:(⟨args.toList.map f⟩:Array Value)=args.map f:=by apply Array.ext';simp
   rw[e]
   simp only[execOp,ho,resolve,invoke,Sem.run_bind,Sem.run_pure,Result.andThen_ok]
   rfl
  | _=>exact Sim.fail
 | _=>exact Sim.fail
end
end
end Go.CE
namespace Go.CE
noncomputable section
def CEx.to:CEx→Exit
 | .normal=>.normal
 | .exit id=>.exit id
 | .ret=>.ret
abbrev Asq:=FuncId→List Value→CM Value
def Buf(n:Nat)(E:Env)(d:Option Tmp)(v:Value):CM Env :=
 match d with
 |none=>CM.ret E
 |some d=>match Nat.blt d n,Nat.blt d BIG with
  |true,true=>CM.ret (T.set v 60 E d)
  | _,_=>CM.fail
def Awt(P:PT)(call:Asq)(ops:Array Oper)(o:Oper)(E:Env):CM Value :=
 match Bpj ops o E with
 |some false=>CM.ret undef
 |some true=>match A2f P (Biu E) o with
  |some (g,vs)=>call g vs
  |none=>do
   let r ←cop P (Biu E) o
   CM.ret (r.getD undef)
 |none=>CM.fail
def C82(P:PT)(call:Asq)(n:Nat)(ops:Array Oper)(o:Oper)(E:Env):CM Env:=do
 let v ←Awt P call ops o E
 Buf n E o.dst v
def Cul(P:PT)(call:Asq)(n:Nat)(ops:Array Oper):List Nat→Env→CM Env
 |[],E=>CM.ret E
 |i::l,E=>match ops[i]? with
  |some o=>do
   let E' ←C82 P call n ops o E
   Cul P call n ops l E'
  |none=>Cul P call n ops l E
def Ci3(body:Env→CM (CEx×Env)):Nat→Env→CM (CEx×Env)
 |0,_=>CM.fail
 |k+1,E=>do
  let r ←body E
  match r.1 with
  | .normal=>Ci3 body k r.2
  |e=>CM.ret (e,r.2)
abbrev Csr:=Array Oper→Env→CM Env
def A3h(P:PT)(call:Asq)(draw:Csr)(n fuel:Nat):Code→Env→CM (CEx×Env)
 | .skip,E=>CM.ret (.normal,E)
 | .label _,E=>CM.ret (.normal,E)
 | .region _ ops false,E=>do
  let E' ←Cul P call n ops (List.range ops.size) E
  CM.ret (.normal,E')
 | .region _ ops true,E=>do
  let E' ←draw ops E
  CM.ret (.normal,E')
 | .seq a b,E=>do
  let r ←A3h P call draw n fuel a E
  match r.1 with
  | .normal=>A3h P call draw n fuel b r.2
  |e=>CM.ret (e,r.2)
 | .cond x a b,E=>match Biu E x with
  |some (.bool true)=>A3h P call draw n fuel a E
  |some (.bool false)=>A3h P call draw n fuel b E
  | _=>CM.fail
 | .block id a,E=>do
  let r ←A3h P call draw n fuel a E
  match r.1 with
  | .exit j=>match Nat.beq j id with
   |true=>CM.ret (.normal,r.2)
   |false=>CM.ret (.exit j,r.2)
  |e=>CM.ret (e,r.2)
 | .loop a,E=>Ci3 (A3h P call draw n fuel a) fuel E
 | .scope a,E=>A3h P call draw n fuel a E
 | .exit j,E=>CM.ret (.exit j,E)
 | .ret,E=>CM.ret (.ret,E)
 | _,_=>CM.fail
section
variable {P:PT} {base:Nat→Prop} {α β γ δ:Type} {ρ:Ren}
structure SR(n:Nat)(ρ:Ren)(E:Env)(a:Act):Prop where
 size:a.tmps.size=n
 get:∀d v,E.get d=some v→VR ρ v (a.tmps.getD d undef)
 defers:a.defers=[]
theorem SR.mono{n:Nat}{ρ':Ren}(h:ρ.le ρ'){E:Env}{a:Act}(hs:SR n ρ E a):SR n ρ' E a:=⟨hs.size,fun d v e=>(hs.get d v e).mono h,hs.defers⟩
theorem Bp4{n:Nat}{E:Env}{a:Act}(hs:SR n ρ E a):∀x v,Biu E x=some v→VR ρ v (a.eval x):=by
 intro x v h
 cases x with
 |tmp t=>exact hs.get t v h
 |const w=>
  simp only[Biu]at h
  split at h
  ·rename_i hst;cases h;exact VR.of_still hst
  ·cases h
 |global g=>cases h
 |func f=>cases h;exact .func _ .nil .nil
theorem C1p{n:Nat}{E E':Env}{d:Option Tmp}{v:Value}{H H':CH}(e:Buf n E d v H=some (E',H')):H'=H∧∀{ρ:Ren} {a:Act} {v':Value},SR n ρ E a→VR ρ v v'→SR n ρ E' (a.put d v'):=by
 cases d with
 |none=>
  obtain⟨rfl,rfl⟩:=Abt e
  exact⟨rfl,fun hs _=>hs⟩
 |some d=>
  simp only[Buf]at e
  cases h1:Nat.blt d n with
  |false=>simp only[h1]at e;cases e
  |true=>
  cases h2:Nat.blt d BIG with
  |false=>simp only[h1,h2]at e;cases e
  |true=>
  simp only[h1,h2]at e
  have hd1:d<n:=by simpa [Nat.blt_eq]using h1
  have hd2:d<BIG:=by simpa [Nat.blt_eq]using h2
  clear h1 h2
  have hd3:d+1<2^60:=Nat.lt_of_le_of_lt (show d+1≤BIG from hd2) (by unfold BIG;decide)
  obtain⟨rfl,rfl⟩:=Abt e
  refine⟨rfl,fun {ρ a v'} hs hv=>⟨by simp[Act.put,hs.size],fun j w hw=>?_,hs.defers⟩⟩
  by_cases ej:j=d
  ·rw[ej]at hw ⊢
   rw[T.get_set _ _ _ _ hd3]at hw
   cases hw
   have:((a.put (some d) v').tmps.getD d undef)=v':=by
    simp only[Act.put,Array.getD_eq_getD_getElem?,Array.getElem?_setIfInBounds,if_true]
    rw[if_pos (by rw[hs.size];exact hd1)];rfl
   rw[this];exact hv
  ·rw[T.get_set_ne _ _ _ _ _ ej]at hw
   have:((a.put (some d) v').tmps.getD j undef)=a.tmps.getD j undef:=by
    simp only[Act.put,Array.getD_eq_getD_getElem?,Array.getElem?_setIfInBounds]
    rw[if_neg (fun e=>ej e.symm)]
   rw[this];exact hs.get j w hw
theorem Ci4{n:Nat}{ops:Array Oper}{o:Oper}{E:Env}{a:Act}{b:Bool}(hs:SR n ρ E a)(h:Bpj ops o E=some b):Region.wanted o (yielded ops a.tmps)=b:=by
 unfold Bpj at h
 unfold Region.wanted
 split at h
 ·rename_i hg;rw[hg];cases h;rfl
 ·rename_i j want hg
  rw[hg]
  simp only
  unfold Cud at h
  unfold yielded
  cases hd:(ops[j]?).bind (·.dst) with
  |none=>rw[hd]at h;simp at h
  |some d=>
   rw[hd]at h
   simp only[Option.bind_some]at h ⊢
   cases he:E.get d with
   |none=>rw[he]at h;simp at h
   |some v=>
    rw[he]at h
    have hv:=hs.get d v he
    have hget:∀w,w≠undef→a.tmps.getD d undef=w→a.tmps[d]? = some w:=by
     intro w hw hh
     rw[Array.getD_eq_getD_getElem?]at hh
     cases h3:a.tmps[d]? with
     |none=>rw[h3]at hh;exact absurd hh.symm hw
     |some x=>rw[h3]at hh;simp at hh;rw[hh]
    generalize hw:a.tmps.getD d undef=w at hv
    cases hv with
    |bool c=>
     simp at h;subst h
     rw[hget _ (by simp[undef]) hw]
     cases c<;>cases want<;>rfl
    |tuple hc=>
     simp at h;subst h
     cases h3:a.tmps[d]? with
     |none=>rfl
     |some x=>
      rw[Array.getD_eq_getD_getElem?,h3]at hw
      simp at hw;subst hw;rfl
    | _=>simp at h
def A9f(P:PT)(base:Nat→Prop)(call:Asq):Prop :=
 ∀(g:FuncId) (vs vs':List Value) (ρ:Ren) (H:CH) (W:World),HR base ρ H W→VRs ρ vs vs'→∀(v:Value) (H':CH),call g vs H=some (v,H')→
  (∃fn,P.P.funcs[g]? = some fn∧fn.body.isSome∧(fn.name == "runtime.NumGoroutine")=false)∧
  Calls P g ⟨vs'⟩ W fun e W'=>∃v' ρ',e = .returned v'∧ρ.le ρ'∧HR base ρ' H' W'∧Ext base W W'∧VR ρ' v v'
theorem C1q{ev:Operand→Option Value}{f:Operand→Value}(h:∀x v,ev x=some v→VR ρ v (f x)){o:Oper}{g:FuncId}{vs:List Value}(e:A2f P ev o=some (g,vs)) :
  ∃vs',VRs ρ vs vs'∧∀fn,P.P.funcs[g]? = some fn→fn.body.isSome→(fn.name == "runtime.NumGoroutine")=false→∀W,(execOp f o).run P W = .ok (.enter g ⟨vs'⟩) W:=by
 unfold A2f at e
 split at e
 ·rename_i recv name args ats ho
  split at e
  case h_2=>cases e
  rename_i v ws hv hw
  have hv:=h _ _ hv
  generalize hfx:f recv=fx at hv
  unfold Cz7 at e
  cases hv with
  |iface t hvw=>
   rename_i w w'
   simp only at e
   cases hst:Adq w with
   |false=>rw[hst]at e;cases e
   |true=>
   rw[hst]at e
   simp only at e
   cases hr0:run0 P.P (method (P.P.types.size+Made.depth) t w name) with
   |none=>rw[hr0]at e;cases e
   |some q=>
   obtain⟨g',r⟩:=q
   rw[hr0]at e
   simp only at e
   cases hsr:Adq r with
   |false=>rw[hsr]at e;cases e
   |true=>
   rw[hsr]at e
   cases e
   have:=VR.still_eq hvw hst
   subst this
   have h3:=Bb9 h hw
   refine⟨r::args.toList.map f,.cons (VR.of_still hsr) h3,fun fn hfn hb hnm W=>?_⟩
   have e2:(⟨r::args.toList.map f⟩:Array Value) = #[r]++args.map f:=by apply Array.ext';simp
   rw[e2]
   have hbn:¬fn.body=none:=by cases hq:fn.body<;>simp_all
   have hnm:¬fn.name = "runtime.NumGoroutine" := by simpa using hnm
   have hcf:(callFunc g (#[r]++args.map f)).run P W = .ok (.enter g (#[r]++args.map f)) W:=by
    simp[callFunc,program,Sem.run,hfn,hnm,hbn]
   have hm:=A2g hr0 W
   have h0:(#[Value.iface t w']++args.map f)[0]? = some (Value.iface t w'):=by
    rw[Array.getElem?_append_left (show 0<(#[Value.iface t w']:Array Value).size from Nat.zero_lt_one)];rfl
   have h1:(#[Value.iface t w']++args.map f).extract 1 (#[Value.iface t w']++args.map f).size=args.map f:=by
    apply Array.ext'
    simp
    rw[List.take_of_length_le (by simp)]
   have hcm:(callMethod (.iface t w') name (args.map f)).run P W = .ok (.enter g (#[r]++args.map f)) W:=by
    rw[←hcf]
    simp only[callMethod,program,Sem.run_bind,Sem.run,Result.andThen_ok,hm]
   rw[←hcm]
   simp only[execOp,ho,resolve,hfx,invoke,Sem.run_bind,Sem.run_pure,Result.andThen_ok,h0,h1]
  | _=>cases e
 case h_3=>cases e
 rename_i fo args ats ho
 split at e
 case h_2=>cases e
 rename_i g' first captured ws hf hw
 cases e
 have hv:=h _ _ hf
 generalize hfx:f fo=fx at hv
 cases hv with
 |func _ h1 h2=>
  rename_i f' c'
  have h3:=Bb9 h hw
  refine⟨f'.toList++args.toList.map f++c'.toList,(h1.app h3).app h2,fun fn hfn hb hnm W=>?_⟩
  have e2:(⟨f'.toList++args.toList.map f++c'.toList⟩:Array Value)=f'++args.map f++c':=by apply Array.ext';simp
  rw[e2]
  have hbn:¬fn.body=none:=by cases hq:fn.body<;>simp_all
  have hnm:¬fn.name = "runtime.NumGoroutine" := by simpa using hnm
  have:(callFunc g (f'++args.map f++c')).run P W = .ok (.enter g (f'++args.map f++c')) W:=by
   simp[callFunc,program,Sem.run,hfn,hnm,hbn]
  rw[←this]
  simp only[execOp,ho,resolve,hfx,Deferred.ofValue,invoke,Sem.run_bind,Sem.run_pure,Result.andThen_ok]
theorem Cpz{call:Asq}(hcall:A9f P base call){n:Nat}{ops:Array Oper}{o:Oper}{E:Env}{v:Value}{H H':CH}{W:World}{a:Act}(hr:HR base ρ H W)(hs:SR n ρ E a)(e:Awt P call ops o E H=some (v,H')){next:Act→World→Prop}{Q:Exit→Act→World→Prop}(hnext:∀ρ' v' W',ρ.le ρ'→HR base ρ' H' W'→VR ρ' v v'→Ext base W W'→next (a.put o.dst v') W') :
  if Region.wanted o (yielded ops a.tmps) then o.wp P a W next Q else next (a.put o.dst undef) W:=by
 unfold Awt at e
 cases hw:Bpj ops o E with
 |none=>simp only[hw]at e;cases e
 |some wb=>
 simp only[hw]at e
 cases wb with
 |false=>
  rw[Ci4 hs hw]
  obtain⟨rfl,rfl⟩:=Abt e
  exact hnext ρ _ W (.refl _) hr (.tuple .nil) (.refl _ _)
 |true=>
  rw[Ci4 hs hw]
  simp only[if_true]
  cases hc:A2f P (Biu E) o with
  |some gv=>
   obtain⟨g,vs⟩:=gv
   simp only[hc]at e
   obtain⟨vs',hvs,hrun⟩:=C1q (P:=P) (Bp4 hs) hc
   obtain⟨⟨fn,g1,g2,g3⟩,hC⟩:=hcall g vs vs' ρ H W hr hvs v _ e
   unfold Oper.wp
   rw[hrun fn g1 g2 g3 W,Oper.upon_enter]
   refine hC.mono fun ee W' ⟨v',ρ',he,hle,hr',hx,hv⟩=>?_
   subst he
   exact hnext ρ' _ W' hle hr' hv hx
  |none=>
   simp only[hc]at e
   obtain⟨r,H1,e1,f1⟩:=bind_some e
   obtain⟨rfl,rfl⟩:=Abt f1
   obtain⟨ρ',nx,W',hle,hrun,hr',hx,hn⟩:=Dcj (P:=P) (base:=base) (Bp4 hs) o H W hr r _ e1
   unfold Oper.wp
   rw[hrun]
   cases r with
   |some v=>
    obtain⟨v',rfl,hv⟩:=hn
    rw[Oper.upon_value]
    exact hnext ρ' _ W' hle hr' hv hx
   |none=>
    have hn:nx = .skip:=hn
    subst hn
    rw[Oper.upon_skip]
    exact hnext ρ' _ W' hle hr' (.tuple .nil) hx
theorem C7m{call:Asq}(hcall:A9f P base call){n:Nat}{ops:Array Oper}{o:Oper}{E E':Env}{H H':CH}{W:World}{a:Act}(hr:HR base ρ H W)(hs:SR n ρ E a)(e:C82 P call n ops o E H=some (E',H')){next:Act→World→Prop}{Q:Exit→Act→World→Prop}(hnext:∀ρ' a' W',ρ.le ρ'→HR base ρ' H' W'→SR n ρ' E' a'→Ext base W W'→next a' W') :
  if Region.wanted o (yielded ops a.tmps) then o.wp P a W next Q else next (a.put o.dst undef) W:=by
 obtain⟨v,H1,e1,f1⟩:=bind_some e
 obtain⟨rfl,Aht⟩:=C1p f1
 exact Cpz hcall hr hs e1 fun ρ' v' W' hle hr' hv hx=>hnext ρ' _ W' hle hr' (Aht (hs.mono hle) hv) hx
theorem Cl2{call:Asq}(hcall:A9f P base call){n:Nat}{ops:Array Oper}{Q:Exit→Act→World→Prop}:∀(l:List Nat) {ρ:Ren} {E E':Env} {H H':CH} {W:World} {a:Act},HR base ρ H W→SR n ρ E a→Cul P call n ops l E H=some (E',H')→
  (∀ρ' a' W',ρ.le ρ'→HR base ρ' H' W'→SR n ρ' E' a'→Ext base W W'→Q .normal a' W')→wpOps P ops Q l a W
 |[],ρ,E,E',H,H',W,a,hr,hs,e,hQ=>by
  obtain⟨rfl,rfl⟩:=Abt e
  exact hQ ρ a W (.refl _) hr hs (.refl _ _)
 |i::l,ρ,E,E',H,H',W,a,hr,hs,e,hQ=>by
  simp only[Cul]at e
  unfold wpOps
  cases ho:ops[i]? with
  |none=>
   rw[ho]at e
   simp only
   exact Cl2 hcall l hr hs e hQ
  |some o=>
   rw[ho]at e
   simp only
   obtain⟨E1,H1,e1,f1⟩:=bind_some e
   have:=C7m (Q:=Q) (next:=wpOps P ops Q l) hcall hr hs e1 fun ρ1 a1 W1 hle hr1 hs1 hx1=>
    Cl2 hcall l hr1 hs1 f1 fun ρ2 a2 W2 hle2 hr2 hs2 hx2=>hQ ρ2 a2 W2 (hle.trans hle2) hr2 hs2 (hx1.trans hx2)
   split at this
   ·rename_i hw;rw[if_pos hw];exact .inl this
   ·rename_i hw;rw[if_neg hw];exact this
end
end
end Go.CE
namespace Go.CE
noncomputable section
theorem Dej{J:Nat→Prop}:∀k,J k→∃m,J m∧∀j,j<m→¬J j:=by
 intro k
 induction k using Nat.strongRecOn with
 | _ k ih=>
  intro hk
  by_cases h:∃j,j<k∧J j
  ·obtain⟨j,h1,h2⟩:=h;exact ih j h1 h2
  ·exact⟨k,hk,fun j hj hJ=>h ⟨j,hj,hJ⟩⟩
open Classical in
theorem Cx7{P:Program}{c:Code}{Q:Exit→Act→World→Prop}(J:Nat→Act→World→Prop)(round:∀k a w,J k a w→c.wp P (Exit.then (fun a' w'=>∃k',k'<k∧J k' a' w') Q) a w){k:Nat}{a:Act}{w:World}(h:J k a w):(Code.loop c).wp P Q a w:=by
 have ex:∀a w,(∃k,J k a w)→∃m,J m a w∧∀j,j<m→¬J j a w:=fun a w ⟨k,hk⟩=>Dej (J:=fun k=>J k a w) k hk
 let μ:Act→World→Nat:=fun a w=>if h:∃k,J k a w then Classical.choose (ex a w h) else 0
 refine wp_loop (fun a w=>∃k,J k a w) μ ⟨k,h⟩ fun a w hI=>?_
 have h1:=Classical.choose_spec (ex a w hI)
 have hμ:μ a w=Classical.choose (ex a w hI):=dif_pos hI
 refine wp_mono (round _ a w h1.1) fun e a' w' hq=>?_
 cases e with
 |normal=>
  obtain⟨k',hk,hJ⟩:=hq
  have hI':∃k,J k a' w':=⟨k',hJ⟩
  refine⟨hI',?_⟩
  have h2:=Classical.choose_spec (ex a' w' hI')
  have hμ':μ a' w'=Classical.choose (ex a' w' hI'):=dif_pos hI'
  rw[hμ,hμ']
  rcases Nat.lt_or_ge k' (Classical.choose (ex a' w' hI')) with h3|h3
  ·exact absurd hJ (h2.2 k' h3)
  ·omega
 | _=>exact hq
section
variable {P:PT} {base:Nat→Prop} {α β γ δ:Type}
def Cum(P:PT)(base:Nat→Prop)(n:Nat)(draw:Csr):Prop :=
 ∀(id:Nat) (ops:Array Oper) (ρ:Ren) (E E':Env) (H H':CH) (W:World) (a:Act),HR base ρ H W→SR n ρ E a→draw ops E H=some (E',H')→∀Q:Exit→Act→World→Prop,
  (∀ρ' a' W',ρ.le ρ'→HR base ρ' H' W'→SR n ρ' E' a'→Ext base W W'→Q .normal a' W')→(Code.region id ops true).wp P Q a W
theorem C4v{n:Nat}{c:Code}{body:Env→CM (CEx×Env)}(hb:∀{ρ:Ren} {E E':Env} {H H':CH} {W:World} {a:Act} {ex:CEx},HR base ρ H W→SR n ρ E a→body E H=some ((ex,E'),H')→∀Q:Exit→Act→World→Prop,
   (∀ρ' a' W',ρ.le ρ'→HR base ρ' H' W'→SR n ρ' E' a'→Ext base W W'→Q ex.to a' W')→c.wp P Q a W){k:Nat}{ρ:Ren}{E E':Env}{H H':CH}{W:World}{a:Act}{ex:CEx}(hr:HR base ρ H W)(hs:SR n ρ E a)(e:Ci3 body k E H=some ((ex,E'),H'))(Q:Exit→Act→World→Prop)(hQ:∀ρ' a' W',ρ.le ρ'→HR base ρ' H' W'→SR n ρ' E' a'→Ext base W W'→Q ex.to a' W'):(Code.loop c).wp P Q a W:=by
 refine Cx7 (fun k a1 W1=>∃ρ1 E1 H1,ρ.le ρ1∧HR base ρ1 H1 W1∧SR n ρ1 E1 a1∧Ext base W W1∧Ci3 body k E1 H1=some ((ex,E'),H')) ?_ (k:=k) ⟨ρ,E,H,.refl _,hr,hs,.refl _ _,e⟩
 rintro k a1 W1 ⟨ρ1,E1,H1,hle,hr1,hs1,hx1,e1⟩
 cases k with
 |zero=>cases e1
 |succ k=>
  obtain⟨⟨ex2,E2⟩,H2,e2,f2⟩:=bind_some e1
  refine hb hr1 hs1 e2 _ fun ρ2 a2 W2 hle2 hr2 hs2 hx2=>?_
  cases ex2 with
  |normal=>exact⟨k,Nat.lt_succ_self _,ρ2,E2,H2,hle.trans hle2,hr2,hs2,hx1.trans hx2,f2⟩
  |exit id=>
   obtain⟨q,rfl⟩:=Abt f2
   cases q
   exact hQ ρ2 a2 W2 (hle.trans hle2) hr2 hs2 (hx1.trans hx2)
  |ret=>
   obtain⟨q,rfl⟩:=Abt f2
   cases q
   exact hQ ρ2 a2 W2 (hle.trans hle2) hr2 hs2 (hx1.trans hx2)
theorem C7n{call:Asq}(hcall:A9f P base call){draw:Csr}{n fuel:Nat}(hdraw:Cum P base n draw):∀(c:Code) {ρ:Ren} {E E':Env} {H H':CH} {W:World} {a:Act} {ex:CEx},HR base ρ H W→SR n ρ E a→
  A3h P call draw n fuel c E H=some ((ex,E'),H')→∀Q:Exit→Act→World→Prop,(∀ρ' a' W',ρ.le ρ'→HR base ρ' H' W'→SR n ρ' E' a'→Ext base W W'→Q ex.to a' W')→c.wp P Q a W:=by
 intro c
 induction c with
 |skip=>
  intro ρ E E' H H' W a ex hr hs e Q hQ
  obtain⟨q,rfl⟩:=Abt e
  cases q
  exact wp_skip (hQ ρ a W (.refl _) hr hs (.refl _ _))
 |label l=>
  intro ρ E E' H H' W a ex hr hs e Q hQ
  obtain⟨q,rfl⟩:=Abt e
  cases q
  exact wp_label (hQ ρ a W (.refl _) hr hs (.refl _ _))
 |region id ops d=>
  intro ρ E E' H H' W a ex hr hs e Q hQ
  cases d with
  |false=>
   obtain⟨E1,H1,e1,f1⟩:=bind_some e
   obtain⟨q,rfl⟩:=Abt f1
   cases q
   exact wp_region (Cl2 hcall _ hr hs e1 hQ)
  |true=>
   obtain⟨E1,H1,e1,f1⟩:=bind_some e
   obtain⟨q,rfl⟩:=Abt f1
   cases q
   exact hdraw id ops ρ E _ H _ W a hr hs e1 Q hQ
 |seq x y ihx ihy=>
  intro ρ E E' H H' W a ex hr hs e Q hQ
  obtain⟨⟨ex1,E1⟩,H1,e1,f1⟩:=bind_some e
  refine wp_seq (ihx hr hs e1 _ fun ρ1 a1 W1 hle hr1 hs1 hx1=>?_)
  cases ex1 with
  |normal=>exact ihy hr1 hs1 f1 Q fun ρ2 a2 W2 hle2 hr2 hs2 hx2=>hQ ρ2 a2 W2 (hle.trans hle2) hr2 hs2 (hx1.trans hx2)
  |exit id=>
   obtain⟨q,rfl⟩:=Abt f1
   cases q
   exact hQ ρ1 a1 W1 hle hr1 hs1 hx1
  |ret=>
   obtain⟨q,rfl⟩:=Abt f1
   cases q
   exact hQ ρ1 a1 W1 hle hr1 hs1 hx1
 |cond x y z ihy ihz=>
  intro ρ E E' H H' W a ex hr hs e Q hQ
  cases hx:Biu E x with
  |none=>simp only[A3h,hx]at e;cases e
  |some v=>
   have hv:=Bp4 hs _ _ hx
   generalize hw:a.eval x=w at hv
   cases hv with
   |bool b=>
    cases b with
    |true=>simp only[A3h,hx]at e;exact wp_cond_true hw (ihy hr hs e Q hQ)
    |false=>simp only[A3h,hx]at e;exact wp_cond_false hw (ihz hr hs e Q hQ)
   | _=>simp only[A3h,hx]at e;cases e
 |block id x ih=>
  intro ρ E E' H H' W a ex hr hs e Q hQ
  obtain⟨⟨ex1,E1⟩,H1,e1,f1⟩:=bind_some e
  refine wp_block (ih hr hs e1 _ fun ρ1 a1 W1 hle hr1 hs1 hx1=>?_)
  cases ex1 with
  |normal=>
   obtain⟨q,rfl⟩:=Abt f1
   cases q
   exact hQ ρ1 a1 W1 hle hr1 hs1 hx1
  |exit j=>
   show Exit.inBlock id Q (.exit j) a1 W1
   simp only[Exit.inBlock]
   cases hj:Nat.beq j id with
   |true=>
    simp only[hj]at f1
    obtain⟨q,rfl⟩:=Abt f1
    cases q
    rw[if_pos (Nat.eq_of_beq_eq_true hj)]
    exact hQ ρ1 a1 W1 hle hr1 hs1 hx1
   |false=>
    simp only[hj]at f1
    obtain⟨q,rfl⟩:=Abt f1
    cases q
    rw[if_neg (fun e=>by rw[e]at hj;simp at hj)]
    exact hQ ρ1 a1 W1 hle hr1 hs1 hx1
  |ret=>
   obtain⟨q,rfl⟩:=Abt f1
   cases q
   exact hQ ρ1 a1 W1 hle hr1 hs1 hx1
 |loop x ih=>
  intro ρ E E' H H' W a ex hr hs e Q hQ
  exact C4v (body:=A3h P call draw n fuel x) (fun hr hs e Q hQ=>ih hr hs e Q hQ) hr hs e Q hQ
 |scope x ih=>
  intro ρ E E' H H' W a ex hr hs e Q hQ
  refine wp_scope_straight (ih hr hs e _ fun ρ1 a1 W1 hle hr1 hs1 hx1=>?_)
  have:=hQ ρ1 a1 W1 hle hr1 hs1 hx1
  cases ex<;>exact this
 |exit j=>
  intro ρ E E' H H' W a ex hr hs e Q hQ
  obtain⟨q,rfl⟩:=Abt e
  cases q
  exact wp_exit (hQ ρ a W (.refl _) hr hs (.refl _ _))
 |ret=>
  intro ρ E E' H H' W a ex hr hs e Q hQ
  obtain⟨q,rfl⟩:=Abt e
  cases q
  exact wp_ret (hQ ρ a W (.refl _) hr hs (.refl _ _))
 | _=>intro ρ E E' H H' W a ex hr hs e;cases e
end
end
end Go.CE
namespace Go.CE
noncomputable section
def Bp5(P:PT)(E:Env):List ResultVar→CM (List Value)
 |[]=>CM.ret []
 | .tmp t::l=>do
  let v ←CM.opt (E.get t)
  let r ←Bp5 P E l
  CM.ret (v::r)
 | .cell t T::l=>do
  let p ←CM.opt (E.get t)
  let v ←Bxr P T p
  let r ←Bp5 P E l
  CM.ret (v::r)
def Ci5:List Value→Value
 |[v]=>v
 |l=>.tuple ⟨l⟩
abbrev Ci6:=FuncId→Option (List Value→CM Value)
abbrev Css:=Asq→Nat→Csr
def Cl3(P:PT)(sp:Ci6)(dg:Css)(F:Nat):Nat→Asq
 |0,_,_=>CM.fail
 |k+1,f,args=>match sp f with
  |some g=>g args
  |none=>match P.fns.get f with
   |some fn=>match fn.body,fn.name == "runtime.NumGoroutine",Nat.ble args.length fn.ntmps,Nat.blt args.length BIG with
    |some c,false,true,true=>do
     let r ←A3h P (Cl3 P sp dg F k) (dg (Cl3 P sp dg F k) fn.ntmps) fn.ntmps F c (Aov args 0 .e)
     match r.1 with
     | .exit _=>CM.fail
     | _=>do
      let vs ←Bp5 P r.2 fn.results.toList
      CM.ret (Ci5 vs)
    | _,_,_,_=>CM.fail
   |none=>CM.fail
section
variable {P:PT} {base:Nat→Prop} {ρ:Ren}
theorem C1r{H H':CH}{W:World}(hr:HR base ρ H W){t:TypeId}{x x' v:Value}(h:VR ρ x x')(e:Bxr P t x H=some (v,H')) :
  H'=H∧∃v',VR ρ v v'∧(do loadVar t (←asAddr x'):Sem Value).run P W = .ok v' W:=by
 cases h with
 |ptr hA=>
  rename_i ad ad'
  have e:Bav P t ad H=some (v,H'):=e
  unfold Bav at e
  obtain⟨b,H1,e1,f1⟩:=bind_some e
  obtain⟨hb,rfl⟩:=Ahv e1
  cases b with
  |false=>
   obtain⟨h1,v',h2,h3⟩:=Cpx (P:=P) hr hA f1
   refine⟨h1,v',h2,?_⟩
   simp only[asAddr,Sem.run_bind,Sem.run_pure,Result.andThen_ok,loadVar,Bp2 hb,Bool.false_eq_true,if_false]
   exact h3
  |true=>
   obtain⟨n,H2,e2,f2⟩:=bind_some f1
   obtain⟨hn,rfl⟩:=Ahv e2
   obtain⟨l,H3,e3,f3⟩:=bind_some f2
   obtain⟨rfl,rfl⟩:=Abt f3
   obtain⟨h1,l',h2,h3⟩:=Bc0 (P:=P) hr hA n 0 #[] e3
   refine⟨h1,.agg l'.toArray,.agg (by simpa using h2),?_⟩
   have h3:(loadCells ad' n).run P W = .ok l'.toArray W:=by simpa [loadCells]using h3
   simp[asAddr,loadVar,Bp2 hb,Aey hn,h3]
 | _=>cases e
theorem Bc1{n:Nat}{E:Env}{a:Act}{H:CH}{W:World}(hr:HR base ρ H W)(hs:SR n ρ E a){F:ResultVar→Sem Value}(hF1:∀t,F (.tmp t)=pure (a.tmps.getD t undef))(hF2:∀p t,F (.cell p t)=do loadVar t (←asAddr (a.tmps.getD p undef))):∀{rs:List ResultVar} {vs:List Value} {H':CH},Bp5 P E rs H=some (vs,H')→
  H'=H∧∃vs',VRs ρ vs vs'∧(rs.mapM F).run P W = .ok vs' W
 |[],vs,H',e=>by
  obtain⟨rfl,rfl⟩:=Abt e
  exact⟨rfl,[],.nil,rfl⟩
 | .tmp t::rs,vs,H',e=>by
  obtain⟨v,H1,e1,f1⟩:=bind_some e
  obtain⟨hv,rfl⟩:=Ahv e1
  obtain⟨r,H2,e2,f2⟩:=bind_some f1
  obtain⟨rfl,rfl⟩:=Abt f2
  obtain⟨rfl,vs',h1,h2⟩:=Bc1 hr hs hF1 hF2 e2
  refine⟨rfl,_::vs',.cons (hs.get t v hv) h1,?_⟩
  rw[List.mapM_cons,hF1]
  simp only[Sem.run_bind,Sem.run_pure,Result.andThen_ok,h2]
 | .cell p t::rs,vs,H',e=>by
  obtain⟨v,H1,e1,f1⟩:=bind_some e
  obtain⟨hv,rfl⟩:=Ahv e1
  obtain⟨w,H3,e3,f3⟩:=bind_some f1
  obtain⟨rfl,w',hw,hrun⟩:=C1r hr (hs.get p v hv) e3
  obtain⟨r,H2,e2,f2⟩:=bind_some f3
  obtain⟨rfl,rfl⟩:=Abt f2
  obtain⟨rfl,vs',h1,h2⟩:=Bc1 hr hs hF1 hF2 e2
  refine⟨rfl,w'::vs',.cons hw h1,?_⟩
  rw[List.mapM_cons,hF2]
  simp only[Sem.run_bind]at hrun ⊢
  rw[hrun]
  simp only[Sem.run_pure,Result.andThen_ok,h2]
theorem Cp0:∀(l:List Value) (i:Nat) (t:T Value) (k:Nat),i+l.length≤k→(Aov l i t).get k=t.get k
 |[],_,_,_,_=>rfl
 |v::l,i,t,k,h=>by
  simp only[Aov]
  simp at h
  rw[Cp0 l (i+1) _ k (by omega),T.get_set_ne _ _ _ _ _ (by omega)]
theorem C7o{n:Nat}{args args':List Value}(h:VRs ρ args args')(hn:args.length≤n)(hb:args.length<BIG):SR n ρ (Aov args 0 .e) {tmps:=(⟨args'⟩:Array Value)++Array.replicate (n-(⟨args'⟩:Array Value).size) undef,defers:=[]}:=by
 have hl:=h.length
 refine⟨by simp;omega,fun d v hd=>?_,rfl⟩
 rcases Nat.lt_or_ge d args.length with hlt|hge
 ·have hg:args[d]? = some args[d]:=by simp[hlt]
  have:=A7b args 0 .e d _ (by omega) hg
  rw[Nat.zero_add]at this
  rw[this]at hd;cases hd
  obtain⟨v',h1,h2⟩:=h.get d _ hg
  have:((⟨args'⟩:Array Value)++Array.replicate (n-(⟨args'⟩:Array Value).size) undef).getD d undef=v':=by
   rw[Array.getD_eq_getD_getElem?,Array.getElem?_append_left (by simp;omega)]
   simp[h1]
  show VR ρ _ (Array.getD _ d undef)
  rw[this];exact h2
 ·rw[Cp0 args 0 .e d (by omega),T.get_e]at hd;cases hd
theorem C4w{vs vs':List Value}(h:VRs ρ vs vs'):VR ρ (Ci5 vs) (if h:(⟨vs'⟩:Array Value).size=1 then (⟨vs'⟩:Array Value)[0] else .tuple ⟨vs'⟩):=by
 cases h with
 |nil=>exact .tuple .nil
 |cons h1 h=>cases h with
  |nil=>simpa [Ci5]using h1
  |cons h2 h=>
   rw[dif_neg (by simp)]
   exact .tuple (.cons h1 (.cons h2 h))
def C1s(P:PT)(base:Nat→Prop)(sp:Ci6):Prop:=∀f g,sp f=some g→A9f P base (fun f' args=>if f'=f then g args else CM.fail)
theorem C0b{sp:Ci6}{dg:Css}{F:Nat}(hsp:∀base,C1s P base sp)(hdg:∀call n,(∀base,A9f P base call)→∀base,Cum P base n (dg call n)):∀k base,A9f P base (Cl3 P sp dg F k)
 |0,base=>by intro g vs vs' ρ H W _ _ v H' e;cases e
 |k+1,base=>by
  intro f args args' ρ H W hr hv v H' e
  simp only[Cl3]at e
  cases hspf:sp f with
  |some g=>
   rw[hspf]at e
   exact hsp base f g hspf f args args' ρ H W hr hv v H' (by simpa using e)
  |none=>
   rw[hspf]at e
   simp only at e
   cases hf0:P.fns.get f with
   |none=>rw[hf0]at e;cases e
   |some fn=>
    have hf:=P.okF _ _ hf0
    rw[hf0]at e
    simp only at e
    cases hb:fn.body with
    |none=>simp only[hb]at e;cases e
    |some c=>
    cases hnm:fn.name == "runtime.NumGoroutine" with
    |true=>simp only[hb,hnm]at e;cases e
    |false=>
    cases hle:Nat.ble args.length fn.ntmps with
    |false=>simp only[hb,hnm,hle]at e;cases e
    |true=>
    cases hbg:Nat.blt args.length BIG with
    |false=>simp only[hb,hnm,hle,hbg]at e;cases e
    |true=>
    simp only[hb,hnm,hle,hbg]at e
    have hle:=Nat.le_of_ble_eq_true hle
    have hbg:args.length<BIG:=by simpa [Nat.blt_eq]using hbg
    refine⟨⟨fn,hf,by simp[hb],hnm⟩,?_⟩
    obtain⟨⟨ex,E1⟩,H1,e1,f1⟩:=bind_some e
    have hcallA:=C0b (F:=F) hsp hdg k
    have hcall:=hcallA base
    have hs0:=C7o hv hle hbg
    refine calls_of_wp hf hb (C7n hcall (hdg _ _ hcallA base) c hr hs0 e1 _ fun ρ1 a1 W1 hle1 hr1 hs1 hx1=>?_)
    have fin:∀{vs:List Value},(do
      let vs ←Bp5 P E1 fn.results.toList
      CM.ret (Ci5 vs):CM Value) H1=some (v,H')→a1.defers=[]∧∃w,(results fn a1.tmps).run P W1 = .ok w W1∧∃v' ρ',Ending.returned w = .returned v'∧ρ.le ρ'∧HR base ρ' H' W1∧Ext base W W1∧VR ρ' v v':=by
     intro _ f2
     obtain⟨vs,H2,e2,f3⟩:=bind_some f2
     obtain⟨rfl,rfl⟩:=Abt f3
     have key:∀F:ResultVar→Sem Value,(∀t,F (.tmp t)=pure (a1.tmps.getD t undef))→(∀p t,F (.cell p t)=do loadVar t (←asAddr (a1.tmps.getD p undef)))→∃vs',VRs ρ1 vs vs'∧(fn.results.toList.mapM F).run P W1 = .ok vs' W1 :=
      fun F h1 h2=>(Bc1 (P:=P) hr1 hs1 h1 h2 e2).2
     have hH:H'=H1:=(Bc1 (P:=P) hr1 hs1 (F:=fun | .tmp t=>pure (a1.tmps.getD t undef) | .cell p t=>do loadVar t (←asAddr (a1.tmps.getD p undef))) (fun _=>rfl) (fun _ _=>rfl) e2).1
     subst hH
     have hres:∃vs',VRs ρ1 vs vs'∧(results fn a1.tmps).run P W1 = .ok (if h:(⟨vs'⟩:Array Value).size=1 then (⟨vs'⟩:Array Value)[0] else .tuple ⟨vs'⟩) W1:=by
      unfold results
      rw[←Array.toArray_toList (xs:=fn.results),List.mapM_toArray]
      simp only[Sem.run_bind,Sem.run_map]
      obtain⟨vs',h1,h2⟩:=key (fun | .tmp t=>pure (a1.tmps.getD t undef) | .cell p t=>do loadVar t (←asAddr (a1.tmps.getD p undef))) (fun _=>rfl) (fun _ _=>rfl)
      refine⟨vs',h1,?_⟩
      exact congrArg (fun r:Result (List Value)=>(r.andThen fun a w'=>Result.ok a.toArray w').andThen fun a w'=>Sem.run P (pure (if h:a.size=1 then a[0] else Value.tuple a)) w') h2
     obtain⟨vs',h1,h2⟩:=hres
     exact⟨hs1.defers,_,h2,_,ρ1,rfl,hle1,hr1,hx1,C4w h1⟩
    cases ex with
    |exit j=>cases f1
    |normal=>exact fin (vs:=[]) f1
    |ret=>exact fin (vs:=[]) f1
end
end
end Go.CE
namespace Go.CE
noncomputable section
mutual
def veq:Value→Value→Bool
 | .bool a,.bool b=>a==b
 | .int j a,.int k b=>decide (j=k)&&decide (a=b)
 | .string a,.string b=>decide (a.data=b.data)
 | .pointer a,.pointer b=>decide (a=b)
 | .slice a l c,.slice b m d=>decide (a=b)&&Nat.beq l m&&Nat.beq c d
 | .map a,.map b=>decide (a=b)
 | .nilFunc,.nilFunc=>true
 | .nilIface,.nilIface=>true
 | .complex j a b,.complex k c d=>decide (j=k)&&(Nat.beq a c&&Nat.beq b d)
 | .iface t v,.iface u w=>Nat.beq t u&&veq v w
 | .agg ⟨a⟩,.agg ⟨b⟩=>Cft a b
 | .tuple ⟨a⟩,.tuple ⟨b⟩=>Cft a b
 | .func f ⟨a⟩ ⟨b⟩,.func g ⟨c⟩ ⟨d⟩=>decide (f=g)&&Cft a c&&Cft b d
 | _,_=>false
def Cft:List Value→List Value→Bool
 |[],[]=>true
 |a::l,b::m=>veq a b&&Cft l m
 | _,_=>false
end
mutual
theorem Ci7:∀{a b:Value},veq a b=true→a=b
 | .bool a,.bool b,h=>by simp[veq]at h;rw[h]
 | .int j a,.int k b,h=>by simp[veq]at h;rw[h.1,h.2]
 | .string a,.string b,h=>by cases a;cases b;simp[veq]at h;rw[h]
 | .pointer a,.pointer b,h=>by simp[veq]at h;rw[h]
 | .slice a l c,.slice b m d,h=>by
  simp only[veq,Bool.and_eq_true,decide_eq_true_eq]at h
  rw[h.1.1,Nat.eq_of_beq_eq_true h.1.2,Nat.eq_of_beq_eq_true h.2]
 | .map a,.map b,h=>by simp[veq]at h;rw[h]
 | .nilFunc,.nilFunc,_=>rfl
 | .nilIface,.nilIface,_=>rfl
 | .complex j a b,.complex k c d,h=>by
  simp only[veq,Bool.and_eq_true,decide_eq_true_eq]at h
  rw[h.1,Nat.eq_of_beq_eq_true h.2.1,Nat.eq_of_beq_eq_true h.2.2]
 | .iface t v,.iface u w,h=>by
  simp only[veq,Bool.and_eq_true]at h
  rw[Nat.eq_of_beq_eq_true h.1,Ci7 h.2]
 | .agg ⟨a⟩,.agg ⟨b⟩,h=>by
  have e:a=b:=Bxt (by simpa [veq]using h)
  rw[e]
 | .tuple ⟨a⟩,.tuple ⟨b⟩,h=>by
  have e:a=b:=Bxt (by simpa [veq]using h)
  rw[e]
 | .func f ⟨a⟩ ⟨b⟩,.func g ⟨c⟩ ⟨d⟩,h=>by
  simp only[veq,Bool.and_eq_true,decide_eq_true_eq]at h
  rw[h.1.1,Bxt h.1.2,Bxt h.2]
theorem Bxt:∀{a b:List Value},Cft a b=true→a=b
 |[],[],_=>rfl
 |a::l,b::m,h=>by
  simp only[Cft,Bool.and_eq_true]at h
  rw[Ci7 h.1,Bxt h.2]
end
def Ais{α:Type}(c:CM α):Prop:=∀H a H',c H=some (a,H')→H'=H
theorem Ais.ret{α:Type}{a:α}:Ais (CM.ret a):=fun _ _ _ e=>(Abt e).2
theorem Ais.fail{α:Type}:Ais (CM.fail:CM α):=fun _ _ _ e=>by cases e
theorem Ais.opt{α:Type}{o:Option α}:Ais (CM.opt o):=fun _ _ _ e=>(Ahv e).2
theorem Ais.bind{α β:Type}{c:CM α}{f:α→CM β}(h:Ais c)(k:∀a,Ais (f a)):Ais (c >>= f):=fun H a H' e=>by
 obtain⟨x,H1,e1,f1⟩:=bind_some e
 rw[k x _ _ _ f1,h _ _ _ e1]
theorem Ais.load{a:Addr}:Ais (A7a a):=fun H v H' e=>by
 unfold A7a at e
 split at e
 case h_2=>cases e
 split at e
 case h_2=>cases e
 cases e;rfl
theorem Ais.getMap{r:Nat}:Ais (A2e r):=fun H v H' e=>by
 unfold A2e at e
 split at e
 case h_2=>cases e
 cases e;rfl
theorem Ais.run0{P:Program}{s:Sem Value}:Ais (A96 P s):=by
 unfold A96
 split
 ·split
  ·exact .ret
  ·exact .fail
 ·exact .fail
theorem Ais.loads{a:Addr}:∀{n i:Nat},Ais (Aws a i n)
 |0,_=>.ret
 |n+1,i=>.bind .load fun _=>.bind Ais.loads fun _=>.ret
end
end Go.CE

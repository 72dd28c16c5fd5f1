/- A closed run of the model's code,proved sound: each operation is sound. -/
import Derived.Test.YtjdklngopfpjgaaGreatY1
import Derived.IntWalk
namespace Go.CE
noncomputable section
section
variable {P:PT} {base:Nat→Prop} {α β γ δ:Type} {ρ:Ren}
theorem Ciz{n:Int}(h0:0≤n)(h1:n<1000000):IntKind.i64.wrap n=n:=by
 exact IntWalk.i64_in n (by omega)
theorem Cfr{t:TypeId}{l l' c c':Value}{n m:Nat}{elem:TypeId}{cells:List Value}(hl:VR ρ l l')(hc:VR ρ c c')(h:Cbh P t l c=some (n,m,elem,cells)) :
  m<UNK∧(∀v,v∈cells→Adq v=true)∧∀W,(Instr.makeSlice t l' c').run P W=(do
   let a ←newRow elem ⟨cells⟩
   pure (Value.slice (some a) n m):Sem Value).run P W:=by
 unfold Cbh at h
 cases hu:under P t with
 |none=>rw[hu]at h;cases h
 |some u=>
 rw[hu]at h
 cases u with
 |slice elem'=>
  cases hl with
  |int k1 l=>
   cases hc with
   |int k2 c=>
    simp only at h
    cases hi:P.info.get elem' with
    |none=>rw[hi]at h;cases h
    |some i=>
    rw[hi]at h
    simp only at h
    split at h
    case h_2=>cases h
    rename_i h1 h2 h3 h4
    have h1:=of_decide_eq_true h1
    have h2:=of_decide_eq_true h2
    have h3:=of_decide_eq_true h3
    have h4:=of_decide_eq_true h4
    cases hz:A3g P elem' with
    |none=>rw[hz]at h;cases h
    |some z=>
    rw[hz]at h
    simp only at h
    have hw1:IntKind.i64.wrap l=l:=Ciz h1 (by omega)
    have hw2:IntKind.i64.wrap c=c:=Ciz (by omega) h3
    have hroom:¬c.toNat*i.bytes > roomBytes:=by
     unfold roomBytes
     have:((c.toNat*i.bytes:Nat):Int)=i.bytes*c:=by
      rw[Int.natCast_mul,Int.toNat_of_nonneg (by omega),Int.mul_comm]
     omega
    have hbig:¬((i.bytes:Int)*c > 2^48):=by omega
    have hsz:∀W,(sizeOf elem').run P W = .ok i.size W:=fun W=>Aey (by unfold Akk;rw[hi];rfl) W
    have key:∀W,(Instr.makeSlice t (.int k1 l) (.int k2 c)).run P W=(do
      let a ←newRow elem' ((Array.range (c.toNat*i.size)).map ((if c.toNat*i.size=0 then #[] else z.cells:Array Value)[· % (if c.toNat*i.size=0 then #[] else z.cells:Array Value).size]!))
      pure (Value.slice (some a) l.toNat c.toNat):Sem Value).run P W:=by
     intro W
     unfold Instr.makeSlice
     simp only[Sem.run_bind,Aaq hu,Result.andThen_ok,asInt,asIntOf,Sem.run_pure,Azh hi,hw1,hw2]
     rw[if_neg (by simp;omega)]
     simp only[askRoom,hroom,if_false,Sem.run_bind,Sem.run_pure,Result.andThen_ok,hsz]
     by_cases e0:c.toNat*i.size=0
     ·simp only[e0,if_true,Sem.run_pure,Sem.run_bind,Result.andThen_ok]
     ·simp only[e0,if_false,Sem.run_pure,Sem.run_bind,Result.andThen_ok,At1 hz]
    have hcU:c.toNat<UNK:=by unfold UNK;omega
    cases eb:Nat.beq (c.toNat*i.size) 0 with
    |true=>
     rw[eb]at h
     cases h
     have e0:=Nat.eq_of_beq_eq_true eb
     have hx:∀f:Nat→Value,(Array.range 0).map f=⟨[]⟩:=fun f=>by simp
     refine⟨hcU,fun v hv=>by simp at hv,fun W=>?_⟩
     rw[key W]
     simp only[e0,if_true,hx]
    |false=>
     rw[eb]at h
     cases h
     have e0:¬c.toNat*i.size=0:=fun e=>by rw[e]at eb;cases eb
     refine⟨hcU,fun v hv=>?_,fun W=>?_⟩
     ·simp at hv
      obtain⟨k,hk,e⟩:=hv
      rw[←e]
      exact Cix (Biw (At2 hz)) _
     ·rw[key W]
      simp only[e0,if_false]
   | _=>simp at h
  | _=>simp at h
 | _=>simp at h
theorem Ci0:∀{l:List Value},(∀v,v∈l→Adq v=true)→VRs ρ l l
 |[],_=>.nil
 |v::l,h=>.cons (VR.of_still (h v (by simp))) (Ci0 fun w hw=>h w (List.mem_cons_of_mem _ hw))
theorem Cqe{t:TypeId}{l l' c c':Value}(hl:VR ρ l l')(hc:VR ρ c c'):Sim P base ρ VR (Bn8 P t l c) (Instr.makeSlice t l' c'):=by
 unfold Bn8
 split
 case h_2=>exact Sim.fail
 rename_i n m elem cells h
 obtain⟨h1,h2,h3⟩:=Cfr hl hc h
 refine Sim.run h3 ?_
 exact Sim.mapRet (Cbd (Ci0 h2)) fun ρ' a b _ h=>VR.sl h h1
inductive OR(ρ:Ren):Option Value→Option Value→Prop
 |none:OR ρ none none
 |some {v v':Value}:VR ρ v v'→OR ρ (some v) (some v')
theorem A0b{hi hi':Nat}{v v':Value}{n:Nat}(hv:VR ρ v v')(h:Bxl hi v=some n)(hh:hi≤hi')(code:BoundsCode):n≤hi∧∀W,(Instr.sliceBound v' hi' code).run P W = .ok n W:=by
 cases hv with
 |int k i=>
  simp only[Bxl]at h
  split at h
  case h_2=>cases h
  rename_i h1 h2
  have h1:=of_decide_eq_true h1
  have h2:=of_decide_eq_true h2
  cases h
  refine⟨by omega,fun W=>?_⟩
  simp only[Instr.sliceBound,asIntOf,Sem.run_bind,Sem.run_pure,Result.andThen_ok]
  rw[if_pos ⟨h1,by omega⟩]
  rfl
 | _=>simp[Bxl]at h
theorem Boa{lim lim' len:Nat}{low high max low' high' max':Option Value}{l h:Nat}{m:Option Nat}(flag:Bool)(e:Bxm lim len low high max=some (l,h,m))(hlim:lim≤lim')(hl:OR ρ low low')(hh:OR ρ high high')(hm:OR ρ max max'):(len≤lim→l≤h∧h≤m.getD lim∧m.getD lim≤lim)∧∀W,(Instr.sliceBounds flag len lim' low' high' max').run P W = .ok (l,h,m.getD lim') W:=by
 have low_ok:∀{h l:Nat},Cbf h 0 low=some l→l≤h:=by
  intro h l e
  cases hl with
  |none=>cases e;exact Nat.zero_le _
  |some hv=>exact (A0b (P:=P) hv e (Nat.le_refl _) .sliceB).1
 unfold Bxm at e
 cases hm with
 |none=>
  simp only at e
  split at e
  case h_2=>cases e
  rename_i h0 he
  split at e
  case h_2=>cases e
  rename_i l0 le
  cases e
  have a1:=low_ok le
  cases hh with
  |none=>
   cases he
   refine⟨fun hlen=>⟨a1,hlen,Nat.le_refl _⟩,fun W=>?_⟩
   simp only[Instr.sliceBounds,Sem.run_bind,Sem.run_pure,Result.andThen_ok,Option.isSome_none,Option.getD_none]
   cases hl with
   |none=>cases le;simp only[Sem.run_bind,Sem.run_pure,Result.andThen_ok]
   |some hv2=>
    have k:=fun code=>(A0b (P:=P) hv2 le (Nat.le_refl _) code).2 W
    simp only[Sem.run_bind,k,Result.andThen_ok,Sem.run_pure]
  |some hv=>
   obtain⟨b1,b2⟩:=A0b (P:=P) hv he hlim (if flag then .sliceAcap else .sliceAlen)
   refine⟨fun _=>⟨a1,b1,Nat.le_refl _⟩,fun W=>?_⟩
   simp only[Instr.sliceBounds,Sem.run_bind,Sem.run_pure,Result.andThen_ok,Option.isSome_none,Option.getD_none,b2]
   cases hl with
   |none=>cases le;simp only[Sem.run_bind,Sem.run_pure,Result.andThen_ok]
   |some hv2=>
    have k:=fun code=>(A0b (P:=P) hv2 le (Nat.le_refl _) code).2 W
    simp only[Sem.run_bind,k,Result.andThen_ok,Sem.run_pure]
 |some hv=>
  simp only at e
  split at e
  case h_2=>cases e
  rename_i m0 w hm0
  split at e
  case h_2=>cases e
  rename_i h0 he
  split at e
  case h_2=>cases e
  rename_i l0 le
  cases e
  have a1:=low_ok le
  cases hh with
  |some hw=>
   obtain⟨b1,b2⟩:=A0b (P:=P) hw he (Nat.le_refl _) .slice3B
   obtain⟨c1,c2⟩:=A0b (P:=P) hv hm0 hlim (if flag then .slice3Acap else .slice3Alen)
   refine⟨fun _=>⟨a1,b1,c1⟩,fun W=>?_⟩
   simp only[Instr.sliceBounds,Sem.run_bind,Sem.run_pure,Result.andThen_ok,Option.isSome_some,Option.getD_some,c2,b2]
   cases hl with
   |none=>cases le;simp only[Sem.run_bind,Sem.run_pure,Result.andThen_ok]
   |some hv2=>
    have k:=fun code=>(A0b (P:=P) hv2 le (Nat.le_refl _) code).2 W
    simp only[Sem.run_bind,k,Result.andThen_ok,Sem.run_pure]
theorem Cfs{ρ:Ren}{a a':Addr}(h:AR ρ a a')(c d:Nat)(n:Nat):AR ρ (match Nat.beq c d with|true=>a|false=>a.add n) (if c=d then a' else a'.add n):=by
 cases e:Nat.beq c d with
 |true=>rw[if_pos (Nat.eq_of_beq_eq_true e)];exact h
 |false=>rw[if_neg (fun e'=>by rw[e']at e;simp at e)];exact h.add n
theorem Bp3{size:Nat}{a:Option Addr}{len cap:Nat}{lo hi mx lo' hi' mx':Option Value}{v:Value}(hc:cap<UNK)(e:Bxn size a len cap lo hi mx=some v)(hl:OR ρ lo lo')(hh:OR ρ hi hi')(hm:OR ρ mx mx')(flag:Bool):∃l h m,v = .slice (match Nat.beq m l with|true=>a|false=>a.map (·.add (l*size))) (h-l) (m-l)∧m<UNK∧
   ∀W,(Instr.sliceBounds flag len cap lo' hi' mx').run P W = .ok (l,h,m) W:=by
 unfold Bxn at e
 have hb:Nat.blt cap UNK=true:=by simpa [Nat.blt_eq]using hc
 rw[hb]at e
 simp only at e
 split at e
 case h_2=>cases e
 rename_i l h m hbd
 cases e
 obtain⟨_,h2⟩:=Boa (P:=P) flag hbd (Nat.le_refl _) hl hh hm
 refine⟨l,h,m.getD cap,rfl,?_,h2⟩
 have:m.getD cap≤cap:=by
  unfold Bxm at hbd
  split at hbd
  ·rename_i w
   split at hbd
   ·rename_i m0 w2 h0
    split at hbd
    ·split at hbd
     ·cases hbd
      cases hm with
      |some hv=>exact (A0b (P:=P) hv h0 (Nat.le_refl _) .sliceB).1
     ·cases hbd
    ·cases hbd
   ·cases hbd
  ·split at hbd
   ·split at hbd
    ·cases hbd;exact Nat.le_refl _
    ·cases hbd
   ·cases hbd
 omega
theorem Cx3{t:TypeId}{x x':Value}{lo hi mx lo' hi' mx':Option Value}(hx:VR ρ x x')(hl:OR ρ lo lo')(hh:OR ρ hi hi')(hm:OR ρ mx mx') :
  Sim P base ρ VR (Bp0 P t x lo hi mx) (Instr.sliceAt t x' lo' hi' mx'):=by
 unfold Bp0
 refine Sim.opt fun u hu=>?_
 have still_O:∀{o o':Option Value},OR ρ o o'→o.all Adq=true→o'=o:=by
  intro o o' h e
  cases h with
  |none=>rfl
  |some hv=>rw[hv.still_eq (by simpa using e)]
 cases u with
 |string=>
  cases hx with
  |string s=>
   cases hs:lo.all Adq&&hi.all Adq&&mx.all Adq with
   |false=>exact Sim.fail
   |true=>
    simp only[Bool.and_eq_true]at hs
    rw[still_O hl hs.1.1,still_O hh hs.1.2,still_O hm hs.2]
    refine Sim.run (s':=Instr.slice t (.string s) lo hi mx) (fun W=>?_) A4w
    simp[Instr.sliceAt,Aaq hu]
  | _=>exact Sim.fail
 |slice elem=>
  have toSlice:∀W,(Instr.sliceAt t x' lo' hi' mx').run P W=(Instr.slice t x' lo' hi' mx').run P W:=fun W=>by simp[Instr.sliceAt,Aaq hu]
  cases hx with
  |snil len cap=>
   refine Sim.opt fun size hsz=>Sim.optRet fun v e=>?_
   have hc:cap<UNK:=by
    unfold Bxn at e
    cases hb:Nat.blt cap UNK with
    |true=>simpa [Nat.blt_eq]using hb
    |false=>rw[hb]at e;simp at e
   obtain⟨l,h,m,rfl,hmU,hb⟩:=Bp3 (P:=P) hc e hl hh hm true
   refine⟨.slice none (h-l) (m-l),?_,fun W=>?_⟩
   ·cases Nat.beq m l<;>exact .snil _ _
   ·rw[toSlice];simp[Instr.slice,Aaq hu,hb,Aey hsz]
  |sl ha hc=>
   refine Sim.opt fun size hsz=>Sim.optRet fun v e=>?_
   obtain⟨l,h,m,rfl,hmU,hb⟩:=Bp3 (P:=P) hc e hl hh hm true
   rename_i a a' len cap
   have:=Cfs ha m l (l*size)
   refine⟨.slice (some (if m=l then a' else a'.add (l*size))) (h-l) (m-l),?_,fun W=>?_⟩
   ·have e2:(match Nat.beq m l with|true=>some a|false=>(some a).map (·.add (l*size)))=some (match Nat.beq m l with|true=>a|false=>a.add (l*size)):=by cases Nat.beq m l<;>rfl
    rw[e2]
    exact .sl this (by omega)
   ·rw[toSlice];simp[Instr.slice,Aaq hu,hb,Aey hsz]
    split<;>rfl
  |slu hp ha hle hcap=>
   rename_i a a' len cap' es p
   refine Sim.opt fun size hsz=>Sim.optRet fun v e=>?_
   have hnb:Nat.blt (UNK+es) UNK=false:=by
    cases hb:Nat.blt (UNK+es) UNK with
    |false=>rfl
    |true=>simp[Nat.blt_eq]at hb;omega
   unfold Bxn at e
   rw[hnb]at e
   simp only at e
   have hA:AR ρ a a':=⟨p,hp,ha⟩
   split at e
   case h_4=>cases e
   ·rename_i h' a1 q1 q2 q3
    cases e
    cases q3
    obtain⟨k1,k2⟩:=Boa (P:=P) true q2 hle hl hh hm
    have k1:=k1 (Nat.le_refl _)
    simp only[Option.getD_none]at k1 k2
    refine⟨.slice (some a') h' cap',.slu hp ha (by omega) hcap,fun W=>?_⟩
    rw[toSlice];simp[Instr.slice,Aaq hu,k2,Aey hsz,Addr.add]
   ·rename_i l h' a1 q1 q2 q3
    cases q3
    split at e
    case h_2=>cases e
    rename_i hlt
    have hlt:l+1<len:=by simpa [Nat.blt_eq]using hlt
    cases e
    have q1:=Nat.eq_of_beq_eq_true q1
    have q1:es=size:=by omega
    subst q1
    obtain⟨k1,k2⟩:=Boa (P:=P) true q2 hle hl hh hm
    have k1:=k1 (Nat.le_refl _)
    simp only[Option.getD_none]at k1 k2
    have hadd:a'.add ((l+1)*es)=⟨p.b,(a.add ((l+1)*es)).off+p.d,(a.add ((l+1)*es)).spot⟩:=by
     obtain⟨p',hp',e'⟩:=hA.add ((l+1)*es)
     have:(a.add ((l+1)*es)).block=a.block:=by unfold Addr.add;split<;>rfl
     rw[this,hp]at hp';cases hp'
     exact e'
    refine⟨.slice (some (a'.add ((l+1)*es))) (h'-(l+1)) (cap'-(l+1)),.slu (p:=p) ?_ hadd (by omega) ?_,fun W=>?_⟩
    ·have:(a.add ((l+1)*es)).block=a.block:=by unfold Addr.add;split<;>rfl
     rw[this];exact hp
    ·have:(a'.add ((l+1)*es)).off=a'.off+(l+1)*es:=by unfold Addr.add;split<;>simp_all
     rw[this,Nat.sub_mul]
     have:(l+1)*es≤cap'*es:=Nat.mul_le_mul_right _ (by omega)
     omega
    ·rw[toSlice];simp[Instr.slice,Aaq hu,k2,Aey hsz]
     omega
   ·rename_i l h' m a1 q1 q2 q3
    cases q3
    split at e
    case h_2=>cases e
    rename_i hlt
    have hlt:m<UNK:=by simpa [Nat.blt_eq]using hlt
    cases e
    obtain⟨k1,k2⟩:=Boa (P:=P) true q2 hle hl hh hm
    simp only[Option.getD_some]at k2
    refine⟨.slice (some (if m=l then a' else a'.add (l*size))) (h'-l) (m-l),.sl (Cfs hA m l (l*size)) (by omega),fun W=>?_⟩
    rw[toSlice];simp[Instr.slice,Aaq hu,k2,Aey hsz]
    split<;>rfl
  | _=>exact Sim.fail
 |array n elem=>
  cases hx with
  |ptr ha=>
   rename_i a a'
   refine Sim.opt fun size hsz=>?_
   cases hb:Nat.blt n UNK with
   |false=>exact Sim.fail
   |true=>
    have hn:n<UNK:=by simpa [Nat.blt_eq]using hb
    refine Sim.optRet fun v e=>?_
    obtain⟨l,h,m,rfl,hmU,hb⟩:=Bp3 (P:=P) hn e hl hh hm false
    have:=Cfs ha m l (l*size)
    refine⟨.slice (some (if m=l then a' else a'.add (l*size))) (h-l) (m-l),?_,fun W=>?_⟩
    ·have e2:(match Nat.beq m l with|true=>some a|false=>(some a).map (·.add (l*size)))=some (match Nat.beq m l with|true=>a|false=>a.add (l*size)):=by cases Nat.beq m l<;>rfl
     rw[e2]
     exact .sl this (by omega)
    ·simp[Instr.sliceAt,Aaq hu,Instr.sureAddr,hb,Aey hsz]
  | _=>exact Sim.fail
 | _=>exact Sim.fail
end
end
end Go.CE
namespace Go.CE
noncomputable section
section
variable {P:PT} {base:Nat→Prop} {α β γ δ:Type} {ρ:Ren}
theorem A0o{r:Nat}{p:Pl}(hp:ρ r=some p){es:List MapEntry}{es':Array MapEntry}(h:ERs ρ es es'.toList)(c:Nat):Sim P base ρ (fun _ _ _=>True) (A7c r es c) (setObj p.b (.map es' c)):=by
 intro H W hr x H' e
 unfold A7c at e
 split at e
 case h_2=>cases e
 rename_i es0 c0 hb
 cases e
 obtain⟨q,hq,es0',h1,h2⟩:=hr.blk _ _ hb rfl
 rw[hp]at hq;cases hq
 have hlt:=(hr.dom _ _ hp).2.2
 refine⟨ρ,(),{W with heap:=W.heap.setIfInBounds p.b (.map es' c)},.refl _,by simp[setObj,Sem.run,h1],?_,?_,trivial⟩
 ·refine hr.upd hb rfl hp (by simp) (fun b hbn=>?_) ⟨es',by simp[hlt],h⟩
  show (W.heap.setIfInBounds p.b _)[b]? = _
  rw[Array.getElem?_setIfInBounds_ne (fun e=>hbn e.symm)]
 ·refine⟨rfl,rfl,rfl,by simp,fun b hbb=>?_⟩
  have:=(hr.dom _ _ hp).2.1
  show (W.heap.setIfInBounds p.b _)[b]? = _
  rw[Array.getElem?_setIfInBounds_ne (fun e=>this (by rw[e];exact hbb))]
theorem C1h:Sim P base ρ (fun ρ' i b=>∃p,ρ' i=some p∧b=p.b) Bxk (newObj (.map #[] 0)):=by
 intro H W hr x H' e
 unfold Bxk at e
 rw[Bg8]at e
 split at e
 case h_2=>cases e
 rename_i hnb
 have hnb:H.next<BIG:=by simpa [Nat.blt_eq]using hnb
 cases e
 obtain⟨h1,h2⟩:=hr.push (o:=.map #[] 0) (cb:=.map [] 0) (n:=0) hnb (fun ρ' hle=>⟨#[],by simp,.nil⟩)
 refine⟨_,W.heap.size,_,h1,rfl,h2,⟨rfl,rfl,rfl,by simp,fun b hb=>?_⟩,⟨W.heap.size,0,0⟩,by simp[Ren.put],rfl⟩
 have:=hr.base b hb
 show (W.heap.push _)[b]? = _
 rw[Array.getElem?_push,if_neg (by omega)]
theorem Cx4{t:TypeId}{r r':Option Value}(h:OR ρ r r'):Sim P base ρ VR (Cfq P t r) (Instr.makeMap t r'):=by
 have fin:Sim P base ρ VR (do let i ←Bxk;CM.ret (.map (some i))) (do pure (.map (some (←newObj (.map #[] 0))))) :=
  Sim.mapRet C1h fun ρ' a b _ ⟨p,h1,h2⟩=>by subst h2;exact .map h1
 cases h with
 |none=>exact fin
 |some hv=>
  unfold Cfq Instr.makeMap
  refine Sim.opt fun u hu=>?_
  cases u with
  |map k e=>
   cases hv with
   |int k n=>exact Sim.run (fun W=>by simp[Aaq hu,asInt,asIntOf]) fin
   | _=>exact Sim.fail
  | _=>exact Sim.fail
theorem ERs.length{l l':List MapEntry}(h:ERs ρ l l'):l.length=l'.length:=by
 induction h with
 |nil=>rfl
 |cons _ _ _ _ ih=>simp[ih]
theorem Ci1{kind:TypeDesc}{k v v':Value}{b:Bool}(hv:VR ρ v v')(h:Instr.sameNow kind k v=some b):Instr.sameNow kind k v'=some b:=by
 cases hv<;>first|exact h|(cases kind<;>cases k<;>simp[Instr.sameNow]at h)
theorem Bcz{kind:TypeDesc}{k:Value}:∀{es es':List MapEntry} {i:Nat} {r:Option (Nat×Value)},ERs ρ es es'→Instr.findNow kind k es i=some r→
  (r=none∧Instr.findNow kind k es' i=some none)∨∃j v v' e',r=some (i+j,v)∧Instr.findNow kind k es' i=some (some (i+j,v'))∧VR ρ v v'∧es'[j]? = some e'∧Instr.sameNow kind k e'.key=some true
 |[],[],i,r,_,h=>by cases h;exact .inl ⟨rfl,rfl⟩
 |e::es,e'::es',i,r,.cons hk hv _ hr,h=>by
  simp only[Instr.findNow]at h ⊢
  cases hs:Instr.sameNow kind k e.key with
  |none=>rw[hs]at h;cases h
  |some b=>
   rw[hs]at h
   rw[Ci1 hk hs]
   cases b with
   |true=>
    cases h
    exact .inr ⟨0,e.val,e'.val,e',rfl,rfl,hv,rfl,Ci1 hk hs⟩
   |false=>
    rcases Bcz hr h with ⟨h1,h2⟩|⟨j,v,v',e2,h1,h2,h3,h4,h5⟩
    ·exact .inl ⟨h1,h2⟩
    ·exact .inr ⟨j+1,v,v',e2,by rw[h1];simp;omega,by simp only[h2];congr 3;omega,h3,by simpa using h4,h5⟩
theorem ERs.modify{f g:MapEntry→MapEntry}(hfg:∀e e',VR ρ e.key e'.key→VR ρ e.val e'.val→e'.born=e.born→VR ρ (f e).key (g e').key∧VR ρ (f e).val (g e').val∧(g e').born=(f e).born) :
  ∀{es es':List MapEntry} (i:Nat),ERs ρ es es'→ERs ρ (es.modify i f) (es'.modify i g)
 |[],[],i,_=>by simp;exact .nil
 |e::es,e'::es',0,.cons a b c d=>by
  obtain⟨h1,h2,h3⟩:=hfg e e' a b c
  simp only[List.modify_zero_cons]
  exact .cons h1 h2 h3 d
 |e::es,e'::es',i+1,.cons a b c d=>by
  simp only[List.modify_succ_cons]
  exact .cons a b c (ERs.modify hfg i d)
theorem ERs.app{es es':List MapEntry}{e e':MapEntry}(h:ERs ρ es es')(hk:VR ρ e.key e'.key)(hv:VR ρ e.val e'.val)(hb:e'.born=e.born):ERs ρ (es++[e]) (es'++[e']):=by
 induction h with
 |nil=>exact .cons hk hv hb .nil
 |cons a b c _ ih=>exact .cons a b c ih
theorem Cx5{kind:TypeDesc}{k v:Value}(h:Instr.sameNow kind k v=some true):Instr.sameBits 10000 v k=true:=by
 unfold Instr.sameNow at h
 split at h
 ·split at h
  ·rename_i e;subst e
   simp at h;subst h
   simp[Instr.sameBits]
  ·cases h
 ·rename_i a b
  have h:(a==b)=true:=by simpa using h
  have e:a=b:=by
   cases a;cases b
   have:∀x y:Array UInt8,(({data:=x}:ByteArray)=={data:=y})=(x==y):=fun x y=>by unfold BEq.beq;rfl
   rw[this]at h
   rw[eq_of_beq h]
  subst e
  simp only[Instr.sameBits];exact h
 ·simp at h;subst h;simp[Instr.sameBits]
 ·cases h
theorem ERs.isEmpty{es:List MapEntry}{es':Array MapEntry}(h:ERs ρ es es'.toList):es'.isEmpty=es.isEmpty:=by
 have:=h.length
 have e:es'.size=es.length:=by simpa using this.symm
 cases es with
 |nil=>simp at e;simp[e]
 |cons a l=>simp[Array.isEmpty,e]
theorem Bca{H H1:CH}{W:World}(hr:HR base ρ H W){r:Nat}{p:Pl}(hp:ρ r=some p){es:List MapEntry}{c:Nat}(e:A2e r H=some ((es,c),H1)) :
  H1=H∧∃es',W.heap[p.b]? = some (.map es' c)∧ERs ρ es es'.toList:=by
 unfold A2e at e
 split at e
 case h_2=>cases e
 rename_i es0 c0 hb
 cases e
 obtain⟨q,hq,es',h1,h2⟩:=hr.blk _ _ hb rfl
 rw[hp]at hq;cases hq
 exact⟨rfl,es',h1,h2⟩
theorem bind_some{c:CM α}{f:α→CM β}{H H':CH}{b:β}(e:(c >>= f) H=some (b,H')):∃a H1,c H=some (a,H1)∧f a H1=some (b,H'):=by
 have e:CM.bind c f H=some (b,H'):=e
 rw[CM.bind_at]at e
 split at e
 ·rename_i a H1 e1;exact⟨a,H1,e1,e⟩
 ·cases e
theorem Ahv{o:Option α}{H H':CH}{a:α}(e:CM.opt o H=some (a,H')):o=some a∧H'=H:=by
 cases o with
 |none=>cases e
 |some x=>cases e;exact⟨rfl,rfl⟩
theorem Abt{x:α}{H H':CH}{a:α}(e:CM.ret x H=some (a,H')):x=a∧H'=H:=by cases e;exact⟨rfl,rfl⟩
theorem C1i{t:TypeId}{x x' k k':Value}{ok:Bool}(hx:VR ρ x x')(hk:VR ρ k k'):Sim P base ρ VR (Bxp P t x k ok) (Instr.lookup t x' k' ok):=by
 unfold Bxp
 refine Sim.opt fun u hu=>?_
 cases hf:flat k with
 |false=>cases u<;>exact Sim.fail
 |true=>
  rw[hk.flat hf]
  cases u with
  |map key elem=>
   intro H W hr y H' e
   obtain⟨⟨es,c⟩,H1,e1,f1⟩:=bind_some e
   have hmap:H1=H∧∃es':Array MapEntry,ERs ρ es es'.toList∧(match x' with
     | .map none=>es' = #[]
     | .map (some r)=>W.heap[r]? = some (.map es' c)
     | _=>False):=by
    cases hx with
    |mnil=>cases e1;exact⟨rfl,#[],.nil,rfl⟩
    |map hp=>
     obtain⟨h1,es',h2,h3⟩:=Bca hr hp e1
     exact⟨h1,es',h3,h2⟩
    | _=>cases e1
   obtain⟨rfl,es',hes,hx'⟩:=hmap
   obtain⟨kind,H2,e2,f2⟩:=bind_some f1
   obtain⟨hkind,rfl⟩:=Ahv e2
   obtain⟨_,H3,e3,f3⟩:=bind_some f2
   obtain⟨hck,rfl⟩:=Ahv e3
   obtain⟨r,H4,e4,f4⟩:=bind_some f3
   obtain⟨hr4,rfl⟩:=Ahv e4
   have hck:=A2g (P:=P) hck
   rw[←hes.isEmpty]at hck
   have hrun:∀w b,((∃i,(Instr.findKey key k es'.toList).run P W = .ok (some (i,w)) W∧b=true)∨((Instr.findKey key k es'.toList).run P W = .ok none W∧(zeroValue elem).run P W = .ok w W∧b=false))→
     (Instr.lookup t x' k ok).run P W = .ok (if ok then .tuple #[w,.bool b] else w) W:=by
    intro w b h
    unfold Instr.lookup
    simp only[Sem.run_bind,Aaq hu,Result.andThen_ok]
    split at hx'
    ·subst hx'
     have hck:∀W,(Instr.checkKey true 10000 key k).run P W = .ok () W:=by simpa using hck
     rcases h with ⟨i,h1,rfl⟩|⟨h1,h2,rfl⟩
     ·have h1:(Instr.findKey key k []).run P W = .ok (some (i,w)) W:=by simpa using h1
      simp[hck,h1]
     ·have h1:(Instr.findKey key k []).run P W = .ok none W:=by simpa using h1
      simp[hck,h1,h2]
    ·rcases h with ⟨i,h1,rfl⟩|⟨h1,h2,rfl⟩
     ·simp[getObj,Sem.run,hx',hck,h1]
     ·simp[getObj,Sem.run,hx',hck,h1,h2]
    ·exact absurd hx' id
   rcases Bcz hes hr4 with ⟨rfl,h2⟩|⟨j,v,v',e',rfl,h2,h3,_,_⟩
   ·obtain⟨z,H5,e5,f5⟩:=bind_some f4
    obtain⟨hz,rfl⟩:=Ahv e5
    obtain⟨rfl,rfl⟩:=Abt f5
    refine⟨ρ,_,W,.refl _,hrun z false (.inr ⟨?_,At1 hz W,rfl⟩),hr,.refl _ _,?_⟩
    ·simp[Instr.findKey,Aaq hkind,h2]
    ·have:=VR.of_still (ρ:=ρ) (At2 hz)
     cases ok
     ·exact this
     ·exact .tuple (.cons this (.cons (.bool _) .nil))
   ·obtain⟨rfl,rfl⟩:=Abt f4
    refine⟨ρ,_,W,.refl _,hrun v' true (.inl ⟨0+j,?_,rfl⟩),hr,.refl _ _,?_⟩
    ·simp[Instr.findKey,Aaq hkind,h2]
    ·cases ok
     ·exact h3
     ·exact .tuple (.cons h3 (.cons (.bool _) .nil))
  | _=>exact Sim.fail
end
end
end Go.CE
namespace Go.CE
noncomputable section
section
variable {P:PT} {base:Nat→Prop} {α β γ δ:Type} {ρ:Ren}
theorem Cpu{kind:TypeDesc}{k v:Value}(h:Instr.sameNow kind k v=some true)(W:World):(Instr.keyThatStays v k).run P W = .ok k W:=by
 simp[Instr.keyThatStays,Cx5 h]
theorem A2h{key:TypeId}{kind:TypeDesc}{k:Value}{es:List MapEntry}{r:Option (Nat×Value)}(hk:under P key=some kind)(h:Instr.findNow kind k es 0=some r)(W:World) :
  (Instr.findKey key k es).run P W = .ok r W:=by
 simp[Instr.findKey,Aaq hk,h]
theorem B2f{t:TypeId}{m m' k k' v v':Value}(hm:VR ρ m m')(hk:VR ρ k k')(hv:VR ρ v v'):Sim P base ρ (fun _ _ _=>True) (B0p P t m k v) (Instr.mapUpdate t m' k' v'):=by
 unfold B0p
 refine Sim.opt fun u hu=>?_
 cases hf:flat k with
 |false=>cases u<;>cases m<;>first|exact Sim.fail|(rename_i r;cases r<;>exact Sim.fail)
 |true=>
  have hkk:=hk.flat hf
  subst hkk
  cases u with
  |map key elem=>
   cases hm with
   |map hp=>
    rename_i r p
    intro H W hr y H' e
    obtain⟨⟨es,c⟩,H1,e1,f1⟩:=bind_some e
    obtain⟨rfl,es',h1,hes⟩:=Bca hr hp e1
    obtain⟨_,H3,e3,f3⟩:=bind_some f1
    obtain⟨hck,rfl⟩:=Ahv e3
    obtain⟨kind,H2,e2,f2⟩:=bind_some f3
    obtain⟨hkind,rfl⟩:=Ahv e2
    obtain⟨rr,H4,e4,f4⟩:=bind_some f2
    obtain⟨hr4,rfl⟩:=Ahv e4
    have hck:=A2g (P:=P) hck
    rcases Bcz hes hr4 with ⟨rfl,h2⟩|⟨j,w,w',e',rfl,h2,h3,h4,h5⟩
    ·have hnew:ERs ρ (es++[{key:=k',val:=v,born:=c}]) (es'.push {key:=k',val:=v',born:=c}).toList:=by
      rw[Array.toList_push];exact hes.app hk hv rfl
     obtain⟨ρ1,u1,W1,a1,a2,a3,a4,_⟩:=A0o (P:=P) (base:=base) hp hnew (c+1) _ W hr y H' f4
     refine⟨ρ1,u1,W1,a1,?_,a3,a4,trivial⟩
     rw[←a2]
     simp[Instr.mapUpdate,Aaq hu,getObj,Sem.run,h1,hck,A2h hkind h2]
    ·have hnew:ERs ρ (es.modify (0+j) fun e=>{e with key:=k',val:=v}) (es'.modify (0+j) fun e=>{e with key:=k',val:=v'}).toList:=by
      rw[Array.toList_modify]
      refine ERs.modify ?_ _ hes
      intro e e' _ _ hb;exact⟨hk,hv,hb⟩
     obtain⟨ρ1,u1,W1,a1,a2,a3,a4,_⟩:=A0o (P:=P) (base:=base) hp hnew c _ W hr y H' f4
     refine⟨ρ1,u1,W1,a1,?_,a3,a4,trivial⟩
     rw[←a2]
     have hget:es'[0+j]? = some e':=by simpa using h4
     simp[Instr.mapUpdate,Aaq hu,getObj,Sem.run,h1,hck,A2h hkind h2,-Nat.zero_add,hget,Cpu h5]
   | _=>exact Sim.fail
  | _=>exact Sim.fail
theorem Cug{t:TypeId}{m m' k k':Value}(hm:VR ρ m m')(hk:VR ρ k k'):Sim P base ρ VR (B6n P t m k) (Instr.mapEntry t m' k'):=by
 unfold B6n
 refine Sim.opt fun u hu=>?_
 cases hf:flat k with
 |false=>cases u<;>cases m<;>first|exact Sim.fail|(rename_i r;cases r<;>exact Sim.fail)
 |true=>
  have hkk:=hk.flat hf
  subst hkk
  cases u with
  |map key elem=>
   cases hm with
   |map hp=>
    rename_i r p
    intro H W hr y H' e
    obtain⟨⟨es,c⟩,H1,e1,f1⟩:=bind_some e
    obtain⟨rfl,es',h1,hes⟩:=Bca hr hp e1
    obtain⟨_,H3,e3,f3⟩:=bind_some f1
    obtain⟨hck,rfl⟩:=Ahv e3
    obtain⟨kind,H2,e2,f2⟩:=bind_some f3
    obtain⟨hkind,rfl⟩:=Ahv e2
    obtain⟨rr,H4,e4,f4⟩:=bind_some f2
    obtain⟨hr4,rfl⟩:=Ahv e4
    have hck:=A2g (P:=P) hck
    rcases Bcz hes hr4 with ⟨rfl,h2⟩|⟨j,w,w',e',rfl,h2,h3,h4,h5⟩
    ·obtain⟨z,H5,e5,f5⟩:=bind_some f4
     obtain⟨hz,rfl⟩:=Ahv e5
     obtain⟨u5,H6,e6,f6⟩:=bind_some f5
     obtain⟨rfl,rfl⟩:=Abt f6
     have hzv:=VR.of_still (ρ:=ρ) (At2 hz)
     have hnew:ERs ρ (es++[{key:=k',val:=z,born:=c}]) (es'.push {key:=k',val:=z,born:=c}).toList:=by
      rw[Array.toList_push];exact hes.app hk hzv rfl
     obtain⟨ρ1,u1,W1,a1,a2,a3,a4,_⟩:=A0o (P:=P) (base:=base) hp hnew (c+1) _ W hr _ _ e6
     refine⟨ρ1,.tuple #[z,goInt c],W1,a1,?_,a3,a4,.tuple (.cons (hzv.mono a1) (.cons (.int _ _) .nil))⟩
     simp[Instr.mapEntry,Aaq hu,getObj,Sem.run,h1,hck,A2h hkind h2,At1 hz,a2]
    ·obtain⟨u5,H6,e6,f6⟩:=bind_some f4
     obtain⟨rfl,rfl⟩:=Abt f6
     have hnew:ERs ρ (es.modify (0+j) fun e=>{e with key:=k'}) (es'.modify (0+j) fun e=>{e with key:=k'}).toList:=by
      rw[Array.toList_modify]
      refine ERs.modify ?_ _ hes
      intro e e' _ hv hb;exact⟨hk,hv,hb⟩
     obtain⟨ρ1,u1,W1,a1,a2,a3,a4,_⟩:=A0o (P:=P) (base:=base) hp hnew c _ W hr _ _ e6
     have hget:es'[0+j]? = some e':=by simpa using h4
     have hborn:(((es[0+j]?).map fun x=>(x.born:Int)).getD 0)=(e'.born:Int):=by
      have:∀{l l':List MapEntry} (n:Nat) (x:MapEntry),ERs ρ l l'→l'[n]? = some x→∃y,l[n]? = some y∧y.born=x.born:=by
       intro l l' n x h
       induction h generalizing n with
       |nil=>intro h;simp at h
       |cons _ _ hb _ ih=>
        cases n with
        |zero=>intro h;simp at h;subst h;exact⟨_,rfl,hb.symm⟩
        |succ n=>intro h;simpa using ih n (by simpa using h)
      obtain⟨y,y1,y2⟩:=this (0+j) e' hes (by simpa using h4)
      rw[y1];simp[y2]
     refine⟨ρ1,.tuple #[w',goInt e'.born],W1,a1,?_,a3,a4,?_⟩
     ·simp[Instr.mapEntry,Aaq hu,getObj,Sem.run,h1,hck,A2h hkind h2,-Nat.zero_add,hget,Cpu h5,a2]
     ·rw[hborn];exact .tuple (.cons (h3.mono a1) (.cons (.int _ _) .nil))
   | _=>exact Sim.fail
  | _=>exact Sim.fail
theorem Bg4{born:Int}:∀{es es':List MapEntry},ERs ρ es es'→es'.findIdx? (fun e=>(e.born:Int)==born)=es.findIdx? (fun e=>(e.born:Int)==born)
 |[],[],_=>rfl
 |e::es,e'::es',.cons _ _ hb hr=>by
  simp only[List.findIdx?_cons,hb,Bg4 hr]
theorem Cl1{t:TypeId}{m m' k k' v v':Value}(hm:VR ρ m m')(hk:VR ρ k k')(hv:VR ρ v v'):Sim P base ρ (fun _ _ _=>True) (Bv3 m k v) (Instr.entryStore t m' k' v'):=by
 unfold Bv3
 cases hm with
 |map hp=>
  rename_i r p
  cases hk with
  |int kk born=>
   intro H W hr y H' e
   obtain⟨⟨es,c⟩,H1,e1,f1⟩:=bind_some e
   obtain⟨rfl,es',h1,hes⟩:=Bca hr hp e1
   cases hi:es.findIdx? (fun e=>(e.born:Int)==born) with
   |none=>simp only[hi]at f1;cases f1
   |some i=>
   simp only[hi]at f1
   have hnew:ERs ρ (es.modify i fun e=>{e with val:=v}) (es'.modify i fun e=>{e with val:=v'}).toList:=by
    rw[Array.toList_modify]
    refine ERs.modify ?_ _ hes
    intro e e' hk _ hb;exact⟨hk,hv,hb⟩
   obtain⟨ρ1,u1,W1,a1,a2,a3,a4,_⟩:=A0o (P:=P) (base:=base) hp hnew c _ W hr _ _ f1
   refine⟨ρ1,u1,W1,a1,?_,a3,a4,trivial⟩
   have hi':es'.findIdx? (fun e=>(e.born:Int)==born)=some i:=by
    have h:=Bg4 (born:=born) hes
    rw[hi]at h
    rw[←Array.toArray_toList (xs:=es'),List.findIdx?_toArray]
    exact h
   rw[←a2]
   simp[Instr.entryStore,getObj,Sem.run,h1,asInt,asIntOf,hi']
  | _=>exact Sim.fail
 | _=>exact Sim.fail
theorem ERs.eraseIdx:∀{es es':List MapEntry} (i:Nat),ERs ρ es es'→ERs ρ (es.eraseIdx i) (es'.eraseIdx i)
 |[],[],_,_=>.nil
 |e::es,e'::es',0,.cons _ _ _ d=>d
 |e::es,e'::es',i+1,.cons a b c d=>.cons a b c (ERs.eraseIdx i d)
theorem C1j{ts:Array TypeId}{t ty:TypeId}{m m' k k':Value}(ht:ts[0]? = some t)(hm:VR ρ m m')(hk:VR ρ k k'):Sim P base ρ VR (Cly P t m k) (Builtin.delete_ ts ty #[m',k']):=by
 unfold Cly
 refine Sim.opt fun u hu=>?_
 cases hf:flat k with
 |false=>cases u<;>cases m<;>first|exact Sim.fail|(rename_i r;cases r<;>exact Sim.fail)
 |true=>
  have hkk:=hk.flat hf
  subst hkk
  cases u with
  |map key elem=>
   cases hm with
   |map hp=>
    rename_i r p
    intro H W hr y H' e
    obtain⟨⟨es,c⟩,H1,e1,f1⟩:=bind_some e
    obtain⟨rfl,es',h1,hes⟩:=Bca hr hp e1
    obtain⟨_,H3,e3,f3⟩:=bind_some f1
    obtain⟨hck,rfl⟩:=Ahv e3
    obtain⟨kind,H2,e2,f2⟩:=bind_some f3
    obtain⟨hkind,rfl⟩:=Ahv e2
    obtain⟨rr,H4,e4,f4⟩:=bind_some f2
    obtain⟨hr4,rfl⟩:=Ahv e4
    have hck:=A2g (P:=P) hck
    rw[←hes.isEmpty]at hck
    rcases Bcz hes hr4 with ⟨rfl,h2⟩|⟨j,w,w',e',rfl,h2,h3,h4,h5⟩
    ·obtain⟨u5,H6,e6,f6⟩:=bind_some f4
     obtain⟨rfl,rfl⟩:=Abt f6
     obtain⟨ρ1,u1,W1,a1,a2,a3,a4,_⟩:=A0o (P:=P) (base:=base) hp hes c _ W hr _ _ e6
     refine⟨ρ1,.tuple #[],W1,a1,?_,a3,a4,.tuple .nil⟩
     simp[Builtin.delete_,ht,Aaq hu,getObj,Sem.run,h1,hck,A2h hkind h2,a2]
    ·obtain⟨u5,H6,e6,f6⟩:=bind_some f4
     obtain⟨rfl,rfl⟩:=Abt f6
     have hnew:ERs ρ (es.eraseIdx (0+j)) (es'.eraseIdxIfInBounds (0+j)).toList:=by
      rw[Array.toList_eraseIdxIfInBounds];exact hes.eraseIdx _
     obtain⟨ρ1,u1,W1,a1,a2,a3,a4,_⟩:=A0o (P:=P) (base:=base) hp hnew c _ W hr _ _ e6
     refine⟨ρ1,.tuple #[],W1,a1,?_,a3,a4,.tuple .nil⟩
     simp[Builtin.delete_,ht,Aaq hu,getObj,Sem.run,h1,hck,A2h hkind h2,-Nat.zero_add,a2]
   | _=>exact Sim.fail
  | _=>exact Sim.fail
theorem C4r{ts:Array TypeId}{t ty:TypeId}{x x':Value}(ht:ts[0]? = some t)(hx:VR ρ x x'):Sim P base ρ VR (B6m P t x) (Builtin.len_ ts ty #[x']):=by
 unfold B6m
 refine Sim.opt fun u hu=>?_
 have fin:∀n:Int,(∀W,(Builtin.len_ ts ty #[x']).run P W = .ok (goInt n) W)→Sim P base ρ VR (CM.ret (goInt n)) (Builtin.len_ ts ty #[x']):=fun n h=>
  Sim.run (s':=pure (goInt n)) h (Sim.ret (.int _ _))
 cases u with
 |string=>
  cases hx with
  |string s=>exact fin _ fun W=>by simp[Builtin.len_,ht,Aaq hu]
  | _=>exact Sim.fail
 |array n e=>
  have k:=fin n fun W=>by simp[Builtin.len_,ht,Aaq hu]
  cases hx<;>exact k
 |slice e=>
  cases hx with
  |snil l c=>exact fin _ fun W=>by simp[Builtin.len_,ht,Aaq hu]
  |sl a b=>exact fin _ fun W=>by simp[Builtin.len_,ht,Aaq hu]
  |slu a b c d=>exact fin _ fun W=>by simp[Builtin.len_,ht,Aaq hu]
  | _=>exact Sim.fail
 |map k e=>
  cases hx with
  |mnil=>exact fin 0 fun W=>by simp[Builtin.len_,ht,Aaq hu]
  |map hp=>
   intro H W hr y H' e
   obtain⟨⟨es,c⟩,H1,e1,f1⟩:=bind_some e
   obtain⟨rfl,es',h1,hes⟩:=Bca hr hp e1
   obtain⟨rfl,rfl⟩:=Abt f1
   have hl:es'.size=es.length:=by have:=hes.length;simpa using this.symm
   refine⟨ρ,goInt es'.size,W,.refl _,?_,hr,.refl _ _,?_⟩
   ·simp[Builtin.len_,ht,Aaq hu,getObj,Sem.run,h1]
   ·rw[hl];exact .int _ _
  | _=>exact Sim.fail
 | _=>exact Sim.fail
end
end
end Go.CE
namespace Go.CE
noncomputable section
section
variable {P:PT} {base:Nat→Prop} {α β γ δ:Type} {ρ:Ren}
theorem B0t{x x':Value}{n:Nat}(hx:VR ρ x x')(h:Cfp x=some n)(W:World):(Builtin.lenOf x').run P W = .ok n W:=by
 cases hx<;>simp[Cfp]at h<;>subst h<;>simp[Builtin.lenOf]
theorem Cuh(s:ByteArray):VRs ρ (s.data.toList.map fun b=>Value.int .u8 b.toNat) (s.data.map fun b=>Value.int .u8 b.toNat).toList:=by
 rw[Array.toList_map]
 generalize s.data.toList=l
 induction l with
 |nil=>exact .nil
 |cons a l ih=>exact .cons (.int _ _) ih
theorem A0c{size n:Nat}{x x':Value}(hx:VR ρ x x'):Sim P base ρ (fun ρ' l c=>VRs ρ' l c.toList) (Ant size n x) (Builtin.firstCells size n x'):=by
 cases hx with
 |string s=>exact Sim.ret (Cuh _)
 |snil l c=>exact Sim.ret .nil
 |sl a b=>exact B0r a _
 |slu a b c d=>exact B0r ⟨_,a,b⟩ _
 | _=>exact Sim.fail
theorem B6t{a:Addr}:∀{m i:Nat} {l:List Value} {H H':CH},Aws a i m H=some (l,H')→H'=H∧l.length=m∧
  (m=0∨∃n cs d t x,H.m.get a.block=some (.cells n cs d t x)∧∀k v,l[k]? = some v→at? n cs d (a.off+(i+k))=some v)
 |0,i,l,H,H',e=>by
  obtain⟨rfl,rfl⟩:=Abt e
  exact⟨rfl,rfl,.inl rfl⟩
 |m+1,i,l,H,H',e=>by
  obtain⟨v,H1,e1,f1⟩:=bind_some e
  obtain⟨r,H2,e2,f2⟩:=bind_some f1
  obtain⟨rfl,rfl⟩:=Abt f2
  have hld:H1=H∧∃n cs d t x,H.m.get a.block=some (.cells n cs d t x)∧at? n cs d (a.off+i)=some v:=by
   unfold A7a at e1
   split at e1
   case h_2=>cases e1
   rename_i hb
   split at e1
   case h_2=>cases e1
   rename_i hv
   cases e1
   have h1:(a.add i).block=a.block:=by unfold Addr.add;split<;>rfl
   have h2:(a.add i).off=a.off+i:=by unfold Addr.add;split<;>simp_all
   rw[h1]at hb;rw[h2]at hv
   exact⟨rfl,_,_,_,_,_,hb,hv⟩
  obtain⟨rfl,n,cs,d,t,x,hb,hv⟩:=hld
  obtain⟨rfl,hlen,hr⟩:=B6t e2
  refine⟨rfl,by simp[hlen],.inr ⟨n,cs,d,t,x,hb,fun k w hk=>?_⟩⟩
  cases k with
  |zero=>simp at hk;subst hk;exact hv
  |succ k=>
   simp at hk
   rcases hr with rfl|⟨n',cs',d',t',x',hb',hr⟩
   ·have:r=[]:=List.eq_nil_of_length_eq_zero hlen
    rw[this]at hk;simp at hk
   ·rw[hb]at hb';cases hb'
    have:=hr k w hk
    rw[show i+(k+1)=i+1+k by omega];exact this
theorem Cui{t:TypeId}{l l' rest:List Value}(h:VRs ρ l l'):Sim P base ρ (fun ρ' a b=>a.off=0∧a.spot=none∧∃p,ρ' a.block=some p∧p.d=0∧p.n=(l'++rest).length∧b=⟨p.b,0,none⟩) (Biv t l) (newRow t ⟨l'++rest⟩):=by
 intro H W hr a H' e
 unfold Biv at e
 split at e
 case h_2=>cases e
 rename_i hlb
 have hlb:l.length<BIG:=by simpa [Nat.blt_eq]using hlb
 split at e
 case h_2=>cases e
 rename_i i H1 e1
 cases e
 rw[Bg8]at e1
 split at e1
 case h_2=>cases e1
 rename_i hnb
 have hnb:H.next<BIG:=by simpa [Nat.blt_eq]using hnb
 cases e1
 have hlen:=h.length
 obtain⟨h1,h2⟩:=hr.push (o:=.cells ⟨l'++rest⟩ t) (cb:=.cells l.length (Aov l 0 .e) .nilIface t false) (n:=(l'++rest).length) hnb (fun ρ' hle=>by
  refine⟨⟨l'++rest⟩,by simp,by simp,(fun h=>by cases h),by simp[hlen],fun k v hv=>?_⟩
  obtain⟨hk,hv⟩:=Bg7 hv
  have hl:l[k]? = some l[k]:=by simp[hk]
  have:=A7b l 0 .e k _ (by omega) hl
  rw[Nat.zero_add]at this
  rw[this]at hv
  simp at hv;subst hv
  obtain⟨v',e1,e2⟩:=h.get k _ hl
  refine⟨v',?_,e2.mono hle⟩
  show (⟨l'++rest⟩:Array Value)[0+k]? = _
  rw[Nat.zero_add,List.getElem?_toArray,List.getElem?_append_left (by omega)]
  exact e1)
 refine⟨_,⟨W.heap.size,0,none⟩,_,h1,rfl,h2,⟨rfl,rfl,rfl,by simp,fun b hb=>?_⟩,rfl,rfl,⟨W.heap.size,0,(l'++rest).length⟩,by simp[Ren.put],rfl,rfl,rfl⟩
 have:=hr.base b hb
 show (W.heap.push _)[b]? = _
 rw[Array.getElem?_push,if_neg (by omega)]
theorem HR.kill{H:CH}{W:World}(hr:HR base ρ H W){i:Nat}(hi:i+1<2^60):HR base ρ {H with m:=T.set .dead 60 H.m i} W:=by
 have get:∀j cj,(T.set CB.dead 60 H.m i).get j=some cj→cj.live=true→j≠i∧H.m.get j=some cj:=by
  intro j cj h hl
  by_cases e:j=i
  ·subst e;rw[T.get_set _ _ _ _ hi]at h;cases h;cases hl
  ·rw[T.get_set_ne _ _ _ _ _ e]at h;exact⟨e,h⟩
 refine⟨hr.dom,hr.big,fun j cj hj hjl=>?_,fun j k cj ck p q hj hjl hk hkl hp hq e=>?_,hr.base,hr.zero⟩
 ·exact hr.blk j cj (get j cj hj hjl).2 hjl
 ·exact hr.inj j k cj ck p q (get j cj hj hjl).2 hjl (get k ck hk hkl).2 hkl hp hq e
end
end
end Go.CE
namespace Go.CE
noncomputable section
theorem Cpv(need:Nat):∀(r c:Nat),c≤2*need+1000→Builtin.growBy need r c≤2*need+1000
 |0,c,h=>h
 |r+1,c,h=>by
  simp only[Builtin.growBy]
  split
  ·exact h
  ·exact Cpv need r _ (by omega)
theorem C1k{need c:Nat}(h:c<need):Builtin.nextslicecap need c≤2*need+1000:=by
 unfold Builtin.nextslicecap
 split
 ·omega
 ·split
  ·omega
  ·exact Cpv _ _ _ (by omega)
def wr(c:Array Value):Nat→List Value→Array Value
 | _,[]=>c
 |k,v::l=>wr (c.setIfInBounds k v) (k+1) l
theorem Cz9:∀(l:List Value) (c:Array Value) (k:Nat),(wr c k l).size=c.size
 |[],_,_=>rfl
 |v::l,c,k=>by simp only[wr];rw[Cz9 l];simp
theorem C1l:∀(l:List Value) (c:Array Value) (k j:Nat),j<k→(wr c k l)[j]? = c[j]?
 |[],_,_,_,_=>rfl
 |v::l,c,k,j,h=>by
  simp only[wr]
  rw[C1l l _ _ _ (by omega),Array.getElem?_setIfInBounds_ne (by omega)]
theorem C4s:∀(l:List Value) (c:Array Value) (k j:Nat) (v:Value),k+l.length≤c.size→l[j]? = some v→(wr c k l)[k+j]? = some v
 |[],_,_,_,_,_,h=>by simp at h
 |v::l,c,k,0,w,hb,h=>by
  simp at h;subst h
  simp only[wr]
  simp only[List.length_cons]at hb
  rw[C1l l _ _ _ (by omega),Nat.add_zero,Array.getElem?_setIfInBounds,if_pos rfl,if_pos (by omega)]
 |v::l,c,k,j+1,w,hb,h=>by
  simp only[wr]
  simp at hb h
  have:=C4s l (c.setIfInBounds k v) (k+1) j w (by simp;omega) h
  rw[show k+(j+1)=k+1+j by omega];exact this
section
variable {P:PT} {base:Nat→Prop} {α β γ δ:Type} {ρ:Ren}
theorem C1m{v v':Value}(h:VR ρ v v')(e:Azg v=true):Azg v'=true:=by
 cases h<;>first|rfl|exact e
theorem Bxs{b off:Nat}{t:TypeId}:∀(l:List Value) (i:Nat) (W:World) (c:Array Value),W.heap[b]? = some (.cells c t (0,0))→off+i+l.length≤c.size→l.all Azg=true→
  ∃W',(storeCells ⟨b,off,none⟩ l i).run P W = .ok () W'∧W'.os=W.os∧W'.tape=W.tape∧W'.output=W.output∧W'.heap=W.heap.setIfInBounds b (.cells (wr c (off+i) l) t (0,0))
 |[],i,W,c,hb,_,_=>by
  refine⟨W,rfl,rfl,rfl,rfl,?_⟩
  apply Array.ext_getElem?
  intro j
  rw[Array.getElem?_setIfInBounds]
  by_cases e:b=j
  ·subst e
   have:b<W.heap.size:=(Array.getElem?_eq_some_iff.1 hb).1
   simp only[if_true,if_pos this,wr,hb]
  ·simp only[e,if_false]
 |v::l,i,W,c,hb,hsz,hall=>by
  simp only[List.all_cons,Bool.and_eq_true]at hall
  simp at hsz
  have hblt:b<W.heap.size:=(Array.getElem?_eq_some_iff.1 hb).1
  have hadd:(⟨b,off,none⟩:Addr).add i=⟨b,off+i,none⟩:=by unfold Addr.add;split<;>simp_all
  have hcell:W.cell? ⟨b,off+i,none⟩=some c[off+i]:=by
   simp only[World.cell?,hb]
   simp<;>omega
  have hfr:W.frozen? ⟨b,off+i,none⟩=false:=by
   simp only[World.frozen?,hb];simp
  have hset:(W.setCell ⟨b,off+i,none⟩ v).heap=W.heap.setIfInBounds b (.cells (c.setIfInBounds (off+i) v) t (0,0)):=by
   simp only[World.setCell]
   apply Array.ext_getElem?
   intro j
   rw[Array.getElem?_modify,Array.getElem?_setIfInBounds]
   by_cases ei:b=j
   ·subst ei;simp only[if_true,hb,Option.map_some];rw[if_pos hblt];simp
   ·simp only[ei,if_false]
  obtain⟨W',h1,h2,h3,h4,h5⟩:=Bxs (b:=b) (off:=off) (t:=t) l (i+1) (W.setCell ⟨b,off+i,none⟩ v) (c.setIfInBounds (off+i) v) (by rw[hset,Array.getElem?_setIfInBounds,if_pos rfl,if_pos hblt]) (by rw[Array.size_setIfInBounds];omega) hall.2
  refine⟨W',?_,h2,h3,h4,?_⟩
  ·simp only[storeCells,hadd,Sem.run_bind]
   have:(Go.store ⟨b,off+i,none⟩ v).run P W = .ok () (W.setCell ⟨b,off+i,none⟩ v):=by
    unfold Go.store
    cases v<;>first|(simp[Azg]at hall;done)|simp only[Sem.run,hcell,hfr,Bool.false_eq_true,if_false]
   rw[this];exact h1
  ·rw[h5,hset]
   simp only[wr,show off+(i+1)=off+i+1 by omega]
   simp
theorem HR.move{H:CH}{W W':World}(hr:HR base ρ H W){i:Nat}{cb cb':CB}{p:Pl}{d:Nat}(hb:H.m.get i=some cb)(hl:cb.live=true)(hp:ρ i=some p)(hn:H.next<BIG)(hd:d=0)(hs:W'.heap.size=W.heap.size)(hf:∀b,b≠p.b→W'.heap[b]? = W.heap[b]?)(hB:∀ρ',ρ.le ρ'→BR ρ' ⟨p.b,d,p.n⟩ W' cb') :
  ρ.le (ρ.put H.next ⟨p.b,d,p.n⟩)∧HR base (ρ.put H.next ⟨p.b,d,p.n⟩) ⟨H.next+1,T.set cb' 60 (T.set .dead 60 H.m i) H.next⟩ W':=by
 have hle:ρ.le (ρ.put H.next ⟨p.b,d,p.n⟩):=by
  intro j q hq
  have:=(hr.dom j q hq).1
  unfold Ren.put;rw[if_neg (by omega)];exact hq
 have h60:H.next+1<2^60:=by unfold BIG at hn;omega
 have hin:=(hr.dom i p hp).1
 have i60:i+1<2^60:=by omega
 have get:∀j cj,(T.set cb' 60 (T.set .dead 60 H.m i) H.next).get j=some cj→cj.live=true→(j=H.next∧cj=cb')∨(j≠H.next∧j≠i∧H.m.get j=some cj):=by
  intro j cj h hlv
  by_cases e:j=H.next
  ·subst e;rw[T.get_set _ _ _ _ h60]at h;cases h;exact .inl ⟨rfl,rfl⟩
  ·rw[T.get_set_ne _ _ _ _ _ e]at h
   by_cases e2:j=i
   ·subst e2;rw[T.get_set _ _ _ _ i60]at h;cases h;cases hlv
   ·rw[T.get_set_ne _ _ _ _ _ e2]at h;exact .inr ⟨e,e2,h⟩
 have put_ne:∀j,j≠H.next→(ρ.put H.next ⟨p.b,d,p.n⟩) j=ρ j:=fun j e=>by unfold Ren.put;rw[if_neg e]
 have put_eq:(ρ.put H.next ⟨p.b,d,p.n⟩) H.next=some ⟨p.b,d,p.n⟩:=by unfold Ren.put;rw[if_pos rfl]
 refine⟨hle,fun j q hq=>?_,by show H.next+1≤BIG;omega,fun j cj hj hjl=>?_,fun j k cj ck q r hj hjl hk hkl hq hr' e=>?_,by rw[hs];exact hr.base,fun j q hq=>?_⟩
 ·by_cases e:j=H.next
  ·subst e;rw[put_eq]at hq;cases hq
   exact⟨Nat.lt_succ_self _,(hr.dom i p hp).2.1,by rw[hs];exact (hr.dom i p hp).2.2⟩
  ·rw[put_ne j e]at hq
   obtain⟨h1,h2,h3⟩:=hr.dom j q hq
   exact⟨by show j<H.next+1;omega,h2,by rw[hs];exact h3⟩
 ·rcases get j cj hj hjl with ⟨rfl,rfl⟩|⟨hne,hni,hj'⟩
  ·exact⟨_,put_eq,hB _ hle⟩
  ·obtain⟨q,hq,hB'⟩:=hr.blk j cj hj' hjl
   exact⟨q,by rw[put_ne j hne];exact hq,hB'.mono hle (hf _ fun e=>hni (hr.inj j i cj cb q p hj' hjl hb hl hq hp e))⟩
 ·rcases get j cj hj hjl with ⟨rfl,rfl⟩|⟨hne,hni,hj'⟩<;>rcases get k ck hk hkl with ⟨rfl,rfl⟩|⟨hne2,hni2,hk'⟩
  ·rfl
  ·rw[put_eq]at hq;cases hq
   rw[put_ne k hne2]at hr'
   exact absurd (hr.inj k i ck cb r p hk' hkl hb hl hr' hp e.symm) hni2
  ·rw[put_eq]at hr';cases hr'
   rw[put_ne j hne]at hq
   exact absurd (hr.inj j i cj cb q p hj' hjl hb hl hq hp e) hni
  ·rw[put_ne j hne]at hq;rw[put_ne k hne2]at hr'
   exact hr.inj j k cj ck q r hj' hjl hk' hkl hq hr' e
 ·by_cases e:j=H.next
  ·subst e;rw[put_eq]at hq;cases hq;exact hd
  ·rw[put_ne j e]at hq;exact hr.zero j q hq
theorem HR.drawn{H:CH}{W:World}(hr:HR base ρ H W):HR base ρ H {W with drawn:=W.drawn+1} :=
 ⟨hr.dom,hr.big,fun i cb h1 h2=>by
  obtain⟨p,hp,hB⟩:=hr.blk i cb h1 h2
  exact⟨p,hp,hB.mono (.refl _) rfl⟩,hr.inj,hr.base,hr.zero⟩
section app
variable {ts:Array TypeId} {t ty elem:TypeId} {size n l c:Nat} {b:Option Addr} {x':Value}
theorem Cpw(ht:ts[0]? = some t)(hxi:Bud P ts[1]? = some false)(hu:under P t=some (.slice elem))(hsz:Akk P elem=some size)(hn:∀W,(Builtin.lenOf x').run P W = .ok n W)(hle:l+n≤c)(W:World) :
  (Builtin.append_ ts ty #[.slice b l c,x']).run P W=(do
   let new ←Builtin.firstCells size n x'
   match b with
   |some a=>do
    storeCells (a.add (l*size)) new.toList
    pure (Value.slice b (l+n) c)
   |none=>pure (Value.slice b (l+n) c):Sem Value).run P W:=by
 simp only[Bud]at hxi
 cases h1:ts[1]? with
 |none=>
  unfold Builtin.append_
  simp[ht,h1,Aaq hu,Aey hsz,hn,hle]
  congr 1;funext a w;cases b<;>simp
 |some xt=>
  rw[h1]at hxi
  simp only at hxi
  cases hd:under P xt with
  |none=>rw[hd]at hxi;cases hxi
  |some d=>
   rw[hd]at hxi
   have fin:∀d,(d = .string∨∃e,d = .slice e)→under P xt=some d→(Builtin.append_ ts ty #[.slice b l c,x']).run P W=(do
     let new ←Builtin.firstCells size n x'
     match b with
     |some a=>do
      storeCells (a.add (l*size)) new.toList
      pure (Value.slice b (l+n) c)
     |none=>pure (Value.slice b (l+n) c):Sem Value).run P W:=by
    intro d hdd hd
    unfold Builtin.append_
    rcases hdd with rfl|⟨e,rfl⟩
    ·simp[ht,h1,Aaq hu,Aaq hd,Aey hsz,hn,hle]
     congr 1;funext a w;cases b<;>simp
    ·simp[ht,h1,Aaq hu,Aaq hd,Aey hsz,hn,hle]
     congr 1;funext a w;cases b<;>simp
   cases d<;>first|(cases hxi;done)|exact fin _ (.inl rfl) hd|exact fin _ (.inr ⟨_,rfl⟩) hd
end app
end
end
end Go.CE
namespace Go.CE
noncomputable section
section
variable {P:PT} {base:Nat→Prop} {α β γ δ:Type} {ρ:Ren}
section app
variable {ts:Array TypeId} {t ty elem:TypeId} {size n l c:Nat} {b:Option Addr} {x':Value}
theorem Cuj(ht:ts[0]? = some t)(hxi:Bud P ts[1]? = some false)(hu:under P t=some (.slice elem))(hsz:Akk P elem=some size)(hn:∀W,(Builtin.lenOf x').run P W = .ok n W)(hlt:¬l+n≤c)(hg:Bjc P elem size (l+n)=true)(W:World):∃newCap z,A3g P elem=some z∧z.cells.size=size∧l+n≤newCap∧
  (Builtin.append_ ts ty #[.slice b l c,x']).run P W=(do
   let old ←Builtin.firstCells size l (.slice b l c)
   let new ←Builtin.firstCells size n x'
   pure (Value.slice (some (←newRow elem (old++new++Builtin.zeroCells z.cells (newCap-(l+n))))) (l+n) newCap):Sem Value).run P {W with drawn:=W.drawn+1}:=by
 unfold Bjc at hg
 split at hg
 case h_2=>cases hg
 rename_i i z hi hz
 simp only[Bool.and_eq_true]at hg
 obtain⟨⟨⟨g1,g2⟩,g3⟩,g4⟩:=hg
 have g1:=Nat.eq_of_beq_eq_true g1
 have g2:=Nat.le_of_ble_eq_true g2
 have g3:0<i.bytes:=by simpa [Nat.blt_eq]using g3
 have hq:∀tp,l+n≤(Question.appendCap (l+n) c elem).cut tp:=fun tp=>by simp only[Question.cut];omega
 have hnc:¬Builtin.nextslicecap (l+n) c*i.bytes > 281474976710656:=by
  have h1:=C1k (need:=l+n) (c:=c) (by omega)
  have h2:=Nat.mul_le_mul_right i.bytes h1
  omega
 refine⟨(Question.appendCap (l+n) c elem).cut (W.tape W.drawn (.appendCap (l+n) c elem)),z,hz,g1,hq _,?_⟩
 have hb0:¬i.bytes=0:=by omega
 simp only[Bud]at hxi
 cases h1:ts[1]? with
 |none=>
  unfold Builtin.append_
  simp[ht,h1,Aaq hu,Aey hsz,hn,hlt,Azh hi,hb0,hnc,Question.forced,At1 hz]
 |some xt=>
  rw[h1]at hxi
  simp only at hxi
  cases hd:under P xt with
  |none=>rw[hd]at hxi;cases hxi
  |some d=>
   rw[hd]at hxi
   have fin:∀d,(d = .string∨∃e,d = .slice e)→under P xt=some d→(Builtin.append_ ts ty #[.slice b l c,x']).run P W=(do
     let old ←Builtin.firstCells size l (.slice b l c)
     let new ←Builtin.firstCells size n x'
     pure (Value.slice (some (←newRow elem (old++new++Builtin.zeroCells z.cells ((Question.appendCap (l+n) c elem).cut (W.tape W.drawn (.appendCap (l+n) c elem))-(l+n))))) (l+n) ((Question.appendCap (l+n) c elem).cut (W.tape W.drawn (.appendCap (l+n) c elem)))):Sem Value).run P {W with drawn:=W.drawn+1}:=by
    intro d hdd hd
    unfold Builtin.append_
    rcases hdd with rfl|⟨e,rfl⟩
    ·simp[ht,h1,Aaq hu,Aaq hd,Aey hsz,hn,hlt,Azh hi,hb0,hnc,Question.forced,At1 hz]
    ·simp[ht,h1,Aaq hu,Aaq hd,Aey hsz,hn,hlt,Azh hi,hb0,hnc,Question.forced,At1 hz]
   cases d<;>first|(cases hxi;done)|exact fin _ (.inl rfl) hd|exact fin _ (.inr ⟨_,rfl⟩) hd
end app
theorem C7g{elem:TypeId}{size l n:Nat}{s s' x x':Value}{c:Nat}{z:Value}(hz:z.cells.size=size)(hle:l+n≤c)(hs:VR ρ s s')(hx:VR ρ x x') :
  Sim P base ρ VR (do
   let old ←Ant size l s
   let new ←Ant size n x
   match Nat.beq (old.length+new.length) ((l+n)*size) with
   |true=>do
    let a ←Biv elem (old++new)
    CM.ret (.slice (some a) (l+n) (UNK+size))
   |false=>CM.fail) (do
   let old ←Builtin.firstCells size l s'
   let new ←Builtin.firstCells size n x'
   pure (Value.slice (some (←newRow elem (old++new++Builtin.zeroCells z.cells (c-(l+n))))) (l+n) c)):=by
 refine Sim.bind (A0c hs) fun ρ1 old old' h1 ho=>Sim.bind (A0c (hx.mono h1)) fun ρ2 new new' h2 hn=>?_
 cases hb:Nat.beq (old.length+new.length) ((l+n)*size) with
 |false=>exact Sim.fail
 |true=>
  have hb:=Nat.eq_of_beq_eq_true hb
  have hall:=(ho.mono h2).app hn
  have he:old'++new'++Builtin.zeroCells z.cells (c-(l+n))=⟨(old'.toList++new'.toList)++(Builtin.zeroCells z.cells (c-(l+n))).toList⟩:=by
   apply Array.ext';simp
  rw[he]
  refine Sim.mapRet (Cui hall) fun ρ3 a b _ ⟨q1,q2,p,q3,q4,q5,q6⟩=>?_
  refine .slu q3 (by rw[q6,q1,q4,q2]) hle ?_
  rw[q6,q5]
  have l1:=ho.length
  have l2:=hn.length
  have l3:(Builtin.zeroCells z.cells (c-(l+n))).toList.length=(c-(l+n))*size:=by simp[Builtin.zeroCells,hz]
  simp only[List.length_append,l3,←l1,←l2]
  show 0+c*size≤_
  have:c*size=(l+n)*size+(c-(l+n))*size:=by rw[←Nat.add_mul];congr 1;omega
  omega
theorem B2g{ts:Array TypeId}{t ty elem:TypeId}{size n l c:Nat}{b b':Option Addr}{x x':Value}(ht:ts[0]? = some t)(hxi:Bud P ts[1]? = some false)(hu:under P t=some (.slice elem))(hsz:Akk P elem=some size)(hnx:Cfp x=some n)(hx:VR ρ x x')(hs:VR ρ (.slice b l c) (.slice b' l c))(hc:c<UNK)(hbb:b.isSome=b'.isSome)(hA:∀a a',b=some a→b'=some a'→AR ρ a a') :
  Sim P base ρ VR (match Nat.ble (l+n) c with
   |true=>match b with
    |some a=>do
     let new ←Ant size n x
     Bb8 (a.add (l*size)) 0 new
     CM.ret (.slice (some a) (l+n) c)
    |none=>do
     let _ ←Ant size n x
     CM.ret (.slice none (l+n) c)
   |false=>match Bjc P elem size (l+n) with
    |true=>do
     let old ←Ant size l (.slice b l c)
     let new ←Ant size n x
     match Nat.beq (old.length+new.length) ((l+n)*size) with
     |true=>do
      let a ←Biv elem (old++new)
      CM.ret (.slice (some a) (l+n) (UNK+size))
     |false=>CM.fail
    |false=>CM.fail) (Builtin.append_ ts ty #[.slice b' l c,x']):=by
 have hn:∀W,(Builtin.lenOf x').run P W = .ok n W:=B0t hx hnx
 cases hb:Nat.ble (l+n) c with
 |true=>
  have hle:=Nat.le_of_ble_eq_true hb
  refine Sim.run (fun W=>Cpw ht hxi hu hsz hn hle W) ?_
  cases b with
  |none=>
   cases b' with
   |some a'=>cases hbb
   |none=>exact Sim.mapRet (A0c hx) fun ρ1 a b _ _=>.snil _ _
  |some a=>
   cases b' with
   |none=>cases hbb
   |some a'=>
    have hA:=hA a a' rfl rfl
    refine Sim.bind (A0c hx) fun ρ1 new new' h1 hnw=>?_
    refine Sim.bind (Bn9 (hA.add (l*size)) new new'.toList 0 ρ1 h1 hnw) fun ρ2 _ _ h2 _=>?_
    exact Sim.ret (.sl ((hA.mono h1).mono h2) hc)
 |false=>
  have hlt:¬l+n≤c:=fun h=>by rw[Nat.ble_eq_true_of_le h]at hb;cases hb
  cases hg:Bjc P elem size (l+n) with
  |false=>exact Sim.fail
  |true=>
   intro H W hr y H' e
   obtain⟨nc,z,hz,hzs,hle,hrun⟩:=Cuj (ty:=ty) (b:=b') ht hxi hu hsz hn hlt hg W
   obtain⟨ρ1,v,W1,k1,k2,k3,k4,k5⟩:=C7g (P:=P) (base:=base) (elem:=elem) hzs hle hs hx H _ hr.drawn y H' e
   exact⟨ρ1,v,W1,k1,by rw[hrun];exact k2,k3,⟨k4.os,k4.tape,k4.output,k4.size,k4.frame⟩,k5⟩
end
end
end Go.CE
namespace Go.CE
noncomputable section
section
variable {P:PT} {base:Nat→Prop} {α β γ δ:Type} {ρ:Ren}
theorem Cpx{H H':CH}{W:World}(hr:HR base ρ H W){a a':Addr}(h:AR ρ a a'){v:Value}(e:A7a a H=some (v,H')) :
  H'=H∧∃v',VR ρ v v'∧(Go.load a').run P W = .ok v' W:=by
 unfold A7a at e
 split at e
 case h_2=>cases e
 rename_i hs hb
 split at e
 case h_2=>cases e
 rename_i hv
 cases e
 obtain⟨p,hp,rfl⟩:=h
 obtain⟨q,hq,hB⟩:=hr.blk _ _ hb rfl
 rw[hp]at hq;cases hq
 obtain⟨c,h1,h2,_,h3,h4⟩:=hB.cells
 obtain⟨v',h5,h6⟩:=h4 _ _ hv
 refine⟨rfl,v',h6,?_⟩
 have:W.cell? ⟨p.b,a.off+p.d,a.spot⟩=some v':=by
  simp only[World.cell?,h1,hs]
  rw[Nat.add_comm];simpa using h5
 simp only[Go.load,Sem.run,this]
theorem Bc0{H:CH}{W:World}(hr:HR base ρ H W){a a':Addr}(h:AR ρ a a'):∀(m i:Nat) (acc:Array Value) {l:List Value} {H':CH},Aws a i m H=some (l,H')→
  H'=H∧∃l',VRs ρ l l'∧(loadCellsFrom a' i m acc).run P W = .ok (acc++l'.toArray) W
 |0,i,acc,l,H',e=>by
  obtain⟨rfl,rfl⟩:=Abt e
  exact⟨rfl,[],.nil,by simp[loadCellsFrom]⟩
 |m+1,i,acc,l,H',e=>by
  obtain⟨v,H1,e1,f1⟩:=bind_some e
  obtain⟨r,H2,e2,f2⟩:=bind_some f1
  obtain⟨rfl,rfl⟩:=Abt f2
  obtain⟨rfl,v',hv,hrun⟩:=Cpx (P:=P) hr (h.add i) e1
  obtain⟨rfl,l',hl,hrun2⟩:=Bc0 hr h m (i+1) (acc.push v') e2
  refine⟨rfl,v'::l',.cons hv hl,?_⟩
  simp only[loadCellsFrom,Sem.run_bind,hrun,Result.andThen_ok,hrun2]
  congr 1
  simp
theorem Ci2{H H':CH}{W:World}(hr:HR base ρ H W){size n:Nat}{x x':Value}(hx:VR ρ x x'){l:List Value}(e:Ant size n x H=some (l,H')) :
  H'=H∧∃l':Array Value,VRs ρ l l'.toList∧(Builtin.firstCells size n x').run P W = .ok l' W:=by
 cases hx with
 |string s=>
  obtain⟨rfl,rfl⟩:=Abt e
  exact⟨rfl,_,Cuh _,rfl⟩
 |snil l c=>
  obtain⟨rfl,rfl⟩:=Abt e
  exact⟨rfl,#[],.nil,rfl⟩
 |sl a b=>
  obtain⟨h1,l',h2,h3⟩:=Bc0 (P:=P) hr a _ _ #[] e
  exact⟨h1,l'.toArray,by simpa using h2,by simpa [Builtin.firstCells,loadCells]using h3⟩
 |slu a b c d=>
  obtain⟨h1,l',h2,h3⟩:=Bc0 (P:=P) hr ⟨_,a,b⟩ _ _ #[] e
  exact⟨h1,l'.toArray,by simpa using h2,by simpa [Builtin.firstCells,loadCells]using h3⟩
 | _=>cases e
theorem B0u{r:Nat}{t:TypeId}{H H':CH}{u:Unit}(e:Buc r t H=some (u,H')):∃n cs d x,H.m.get r=some (.cells n cs d t x)∧H'={H with m:=T.set .dead 60 H.m r}:=by
 unfold Buc at e
 split at e
 case h_2=>cases e
 rename_i n cs d t' x hb
 split at e
 case h_2=>cases e
 rename_i ht
 have ht:=Nat.eq_of_beq_eq_true ht
 subst ht
 cases e
 exact⟨_,_,_,_,hb,rfl⟩
theorem C7h{Q:Ren→α→β→Prop}{r:Nat}{t:TypeId}{k:Unit→CM α}{s:Sem β}(h:Sim P base ρ Q (k ()) s):Sim P base ρ Q (Buc r t >>= k) s:=by
 intro H W hr y H' e
 obtain⟨u,H1,e1,f1⟩:=bind_some e
 obtain⟨n,cs,d,x,hb,rfl⟩:=B0u e1
 obtain⟨p,hp,_⟩:=hr.blk _ _ hb rfl
 have h1:=(hr.dom _ _ hp).1
 have h2:=hr.big
 exact h _ W (hr.kill (by unfold BIG at h2;omega)) y H' f1
theorem C1n{t:TypeId}{l:List Value}{H H':CH}{a:Addr}(e:Biv t l H=some (a,H')):l.length<BIG∧H.next<BIG∧a=⟨H.next,0,none⟩∧H'=⟨H.next+1,T.set (.cells l.length (Aov l 0 .e) .nilIface t false) 60 H.m H.next⟩:=by
 unfold Biv at e
 split at e
 case h_2=>cases e
 rename_i hlb
 have hlb:l.length<BIG:=by simpa [Nat.blt_eq]using hlb
 split at e
 case h_2=>cases e
 rename_i i H1 e1
 cases e
 rw[Bg8]at e1
 split at e1
 case h_2=>cases e1
 rename_i hnb
 have hnb:H.next<BIG:=by simpa [Nat.blt_eq]using hnb
 cases e1
 exact⟨hlb,hnb,rfl,rfl⟩
theorem Cqf{ts:Array TypeId}{t ty elem:TypeId}{size n l c:Nat}{a a':Addr}{p:Pl}{x x':Value}(ht:ts[0]? = some t)(hxi:Bud P ts[1]? = some false)(hu:under P t=some (.slice elem))(hsz:Akk P elem=some size)(hnx:Cfp x=some n)(hx:VR ρ x x')(hp:ρ a.block=some p)(ha:a'=⟨p.b,a.off+p.d,a.spot⟩)(hlc:l≤c)(hcap:a'.off+c*size≤p.n)(hg:Bjc P elem size (l+n)=true) :
  Sim P base ρ VR (do
    let old ←Ant size l (.slice (some a) l (UNK+size))
    let new ←Ant size n x
    match (Nat.beq (old.length+new.length) ((l+n)*size)&&Nat.beq a.off 0),new.all Azg,a.spot with
    |true,true,none=>do
     Buc a.block elem
     let b ←Biv elem (old++new)
     CM.ret (.slice (some b) (l+n) (UNK+size))
    | _,_,_=>CM.fail) (Builtin.append_ ts ty #[.slice (some a') l c,x']):=by
 have hn:∀W,(Builtin.lenOf x').run P W = .ok n W:=B0t hx hnx
 have hs:VR ρ (.slice (some a) l (UNK+size)) (.slice (some a') l c):=.slu hp ha hlc hcap
 have hA:AR ρ a a':=⟨p,hp,ha⟩
 by_cases hle:l+n≤c
 ·-- in place
  intro H W hr y H' e
  obtain⟨old,H1,e1,f1⟩:=bind_some e
  obtain⟨rfl,hol,hoc⟩:=B6t (a:=a) (i:=0) (m:=l*size) e1
  obtain⟨_,oldv,hov,_⟩:=Ci2 (P:=P) hr hs e1
  obtain⟨new,H2,e2,f2⟩:=bind_some f1
  obtain⟨rfl,new',hnv,hnrun⟩:=Ci2 (P:=P) hr hx e2
  cases hlen:(Nat.beq (old.length+new.length) ((l+n)*size)&&Nat.beq a.off 0) with
  |false=>simp only[hlen]at f2;cases f2
  |true=>
  cases hall:new.all Azg with
  |false=>simp only[hlen,hall]at f2;cases f2
  |true=>
  cases hspot:a.spot with
  |some sp=>simp only[hlen,hall,hspot]at f2;cases f2
  |none=>
  simp only[hlen,hall,hspot]at f2
  have hlen2:=(Bool.and_eq_true _ _).mp hlen
  have hlen:=Nat.eq_of_beq_eq_true hlen2.1
  have hoff0:=Nat.eq_of_beq_eq_true hlen2.2
  obtain⟨_,H3,e3,f3⟩:=bind_some f2
  obtain⟨n0,cs,d,x0,hb,rfl⟩:=B0u e3
  obtain⟨b,H4,e4,f4⟩:=bind_some f3
  obtain⟨hlb,hnb,rfl,rfl⟩:=C1n e4
  obtain⟨rfl,rfl⟩:=Abt f4
  obtain⟨q,hq,hB⟩:=hr.blk _ _ hb rfl
  rw[hp]at hq;cases hq
  obtain⟨c0,k1,k2,k3,k4,k5⟩:=hB.cells
  have hplt:=(hr.dom _ _ hp).2.2
  have hnl:new'.toList.length=new.length:=hnv.length.symm
  have hmul:(l+n)*size≤c*size:=Nat.mul_le_mul_right _ hle
  have hoff:a'.off=a.off+p.d:=by rw[ha]
  have hall':new'.toList.all Azg=true:=by
   rw[List.all_eq_true]
   intro v hv
   obtain⟨i,hi⟩:=List.getElem?_of_mem hv
   have hi2:i<new.length:=by rw[←hnl];exact (List.getElem?_eq_some_iff.1 hi).1
   obtain⟨v',h1,h2⟩:=hnv.get i new[i] (by simp[hi2])
   rw[hi]at h1;cases h1
   exact C1m h2 (List.all_eq_true.1 hall _ (List.getElem_mem hi2))
  obtain⟨W',s1,s2,s3,s4,s5⟩:=Bxs (P:=P) (b:=p.b) (off:=a.off+p.d+l*size) (t:=elem) new'.toList 0 W c0 k1 (by rw[k2,hnl];omega) hall'
  obtain⟨hle1,hmv⟩:=hr.move (W':=W') (d:=a.off+p.d) (cb':=.cells (old++new).length (Aov (old++new) 0 .e) .nilIface elem false) hb rfl hp hnb (by rw[hoff0,hr.zero _ _ hp]) (by rw[s5];simp)
   (fun b hbn=>by rw[s5,Array.getElem?_setIfInBounds_ne (fun e=>hbn e.symm)]) (fun ρ' hρ'=>by
    refine⟨wr c0 (a.off+p.d+l*size+0) new'.toList,by rw[s5,Array.getElem?_setIfInBounds,if_pos rfl,if_pos hplt],by rw[Cz9];exact k2,(fun h=>by cases h),?_,fun k v hv=>?_⟩
    ·simp only[List.length_append];omega
    ·obtain⟨hk,hv⟩:=Bg7 hv
     have hl:(old++new)[k]? = some (old++new)[k]:=by simp[hk]
     have hof:=A7b (old++new) 0 .e k _ (by omega) hl
     rw[Nat.zero_add]at hof
     rw[hof]at hv
     simp only[Option.getD_some]at hv
     subst hv
     show ∃v',(wr c0 (a.off+p.d+l*size+0) new'.toList)[a.off+p.d+k]? = some v'∧_
     by_cases hko:k<old.length
     ·rcases hoc with h0|⟨n1,cs1,d1,t1,x1,hb1,hc1⟩
      ·rw[h0]at hol;omega
      ·rw[hb]at hb1;cases hb1
       have hgo:old[k]? = some (old++new)[k]:=by rw[←hl,List.getElem?_append_left hko]
       have:=hc1 k _ hgo
       rw[Nat.zero_add]at this
       obtain⟨v',j1,j2⟩:=k5 _ _ this
       refine⟨v',?_,j2.mono hρ'⟩
       rw[C1l _ _ _ _ (by omega),show a.off+p.d+k=p.d+(a.off+k) by omega]
       exact j1
     ·have hgn:new[k-old.length]? = some (old++new)[k]:=by rw[←hl,List.getElem?_append_right (by omega)]
      obtain⟨v',j1,j2⟩:=hnv.get _ _ hgn
      refine⟨v',?_,j2.mono hρ'⟩
      have:=C4s new'.toList c0 (a.off+p.d+l*size+0) (k-old.length) v' (by rw[k2,hnl];omega) j1
      rw[show a.off+p.d+k=a.off+p.d+l*size+0+(k-old.length) by omega]
      exact this)
  refine⟨_,.slice (some a') (l+n) c,W',hle1,?_,hmv,⟨s2,s3,s4,by rw[s5];simp,fun b hbb=>?_⟩,?_⟩
  ·rw[Cpw ht hxi hu hsz hn hle W]
   have hadd:a'.add (l*size)=⟨p.b,a.off+p.d+l*size,none⟩:=by
    rw[ha,hspot];unfold Addr.add;split<;>simp_all
   simp only[Sem.run_bind,hnrun,Result.andThen_ok,hadd,s1,Sem.run_pure]
  ·have:=(hr.dom _ _ hp).2.1
   rw[s5,Array.getElem?_setIfInBounds_ne (fun e=>this (by rw[e];exact hbb))]
  ·refine .slu (p:=⟨p.b,a.off+p.d,p.n⟩) (by simp[Ren.put]) ?_ hle hcap
   rw[ha,hspot];simp
 ·-- moved
  intro H W hr y H' e
  obtain⟨nc,z,hz,hzs,hle2,hrun⟩:=Cuj (ty:=ty) (b:=some a') ht hxi hu hsz hn hle hg W
  have key:Sim P base ρ VR (do
    let old ←Ant size l (.slice (some a) l (UNK+size))
    let new ←Ant size n x
    match (Nat.beq (old.length+new.length) ((l+n)*size)&&Nat.beq a.off 0),new.all Azg,a.spot with
    |true,true,none=>do
     Buc a.block elem
     let b ←Biv elem (old++new)
     CM.ret (.slice (some b) (l+n) (UNK+size))
    | _,_,_=>CM.fail) (do
    let old ←Builtin.firstCells size l (.slice (some a') l c)
    let new ←Builtin.firstCells size n x'
    pure (Value.slice (some (←newRow elem (old++new++Builtin.zeroCells z.cells (nc-(l+n))))) (l+n) nc)):=by
   refine Sim.bind (A0c hs) fun ρ1 old old' h1 ho=>Sim.bind (A0c (hx.mono h1)) fun ρ2 new new' h2 hn=>?_
   split
   case h_2=>exact Sim.fail
   rename_i hb _ _
   have hb:=Nat.eq_of_beq_eq_true ((Bool.and_eq_true _ _).mp hb).1
   refine C7h ?_
   have hall:=(ho.mono h2).app hn
   have he:old'++new'++Builtin.zeroCells z.cells (nc-(l+n))=⟨(old'.toList++new'.toList)++(Builtin.zeroCells z.cells (nc-(l+n))).toList⟩:=by
    apply Array.ext';simp
   rw[he]
   refine Sim.mapRet (Cui hall) fun ρ3 a b _ ⟨q1,q2,p,q3,q4,q5,q6⟩=>?_
   refine .slu q3 (by rw[q6,q1,q4,q2]) hle2 ?_
   rw[q6,q5]
   have l1:=ho.length
   have l2:=hn.length
   have l3:(Builtin.zeroCells z.cells (nc-(l+n))).toList.length=(nc-(l+n))*size:=by simp[Builtin.zeroCells,hzs]
   simp only[List.length_append,l3,←l1,←l2]
   show 0+nc*size≤_
   have:nc*size=(l+n)*size+(nc-(l+n))*size:=by rw[←Nat.add_mul];congr 1;omega
   omega
  obtain⟨ρ1,v,W1,k1,k2,k3,k4,k5⟩:=key H _ hr.drawn y H' e
  exact⟨ρ1,v,W1,k1,by rw[hrun];exact k2,k3,⟨k4.os,k4.tape,k4.output,k4.size,k4.frame⟩,k5⟩
end
end
end Go.CE

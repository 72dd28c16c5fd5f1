/- A reading of the model's code over typed data,proved sound: calls,regions,code. -/
import Derived.Test.YtjdklngopfpjgaaGreatX3
import Derived.Orders
import Derived.Scope
namespace Go.AX
noncomputable section
structure Csk(f f':Awd)(b b':Aau)(vr:Nat→Option Nat)(σ:Ren):Prop where
 foot:f'=f
 is:∃v,b'=Ai2 v (b.ren σ)
 ver:∀v v',vr v=some v'→v≤b.ver→v'≤b'.ver∧(b'.ver=v'→b.ver=v)
theorem C9y(b:Aau)(σ:Ren):(b.ren σ).ver=b.ver:=by cases b<;>rfl
def FF(F F':Fz)(flat:Bool):Prop:=(∀b o,F b=some o→F' b=some o)∨flat=true
theorem RC.ff{F F':Fz}{t:Ty}{v:t.den}{cs:List Value}(h:RC F t v cs)(hF:FF F F' t.flat):RC F' t v cs:=by
 rcases hF with hF|hF
 ·exact h.mono hF
 ·exact h.of_flat hF
theorem RA.ren{F F':Fz}{ρ ρ':Rho}{hp hp':Aam}{σ:Ren}(hσ:∀id b,hp id=some b→∀i vr,σ id=some (i,vr)→∃b',hp' i=some b'∧Csk (ρ id) (ρ' i) b b' vr σ) :
  ∀{x:Apg} {r:Value},FF F F' x.flat→RA F ρ hp x r→RA F' ρ' hp' (x.ren σ) r
 | .undef,_,_,_=>trivial
 | .val t v,_,hF,h=>RC.ff h hF
 | .nilsl,_,_,h=>h
 | .ecap,_,_,h=>h
 | .nvl t xs,_,hF,h=>by
  rcases hF with hF|hF
  ·exact⟨RC.mono hF h.1,h.2⟩
  ·simp[Apg.flat]at hF
 | .nilptr,_,_,h=>h
 | .nilmap,_,_,h=>h
 | .nilfn,_,_,h=>h
 | .nilif,_,_,h=>h
 | .slf id ver,r,_,h=>by
  obtain⟨b,hb,hv,A,l,c,rfl,hc⟩:=h
  simp only[Apg.ren]
  cases hs:σ id with
  |none=>trivial
  |some p=>
   obtain⟨i,vr⟩:=p
   obtain⟨b',hb',hf,⟨v,rfl⟩,hver⟩:=hσ id b hb i vr hs
   simp only
   cases hvr:vr ver with
   |none=>trivial
   |some v'=>
    obtain⟨h1,h2⟩:=hver _ _ hvr hv
    refine⟨_,hb',h1,A,l,c,rfl,fun e=>?_⟩
    have:=hc (h2 e)
    cases b<;>simp only[Aau.ren,Ai2]at this ⊢<;>first|exact this.elim|(rw[hf];exact this)
 | .sl id ver off len,r,_,h=>by
  obtain⟨b,hb,hv,A,l,c,rfl,hc⟩:=h
  simp only[Apg.ren]
  cases hs:σ id with
  |none=>trivial
  |some p=>
   obtain⟨i,vr⟩:=p
   obtain⟨b',hb',hf,⟨v,rfl⟩,hver⟩:=hσ id b hb i vr hs
   simp only
   cases hvr:vr ver with
   |none=>trivial
   |some v'=>
    obtain⟨h1,h2⟩:=hver _ _ hvr hv
    refine⟨_,hb',h1,A,l,c,rfl,fun e=>?_⟩
    have:=hc (h2 e)
    cases b<;>simp only[Aau.ren,Ai2]at this ⊢<;>first|exact this.elim|(rw[hf];exact this)
 | .ptr id ver idx fld,r,_,h=>by
  obtain⟨b,hb,hv,ad,rfl,hc⟩:=h
  simp only[Apg.ren]
  cases hs:σ id with
  |none=>trivial
  |some p=>
   obtain⟨i,vr⟩:=p
   obtain⟨b',hb',hf,⟨v,rfl⟩,hver⟩:=hσ id b hb i vr hs
   simp only
   cases hvr:vr ver with
   |none=>trivial
   |some v'=>
    obtain⟨h1,h2⟩:=hver _ _ hvr hv
    refine⟨_,hb',h1,ad,rfl,fun e=>?_⟩
    have:=hc (h2 e)
    cases b<;>simp only[Aau.ren,Ai2]at this ⊢<;>first|exact this.elim|(rw[hf];exact this)
 | .fptr t xs idx fld,r,hF,h=>by
  rcases hF with hF|hF
  ·obtain⟨hi,b,o,c,T,fr,rfl,hb,ho,hr⟩:=h
   exact⟨hi,b,o,c,T,fr,rfl,hF _ _ hb,ho,hr.mono hF⟩
  ·simp[Apg.flat]at hF
 | .mp id,r,_,h=>by
  obtain⟨b,bb,hb,hi,hbs,rfl⟩:=h
  simp only[Apg.ren]
  cases hs:σ id with
  |none=>trivial
  |some p=>
   obtain⟨i,vr⟩:=p
   obtain⟨b',hb',hf,⟨v,rfl⟩,hver⟩:=hσ id _ hb i vr hs
   exact⟨_,bb,hb',(by cases b<;>first|rfl|cases hi),by rw[hf];exact hbs,rfl⟩
 | .vs id n,r,_,h=>by
  obtain⟨b,hb,A,l,c,rfl,hc⟩:=h
  simp only[Apg.ren]
  cases hs:σ id with
  |none=>trivial
  |some p=>
   obtain⟨i,vr⟩:=p
   obtain⟨b',hb',hf,⟨v,rfl⟩,hver⟩:=hσ id b hb i vr hs
   simp only
   cases hvr:vr 0 with
   |none=>trivial
   |some v'=>
    refine⟨_,hb',A,l,c,rfl,?_⟩
    cases b<;>simp only[Aau.ren,Ai2]at hc ⊢
    rw[hf];exact hc
 | .pr id k fld,r,_,h=>by
  obtain⟨T,t,xs,hb,bb,hbs,rfl⟩:=h
  simp only[Apg.ren]
  cases hs:σ id with
  |none=>trivial
  |some p=>
   obtain⟨i,vr⟩:=p
   obtain⟨b',hb',hf,⟨v,rfl⟩,hver⟩:=hσ id _ hb i vr hs
   exact⟨T,t,xs,hb',bb,by rw[hf];exact hbs,rfl⟩
 | .po id o,r,_,h=>by
  simp only[Apg.ren]
  cases hs:σ id with
  |none=>trivial
  |some p=>
   obtain⟨i,vr⟩:=p
   cases o with
   |none=>exact⟨fun h=>(by cases h),h.2⟩
   |some k=>
    obtain⟨h1,h2⟩:=h
    obtain⟨T,t,xs,hb⟩:=h1 rfl
    obtain⟨b',hb',hf,⟨v,rfl⟩,hver⟩:=hσ id _ hb i vr hs
    exact⟨fun _=>⟨T,t,xs,hb'⟩,by rw[hf];exact h2⟩
theorem FF.of_all{α:Type}{F F':Fz}{f:α→Bool}{l:List α}(h:FF F F' (l.all f)){x:α}(hx:x∈l):FF F F' (f x):=by
 rcases h with h|h
 ·exact .inl h
 ·exact .inr (List.all_eq_true.1 h x hx)
theorem A4r{α β:Type}{R S:α→β→Prop}{g:α→α}:∀{l:List α} {m:List β},(∀x∈l,∀y,R x y→S (g x) y)→Abs R l m→Abs S (l.map g) m
 |[],[],_,_=>trivial
 | _::_,_::_,h,⟨x,y⟩=>⟨h _ (by simp) _ x,A4r (fun z hz=>h z (by simp[hz])) y⟩
 |[],_::_,_,x=>x.elim
 | _::_,[],_,x=>x.elim
section
variable {F F':Fz} {ρ ρ':Rho} {hp hp':Aam} {σ:Ren} (hσ:∀id b,hp id=some b→∀i vr,σ id=some (i,vr)→∃b',hp' i=some b'∧Csk (ρ id) (ρ' i) b b' vr σ)
include hσ
theorem Abm.ren{x:Aby}{r:Value}(hF:FF F F' x.flat)(h:Abm F ρ hp x r):Abm F' ρ' hp' (x.ren σ) r:=by
 cases x with
 |a x=>exact RA.ren hσ hF h
 |func f caps=>obtain⟨cs,rfl,h⟩:=h;exact⟨cs,rfl,A4r (fun x hx y hy=>RA.ren hσ (FF.of_all hF hx) hy) h⟩
 |meth f caps=>obtain⟨cs,rfl,h⟩:=h;exact⟨cs,rfl,A4r (fun x hx y hy=>RA.ren hσ (FF.of_all hF hx) hy) h⟩
 |iface T cs=>obtain⟨v,rfl,h⟩:=h;exact⟨v,rfl,A4r (fun x hx y hy=>RA.ren hσ (FF.of_all hF hx) hy) h⟩
theorem RV1.ren{x:V1}{r:Value}(hF:FF F F' x.flat)(h:RV1 F ρ hp x r):RV1 F' ρ' hp' (x.ren σ) r:=by
 cases x with
 |one c=>exact Abm.ren hσ hF h
 |agg cs=>obtain⟨rs,rfl,h⟩:=h;exact⟨rs,rfl,A4r (fun x hx y hy=>Abm.ren hσ (FF.of_all hF hx) hy) h⟩
theorem RV.ren{x:AV}{r:Value}(hF:FF F F' x.flat)(h:RV F ρ hp x r):RV F' ρ' hp' (x.ren σ) r:=by
 cases x with
 |v x=>exact RV1.ren hσ hF h
 |tup xs=>obtain⟨rs,rfl,h⟩:=h;exact⟨rs,rfl,A4r (fun x hx y hy=>RV1.ren hσ (FF.of_all hF hx) hy) h⟩
 |z n v=>exact h
theorem BR.ren{b:Aau}{W:World}{id i v:Nat}(hF:FF F F' b.flat)(hfz:b.fz=false)(hok:b.renOk σ=true)(hρ:ρ' i=ρ id)(h:BR F ρ hp W id b):BR F' ρ' hp' W i (Ai2 v (b.ren σ)):=by
 cases b with
 |cells T cs=>
  obtain⟨bb,rs,fr,h1,h2,h3,h4⟩:=h
  exact⟨bb,rs,fr,by rw[hρ];exact h1,h2,h3,A4r (fun x hx y hy=>Abm.ren hσ (FF.of_all hF hx) hy) h4⟩
 |row E t ver fz xs=>
  have hFt:FF F F' t.flat:=by
   rcases hF with hF|hF
   ·exact .inl hF
   ·simp[Aau.flat]at hF;exact .inr hF.1
  simp only[Aau.fz]at hfz;subst hfz
  rcases h with ⟨h1,h2,h3⟩|⟨bb,rs,fr,h1,h2,h3,h4,h5,h6,h7⟩
  ·exact .inl ⟨by rw[hρ];exact h1,h2,by rw[hρ];exact h3⟩
  ·exact .inr ⟨bb,rs,fr,by rw[hρ];exact h1,h2,h3,by rw[hρ];exact h4,by rw[hρ];exact h5,fun i hi=>(h6 i hi).ff hFt,fun h=>by cases h⟩
 |amap T kt et m=>
  obtain⟨bb,es,clk,h1,h2,h3⟩:=h
  have hk:FF F F' kt.flat∧FF F F' et.flat:=by
   rcases hF with hF|hF
   ·exact⟨.inl hF,.inl hF⟩
   ·simp[Aau.flat]at hF;exact⟨.inr hF.1,.inr hF.2⟩
  exact⟨bb,es,clk,by rw[hρ];exact h1,h2,h3.mono fun _ _ ⟨p,q⟩=>⟨p.ff hk.1,q.ff hk.2⟩⟩
 |fmap T k m=>
  obtain⟨bb,es,clk,h1,h2,h3⟩:=h
  exact⟨bb,es,clk,by rw[hρ];exact h1,h2,A4r (fun x hx y ⟨hy1,hy2⟩=>⟨hy1,Abm.ren hσ (FF.of_all (f:=fun p:Int×Aby=>p.2.flat) hF hx) hy2⟩) h3⟩
 |pool T t xs=>
  obtain⟨h1,h2,h3⟩:=h
  refine⟨by rw[hρ];exact h1,by rw[hρ];exact h2,fun k x hx=>?_⟩
  obtain⟨bb,rs,fr,v,g1,g2,g3,g4,g5⟩:=h3 k x hx
  exact⟨bb,rs,fr,v,by rw[hρ];exact g1,g2,g3,g4.ff hF,by rw[hρ];exact g5⟩
 |pmap T k pid m=>
  obtain⟨⟨Tp,tp,xp,hpp⟩,bb,es,clk,h1,h2,h3⟩:=h
  simp only[Aau.renOk]at hok
  cases hs:σ pid with
  |none=>rw[hs]at hok;cases hok
  |some p=>
   obtain⟨j,vr⟩:=p
   obtain⟨b',hb',hf,⟨v,rfl⟩,hver⟩:=hσ pid _ hpp j vr hs
   simp only[Aau.ren,hs,Ai2]
   exact⟨⟨Tp,tp,xp,hb'⟩,bb,es,clk,by rw[hρ];exact h1,h2,by rw[hf];exact h3⟩
end
end
end Go.AX
namespace Go.AX
noncomputable section
theorem Aj2{hp:Aam}:∀{l:List (Nat×Aau)} {k:Nat},k∉l.map (·.1)→Aa3 hp l k=hp k
 |[],_,_=>rfl
 |(id,b)::r,k,h=>by
  simp only[List.map_cons,List.mem_cons,not_or]at h
  simp only[Aa3]
  rw[Aj2 h.2,Ad6 h.1]
theorem Bt8{hp:Aam}:∀{l:List (Nat×Aau)} {k:Nat} {b:Aau},(l.map (·.1)).Nodup→(k,b)∈l→Aa3 hp l k=some b
 |[],_,_,_,h=>by simp at h
 |(id,c)::r,k,b,hn,h=>by
  simp only[List.map_cons,List.nodup_cons]at hn
  simp only[List.mem_cons,Prod.mk.injEq]at h
  simp only[Aa3]
  rcases h with ⟨rfl,rfl⟩|h
  ·rw[Aj2 hn.1];simp
  ·exact Bt8 hn.2 h
theorem Cd8{hp:Aam}:∀{l:List (Nat×Aau)} {k:Nat} {b:Aau},Aa3 hp l k=some b→(k,b)∈l∨(k∉l.map (·.1)∧hp k=some b)
 |[],_,_,h=>.inr ⟨by simp,h⟩
 |(id,c)::r,k,b,h=>by
  simp only[Aa3]at h
  rcases Cd8 h with h' |⟨h1,h2⟩
  ·exact .inl (List.mem_cons_of_mem _ h')
  ·by_cases e:k=id
   ·subst e;rw[Afw]at h2;cases h2;exact .inl (List.mem_cons_self ..)
   ·rw[Ad6 e]at h2
    refine .inr ⟨?_,h2⟩
    simp only[List.map_cons,List.mem_cons,not_or]
    exact⟨e,h1⟩
theorem Cig{hp:Aam}{l:List (Nat×Aau)}{k:Nat}(h:k∈l.map (·.1)):∃b,Aa3 hp l k=some b:=by
 induction l generalizing hp with
 |nil=>simp at h
 |cons p r ih=>
  obtain⟨id,c⟩:=p
  simp only[Aa3]
  by_cases hk:k∈r.map (·.1)
  ·exact ih hk
  ·simp only[List.map_cons,List.mem_cons]at h
   rcases h with rfl|h
   ·rw[Aj2 hk];exact⟨c,by simp⟩
   ·exact absurd h hk
theorem B0e{g:List Bool}{hp:Aam}:∀{l:List (Nat×Aau)} {id:Nat} {b:Aau},Af5 g hp l=true→(id,b)∈l→id<32→∃b0,hp id=some b0∧match b0,b with
   | .cells _ _,.cells _ _=>True
   | .amap _ _ _ _,.amap _ _ _ _=>True
   | .fmap _ _ _,.fmap _ _ _=>True
   | .pool _ _ _,.pool _ _ _=>True
   | .pmap _ _ p _,.pmap _ _ q _=>p=q
   | .row _ _ v fz _,.row _ _ v' fz' _=>fz=fz'∧(v=v'∨g.getD id false=true)
   | _,_=>False
 |[],_,_,_,h,_=>by simp at h
 |(i,c)::r,id,b,hg,h,hlt=>by
  simp only[List.mem_cons,Prod.mk.injEq]at h
  rcases h with ⟨rfl,rfl⟩|h
  ·obtain⟨b0,h0,hm⟩:=(A65 hg).2 hlt
   refine⟨b0,h0,?_⟩
   cases b0<;>cases b<;>exact hm
  ·exact B0e (A65 hg).1 h hlt
theorem C4b{d i j:Nat}(h:Aa5 d i=Aa5 d j):i=j:=by simp[Aa5]at h;omega
theorem A95(hp:Aam):∀(n:Nat) (r acc:List Nat),acc.Nodup→(A2a hp n r acc).Nodup
 |0,_,_,h=>h
 | _+1,[],_,h=>h
 |n+1,id::r,acc,h=>by
  simp only[A2a]
  split
  ·exact A95 hp n r acc h
  ·rename_i hm
   split
   ·refine A95 hp n _ _ ?_
    rw[List.nodup_append]
    refine⟨h,by simp,fun a ha b hb=>?_⟩
    simp at hb;subst hb
    rintro rfl
    rw[Ahf.2 ha]at hm;cases hm
   ·exact A95 hp n r acc h
theorem Cih{x:Nat}:∀{l:List Nat} {i k:Nat},A0k x l i=some k→i≤k∧l[k-i]? = some x
 |[],_,_,h=>by cases h
 |y::r,i,k,h=>by
  simp only[A0k]at h
  split at h
  ·rename_i e;cases h;have:=Aa8 e;subst this;simp
  ·obtain⟨h1,h2⟩:=Cih h
   refine⟨by omega,?_⟩
   have:k-i=(k-(i+1))+1:=by omega
   rw[this];simpa using h2
theorem Bb7{x:Nat}:∀{l:List Nat} {i j:Nat},l.Nodup→l[j]? = some x→A0k x l i=some (i+j)
 |[],_,_,_,h=>by simp at h
 |y::r,i,0,hn,h=>by simp at h;subst h;simp[A0k]
 |y::r,i,j+1,hn,h=>by
  simp only[List.nodup_cons]at hn
  have hx:x∈r:=List.mem_of_getElem? (by simpa using h)
  have:x≠y:=by rintro rfl;exact hn.1 hx
  simp only[A0k,A4p this]
  rw[Bb7 (i:=i+1) (j:=j) hn.2 (by simpa using h)]
  congr 1;omega
theorem B0f{x:Nat}:∀{l:List Nat} {i:Nat},x∉l→A0k x l i=none
 |[],_,_=>rfl
 |y::r,i,h=>by
  simp only[List.mem_cons,not_or]at h
  simp only[A0k,A4p h.1]
  exact B0f h.2
theorem Bvy{hq:Aam}{σ:Ren}:∀{ids:List Nat} {bl:List Aau},A0l hq σ ids=some bl→bl.length=ids.length∧
  ∀(i id:Nat),ids[i]? = some id→∃b:Aau,hq id=some b∧b.fz=false∧b.renOk σ=true∧bl[i]? = some (Ai2 0 (b.ren σ))
 |[],bl,h=>by cases h;simp
 |id::r,bl,h=>by
  simp only[A0l]at h
  split at h
  ·cases h
  ·rename_i b s hb hs hn
   split at h
   case h_2=>cases h
   rename_i hok
   cases h
   obtain⟨h1,h2⟩:=Bvy hn
   refine⟨by simp[h1],fun i id' hi=>?_⟩
   cases i with
   |zero=>
    simp at hi;subst hi
    refine⟨b,hs,?_,hok,by simp⟩
    cases b with
    |row E t ver fz xs=>
     cases fz with
     |true=>exact absurd rfl (hb E t ver xs)
     |false=>rfl
    | _=>rfl
   |succ i=>simpa using h2 i id' (by simpa using hi)
  ·cases h
theorem Bpv{hq:Aam}{g:List Bool}{all:List Nat}{τ:Ren}:∀{ids:List Nat} {n:Nat} {bl':List Aau} {l:List (Nat×Aau)},Bi8 hq g all τ ids n bl'=some l→
  bl'.length=ids.length∧l.map (·.1)=ids∧∀(i id:Nat),ids[i]? = some id→∃b0 b:Aau,hq id=some b0∧bl'[i]? = some b∧(Bi7 b0 b=true∧b.renOk τ=true∧Cse b0 (b.ren τ)=true)∧(id,Ai2 (Aot hq g all (n+i)) (b.ren τ))∈l
 |[],_,[],l,h=>by cases h;simp
 |[],_,_::_,l,h=>by cases h
 | _::_,_,[],l,h=>by cases h
 |id::r,n,b::s,l,h=>by
  simp only[Bi8]at h
  split at h
  ·rename_i b0 l1 h0 h1
   split at h
   ·rename_i hk
    simp only[Bool.and_eq_true]at hk
    cases h
    obtain⟨i1,i2,i3⟩:=Bpv h1
    refine⟨by simp[i1],by simp[i2],fun i id' hi=>?_⟩
    cases i with
    |zero=>simp at hi;subst hi;exact⟨b0,b,h0,by simp,hk,by simp⟩
    |succ i=>
     obtain⟨c0,c,j1,j2,j3,j4⟩:=i3 i id' (by simpa using hi)
     refine⟨c0,c,j1,by simpa using j2,j3,List.mem_cons_of_mem _ ?_⟩
     have:n+1+i=n+(i+1):=by omega
     rw[this]at j4;exact j4
   ·cases h
  ·cases h
theorem Cd9{hq:Aam}{dst:Nat}{τ:Ren}:∀{nw:List Aau} {n:Nat} {l:List (Nat×Aau)},Bpn hq dst τ n nw=some l→
  l.map (·.1)=(List.range nw.length).map (fun j=>Aa5 dst (n+j))∧∀(j:Nat) (b:Aau),nw[j]? = some b→n+j<24∧hq (Aa5 dst (n+j))=none∧(b.fz=false∧b.renOk τ=true)∧(Aa5 dst (n+j),b.ren τ)∈l
 |[],n,l,h=>by cases h;simp
 |b::r,n,l,h=>by
  simp only[Bpn]at h
  split at h
  ·rename_i l1 hc hn hr
   cases h
   obtain⟨i1,i2⟩:=Cd9 hr
   simp only[Bool.and_eq_true]at hc
   refine⟨?_,fun j c hj=>?_⟩
   ·simp only[List.map_cons,i1,List.length_cons,List.range_succ_eq_map,List.map_map]
    simp only[Nat.add_zero]
    congr 1
    apply List.map_congr_left
    intro j _
    simp only[Function.comp]
    congr 1;omega
   ·cases j with
    |zero=>
     simp at hj;subst hj
     refine⟨by have:=Nat.blt_eq.mp hc.1;omega,hn,⟨?_,hc.2.1⟩,by simp⟩
     cases b with
     |row E t ver fz xs=>have:=hc.2.2;simp at this;simpa [Aau.fz]using this
     | _=>rfl
    |succ j=>
     obtain⟨j1,j2,j3,j4⟩:=i2 j c (by simpa using hj)
     have e:n+1+j=n+(j+1):=by omega
     rw[e]at j1 j2 j4
     exact⟨j1,j2,j3,List.mem_cons_of_mem _ j4⟩
  ·cases h
theorem Cqb(dst n:Nat):((List.range n).map (fun j=>Aa5 dst (0+j))).Nodup:=by
 rw[List.nodup_iff_pairwise_ne,List.pairwise_map]
 have:=List.nodup_range (n:=n)
 rw[List.nodup_iff_pairwise_ne]at this
 exact this.imp fun {a b} h e=>h (by have:=C4b e;omega)
theorem Bxb(b:Aau)(τ:Ren):Ai2 b.ver (b.ren τ)=b.ren τ:=by cases b<;>rfl
end
end Go.AX
namespace Go.AX
noncomputable section
def Ayl(ρ:Rho)(ids:List Nat):Rho:=fun i=>match ids[i]? with|some id=>ρ id|none=>⟨[],0⟩
theorem Czz{hq:Aam}{ids:List Nat}{bl:List Aau}{σ:Ren}(h:A0l hq σ ids=some bl)(h32:ids.length<32){i:Nat}{b':Aau}(hi:Af4 bl [] i=some b') :
  ∃id b,ids[i]? = some id∧hq id=some b∧(b.fz=false∧b.renOk σ=true)∧b'=Ai2 0 (b.ren σ):=by
 obtain⟨h1,h2⟩:=Bvy h
 simp only[Af4]at hi
 split at hi
 ·simp at hi
 ·have hlt:i<bl.length:=by
   rcases Nat.lt_or_ge i bl.length with h|h
   ·exact h
   ·rw[List.getElem?_eq_none h]at hi;cases hi
  have:ids[i]? = some (ids[i]'(by omega)):=by simp
  obtain⟨b,k1,k2,k4,k3⟩:=h2 i _ this
  rw[hi]at k3;cases k3
  exact⟨_,b,this,k1,⟨k2,k4⟩,rfl⟩
theorem Ca9{hq:Aam}{ids:List Nat}{bl:List Aau}{σ:Ren}(h:A0l hq σ ids=some bl)(h32:ids.length<32){i id:Nat}(hi:ids[i]? = some id) :
  ∃b,hq id=some b∧(b.fz=false∧b.renOk σ=true)∧Af4 bl [] i=some (Ai2 0 (b.ren σ)):=by
 obtain⟨h1,h2⟩:=Bvy h
 obtain⟨b,k1,k2,k4,k3⟩:=h2 i id hi
 refine⟨b,k1,⟨k2,k4⟩,?_⟩
 have hlt:i<ids.length:=by
  rcases Nat.lt_or_ge i ids.length with h|h
  ·exact h
  ·rw[List.getElem?_eq_none h]at hi;cases hi
 simp only[Af4]
 have:Nat.ble 32 i=false:=by
  cases e:Nat.ble 32 i with
  |false=>rfl
  |true=>have:=Nat.le_of_ble_eq_true e;omega
 rw[this];exact k3
theorem C03{l:List Nat}(hn:l.Nodup){i j x:Nat}(hi:l[i]? = some x)(hj:l[j]? = some x):i=j:=by
 have a:=Bb7 (i:=0) hn hi
 have b:=Bb7 (i:=0) hn hj
 rw[a]at b;simpa using b
section
variable {F Fc:Fz} {ρ:Rho} {hp hq:Aam} {W:World} {ids:List Nat} {bl:List Aau}
theorem Ctp(hn:ids.Nodup)(hsub:∀id,id∈ids→∀b,hq id=some b→hp id=some b)(h32:ids.length<32)(hb:A0l hq (Bin hq ids) ids=some bl) :
  ∀id b,hp id=some b→∀i vr,Bin hq ids id=some (i,vr)→∃b',Af4 bl [] i=some b'∧Csk (ρ id) (Ayl ρ ids i) b b' vr (Bin hq ids):=by
 intro id b hid i vr hσ
 simp only[Bin]at hσ
 split at hσ
 case h_2=>cases hσ
 rename_i k hk
 split at hσ
 case h_2=>cases hσ
 rename_i b0 hb0
 cases hσ
 obtain⟨_,hki⟩:=Cih hk
 simp only[Nat.sub_zero]at hki
 have hm:id∈ids:=List.mem_of_getElem? hki
 have:=hsub id hm _ hb0
 rw[hid]at this;cases this
 obtain⟨c,c1,c2,c3⟩:=Ca9 hb h32 hki
 rw[hb0]at c1;cases c1
 refine⟨_,c3,by simp[Ayl,hki],⟨0,rfl⟩,fun v v' hv hle=>?_⟩
 try simp only at hv
 split at hv
 ·rename_i e;cases hv
  have e:=Aa8 e
  subst e
  exact⟨Nat.zero_le _,fun _=>rfl⟩
 ·cases hv
theorem Cxz(ho:Abx F ρ hp W)(hn:ids.Nodup)(hsub:∀id,id∈ids→∀b,hq id=some b→hp id=some b)(h32:ids.length<32)(hb:A0l hq (Bin hq ids) ids=some bl)(hF:∀b o,F b=some o→Fc b=some o)(hFz:∀b o,Fc b=some o→W.heap[b]? = some o)(hFo:∀id,id∈ids→∀b,hp id=some b→b.fz=false→∀k,k∈(ρ id).bs→Fc k=none):Abx Fc (Ayl ρ ids) (Af4 bl []) W:=by
 have hσ:=Ctp (ρ:=ρ) hn hsub h32 hb
 have key:∀{i b'},Af4 bl [] i=some b'→∃id b,ids[i]? = some id∧hp id=some b∧(b.fz=false∧b.renOk (Bin hq ids)=true)∧b'=Ai2 0 (b.ren (Bin hq ids))∧Ayl ρ ids i=ρ id:=by
  intro i b' hi
  obtain⟨id,b,h1,h2,h3,h4⟩:=Czz hb h32 hi
  exact⟨id,b,h1,hsub id (List.mem_of_getElem? h1) b h2,h3,h4,by simp[Ayl,h1]⟩
 refine⟨?_,?_,hFz,?_⟩
 ·intro i b' hi
  obtain⟨id,b,h1,h2,h3,rfl,h5⟩:=key hi
  refine BR.ren hσ (F:=F) (.inl hF) h3.1 h3.2 h5 (ho.blocks id b h2)
 ·intro i j x y k hx hy hi hj
  obtain⟨id,b,h1,h2,h3,rfl,h5⟩:=key hx
  obtain⟨id',b',k1,k2,k3,rfl,k5⟩:=key hy
  rw[h5]at hi;rw[k5]at hj
  have:=ho.inj id id' b b' k h2 k2 hi hj
  subst this
  exact C03 hn h1 k1
 ·rintro k ⟨i,x,hx,hz,hk⟩
  obtain⟨id,b,h1,h2,h3,rfl,h5⟩:=key hx
  rw[h5]at hk
  exact hFo id (List.mem_of_getElem? h1) b h2 h3.1 k hk
end
theorem Cpl{F Fc F' F2:Fz}{ρ ρ':Rho}{hp hq:Aam}{W W':World}{ids:List Nat}{bl bl' nw:List Aau}{dst:Nat}{l l':List (Nat×Aau)}{v:AV}{r:Value}{g gs:List Bool}{flat:Bool}(ho:Abx F ρ hp W)(hn:ids.Nodup)(hsub:∀id,id∈ids→∀b,hq id=some b→hp id=some b)(h32:ids.length<32)(hb:A0l hq (Bin hq ids) ids=some bl)(hnew:∀j,j<32→hq (Aa5 dst j)=none→hp (Aa5 dst j)=none)(hF:∀b o,F b=some o→Fc b=some o)(hl:Bi8 hq gs ids (Ahp hq gs ids dst) ids 0 bl'=some l)(hl':Bpn hq dst (Ahp hq gs ids dst) 0 nw=some l')(hg:∀i id E t ver fz xs,ids[i]? = some id→id<32→hp id=some (.row E t ver fz xs)→Aot hq gs ids i=ver∨g.getD id false=true)(hv:RV F' ρ' (Af4 bl' nw) v r)(ho':Abx F' ρ' (Af4 bl' nw) W')(he:Ext gs Fc (Ayl ρ ids) (Af4 bl []) W F' ρ' (Af4 bl' nw) W')(hmode:(F2=F'∧Fc=F)∨(F2=F∧flat=true))(hflat:flat=true→(v.flat&&bl'.all Aau.flat&&nw.all Aau.flat)=true)(hrg:Aqs g=true→Aqs gs=true∨∀id,id∈ids→32≤id) :
  Aif g F ρ hp W (Aa3 hp (l++l')) (v.ren (Ahp hq gs ids dst)) r W'∧(Aqs gs=true→Aif g F ρ hp W (Aa3 hp l') (v.ren (Ahp hq gs ids dst)) r W'):=by
 obtain⟨bl1,bl2,bl3⟩:=Bpv hl
 obtain⟨nw1,nw2⟩:=Cd9 hl'
 simp only[Nat.zero_add]at bl3 nw1 nw2
 have hnn:∀j (b:Aau),nw[j]? = some b→Aa5 dst j∉ids:=by
  intro j b hj hm
  obtain⟨i,hi⟩:=List.getElem?_of_mem hm
  obtain⟨b0,_,h0,_⟩:=bl3 i _ hi
  have:=(nw2 j b hj).2.1
  rw[h0]at this;cases this
 have keys:((l++l').map (·.1)).Nodup:=by
  rw[List.map_append,bl2,nw1,List.nodup_append]
  refine⟨hn,by simpa using Cqb dst nw.length,fun a ha b hb'=>?_⟩
  simp only[List.mem_map,List.mem_range]at hb'
  obtain⟨j,hj,rfl⟩:=hb'
  rintro rfl
  exact hnn j nw[j] (by simp[hj]) ha
 have old:∀{i id},ids[i]? = some id→∃b0 b,hq id=some b0∧hp id=some b0∧bl'[i]? = some b∧(Bi7 b0 b=true∧b.renOk (Ahp hq gs ids dst)=true∧Cse b0 (b.ren (Ahp hq gs ids dst))=true)∧Aa3 hp (l++l') id=some (Ai2 (Aot hq gs ids i) (b.ren (Ahp hq gs ids dst))):=by
  intro i id hi
  obtain⟨b0,b,h1,h2,h3,h4⟩:=bl3 i id hi
  exact⟨b0,b,h1,hsub id (List.mem_of_getElem? hi) b0 h1,h2,h3,Bt8 keys (List.mem_append_left _ h4)⟩
 have new:∀{j b},nw[j]? = some b→Aa3 hp (l++l') (Aa5 dst j)=some (b.ren (Ahp hq gs ids dst))∧(b.fz=false∧b.renOk (Ahp hq gs ids dst)=true)∧hp (Aa5 dst j)=none:=by
  intro j b hj
  obtain⟨h1,h2,h3,h4⟩:=nw2 j b hj
  exact⟨Bt8 keys (List.mem_append_right _ h4),h3,hnew j (by omega) h2⟩
 have els:∀{id},id∉ids→(∀j,j<nw.length→id≠Aa5 dst j)→Aa3 hp (l++l') id=hp id:=by
  intro id h1 h2
  refine Aj2 ?_
  rw[List.map_append,bl2,nw1]
  simp only[List.mem_append,List.mem_map,List.mem_range,not_or,not_exists,not_and]
  exact⟨h1,fun j hj e=>h2 j hj e.symm⟩
 let ρ2:Rho:=fun id=>match A0k id ids 0 with
  |some i=>ρ' i
  |none=>if id=Aa5 dst (id-Aa5 dst 0)∧Aa5 dst 0≤id∧id-Aa5 dst 0<nw.length then ρ' (32+(id-Aa5 dst 0)) else ρ id
 have ρold:∀{i id},ids[i]? = some id→ρ2 id=ρ' i:=by
  intro i id hi
  simp only[ρ2,Bb7 (i:=0) hn hi,Nat.zero_add]
 have ρnew:∀{j b},nw[j]? = some b→ρ2 (Aa5 dst j)=ρ' (32+j):=by
  intro j b hj
  have e:Aa5 dst j-Aa5 dst 0=j:=by simp[Aa5]
  have hlt:j<nw.length:=by
   rcases Nat.lt_or_ge j nw.length with h|h
   ·exact h
   ·rw[List.getElem?_eq_none h]at hj;cases hj
  simp only[ρ2,B0f (hnn j b hj)]
  rw[e,if_pos ⟨rfl,by simp[Aa5],hlt⟩]
 have ρels:∀{id},id∉ids→(∀j,j<nw.length→id≠Aa5 dst j)→ρ2 id=ρ id:=by
  intro id h1 h2
  simp only[ρ2,B0f h1]
  rw[if_neg]
  rintro⟨a,_,c⟩
  exact h2 _ c a
 have hpb:∀{i id},ids[i]? = some id→∀{b},bl'[i]? = some b→Af4 bl' nw i=some b:=by
  intro i id hi b hb'
  have hlt:i<ids.length:=by
   rcases Nat.lt_or_ge i ids.length with h|h
   ·exact h
   ·rw[List.getElem?_eq_none h]at hi;cases hi
  simp only[Af4]
  have:Nat.ble 32 i=false:=by
   cases e:Nat.ble 32 i with
   |false=>rfl
   |true=>have:=Nat.le_of_ble_eq_true e;omega
  rw[this];exact hb'
 have hpn:∀{j b},nw[j]? = some b→Af4 bl' nw (32+j)=some b:=by
  intro j b hj
  simp only[Af4]
  have:Nat.ble 32 (32+j)=true:=Nat.ble_eq_true_of_le (by omega)
  rw[this];simpa using hj
 have cls:∀{id b'},Aa3 hp (l++l') id=some b'→(∃c b vr,Af4 bl' nw c=some b∧(b.fz=false∧b.renOk (Ahp hq gs ids dst)=true)∧Ahp hq gs ids dst c=some (id,vr)∧ρ2 id=ρ' c∧∃v,b'=Ai2 v (b.ren (Ahp hq gs ids dst)))∨
   (id∉ids∧(∀j,j<nw.length→id≠Aa5 dst j)∧hp id=some b'∧ρ2 id=ρ id):=by
  intro id b' h
  by_cases hm:id∈ids
  ·obtain⟨i,hi⟩:=List.getElem?_of_mem hm
   obtain⟨b0,b,h1,h2,h3,h4,h5⟩:=old hi
   rw[h]at h5;cases h5
   have hlt:i<ids.length:=by
    rcases Nat.lt_or_ge i ids.length with h|h
    ·exact h
    ·rw[List.getElem?_eq_none h]at hi;cases hi
   obtain⟨h4,h4r,h4p⟩:=h4
   refine .inl ⟨i,b,fun v=>match Nat.beq v 0 with|true=>some (Aot hq gs ids i)|false=>none,hpb hi h3,⟨?_,h4r⟩,?_,ρold hi,_,rfl⟩
   ·cases b0<;>cases b<;>simp only[Bi7]at h4<;>first|rfl|(cases h4;done)|skip
    rename_i fz _ _ _ _ fz' _
    cases fz<;>cases fz'<;>first|rfl|(simp at h4)
   ·simp only[Ahp]
    have:Nat.ble 32 i=false:=by
     cases e:Nat.ble 32 i with
     |false=>rfl
     |true=>have:=Nat.le_of_ble_eq_true e;omega
    rw[this,hi]
    rfl
  ·by_cases hx:∃j,j<nw.length∧id=Aa5 dst j
   ·obtain⟨j,hj,rfl⟩:=hx
    have hj':nw[j]? = some nw[j]:=by simp[hj]
    obtain⟨h1,h2,h3⟩:=new hj'
    rw[h]at h1;cases h1
    refine .inl ⟨32+j,nw[j],fun v=>some v,hpn hj',h2,?_,ρnew hj',_,(Bxb _ _).symm⟩
    simp only[Ahp]
    have:Nat.ble 32 (32+j)=true:=Nat.ble_eq_true_of_le (by omega)
    rw[this];simp
   ·have hx':∀j,j<nw.length→id≠Aa5 dst j:=fun j hj e=>hx ⟨j,hj,e⟩
    rw[els hm hx']at h
    exact .inr ⟨hm,hx',h,ρels hm hx'⟩
 have hτ:∀i b,Af4 bl' nw i=some b→∀k vr,Ahp hq gs ids dst i=some (k,vr)→∃b',Aa3 hp (l++l') k=some b'∧Csk (ρ' i) (ρ2 k) b b' vr (Ahp hq gs ids dst):=by
  intro i b hi k vr hr
  simp only[Ahp]at hr
  simp only[Af4]at hi
  cases e:Nat.ble 32 i with
  |true=>
   rw[e]at hr hi
   simp only at hr hi
   cases hr
   have hle:=Nat.le_of_ble_eq_true e
   obtain⟨h1,h2,h3⟩:=new hi
   refine⟨_,h1,?_,⟨_,(Bxb _ _).symm⟩,fun v v' hv hle=>?_⟩
   ·rw[ρnew hi];congr 1;omega
   ·cases hv;rw[C9y];exact⟨hle,fun h=>h⟩
  |false=>
   rw[e]at hr hi
   simp only at hr hi
   cases hid:ids[i]? with
   |none=>rw[hid]at hr;cases hr
   |some id=>
    rw[hid]at hr;simp only at hr;cases hr
    obtain⟨b0,b1,h1,h2,h3,h4,h5⟩:=old hid
    rw[hi]at h3;cases h3
    refine⟨_,h5,ρold hid,⟨_,rfl⟩,fun v v' hv hle=>?_⟩
    try simp only at hv
    split at hv
    case h_2=>cases hv
    rename_i ev
    cases hv
    have ev:=Aa8 ev;subst ev
    obtain⟨h4,h4r,h4p⟩:=h4
    cases b0<;>cases b<;>simp only[Bi7]at h4<;>try (cases h4;done)
    ·simp[Aau.ren,Ai2,Aau.ver,Aot,hid,h1]
    ·rename_i fz _ _ _ _ fz' _
     simp only[Bool.and_eq_true]at h4
     have:=Aa8 h4.2.2.2
     subst this
     simp[Aau.ren,Ai2,Aau.ver]
    ·simp[Aau.ren,Ai2,Aau.ver,Aot,hid,h1]
    ·simp[Aau.ren,Ai2,Aau.ver,Aot,hid,h1]
    ·simp[Aau.ren,Ai2,Aau.ver,Aot,hid,h1]
    ·simp[Aau.ren,Ai2,Aau.ver,Aot,hid,h1]
 have hFF:∀b o,F b=some o→F2 b=some o:=by
  intro b o h
  rcases hmode with ⟨rfl,rfl⟩|⟨rfl,_⟩
  ·exact he.fmono b o h
  ·exact h
 have hF2:∀b o,F2 b=some o→F' b=some o:=by
  intro b o h
  rcases hmode with ⟨rfl,rfl⟩|⟨rfl,_⟩
  ·exact h
  ·exact he.fmono b o (hF b o h)
 have hfl:∀b:Bool,(flat=true→b=true)→FF F' F2 b:=by
  intro b hb'
  rcases hmode with ⟨rfl,rfl⟩|⟨rfl,hf⟩
  ·exact .inl fun _ _ h=>h
  ·exact .inr (hb' hf)
 have ownIn:∀{k:Nat},Own (Af4 bl []) (Ayl ρ ids) k→∃(i id:Nat) (b:Aau),ids[i]? = some id∧hp id=some b∧b.fz=false∧k∈(ρ id).bs:=by
  rintro k ⟨i,x,hx,hz,hk⟩
  obtain⟨id,b,h1,h2,h3,h4⟩:=Czz hb h32 hx
  refine⟨i,id,b,h1,hsub id (List.mem_of_getElem? h1) b h2,h3.1,?_⟩
  simpa [Ayl,h1]using hk
 have ownIn':∀{k:Nat},Own (Af4 bl []) (Ayl ρ ids) k→Own hp ρ k:=by
  intro k h
  obtain⟨i,id,b,h1,h2,h3,h4⟩:=ownIn h
  exact⟨id,b,h2,h3,h4⟩
 have hkeep:∀id b0,hp id=some b0→∃b',Aa3 hp (l++l') id=some b'∧Aml (ρ id) b0 (ρ2 id) b'∧(id<32→Evo (g.getD id false) (ρ id) (ρ2 id) b0 b'):=by
  intro id b0 h0
  by_cases hm:id∈ids
  ·obtain⟨i,hi⟩:=List.getElem?_of_mem hm
   obtain⟨b0',b,h1,h2,h3,h4,h5⟩:=old hi
   rw[h0]at h2;cases h2
   refine⟨_,h5,?_⟩
   rw[ρold hi]
   have hlt:i<ids.length:=by
    rcases Nat.lt_or_ge i ids.length with h|h
    ·exact h
    ·rw[List.getElem?_eq_none h]at hi;cases hi
   obtain⟨c,c1,c2,c3⟩:=Ca9 hb h32 hi
   rw[h1]at c1;cases c1
   obtain⟨b2,e1,e2⟩:=he.evo i (by omega) _ c3
   rw[hpb hi h3]at e1;cases e1
   have er:Ayl ρ ids i=ρ id:=by simp[Ayl,hi]
   rw[er]at e2
   have hgi:=hg i id
   obtain⟨h4,h4r,h4p⟩:=h4
   cases b0<;>cases b<;>simp only[Bi7]at h4<;>try (cases h4;done)
   ·simp only[Aau.ren,Ai2,Evo,List.length_map]at e2 ⊢
    exact⟨⟨by simp[Aau.ver],fun h=>(by simp[Aau.isMap]at h),fun _=>e2.2.2,trivial⟩,fun _=>⟨e2.1,by simp[e2.2.1],e2.2.2⟩⟩
   ·rename_i E t ver fz xs E' t' ver' fz' xs'
    simp only[Aau.ren,Ai2,Evo]at e2 ⊢
    obtain⟨rfl,rfl,rfl,e3⟩:=e2
    have hov:(Aot hq gs ids i=ver∧gs.getD i false=false)∨(Aot hq gs ids i=ver+1∧gs.getD i false=true):=by
     simp only[Aot,hi,h1]
     cases gs.getD i false with
     |true=>exact .inr ⟨rfl,rfl⟩
     |false=>exact .inl ⟨rfl,rfl⟩
    refine⟨⟨by simp only[Aau.ver];omega,fun h=>(by simp[Aau.isMap]at h),fun hv=>?_,trivial⟩,fun hlt'=>⟨rfl,rfl,rfl,fun hgf=>?_⟩⟩
    ·simp only[Aau.ver]at hv
     rcases hov with ⟨_,h⟩|⟨h,_⟩
     ·obtain⟨a1,a2⟩:=e3 h;exact⟨rfl,a1,a2⟩
     ·omega
    ·rcases hgi _ _ _ _ _ hi hlt' h0 with h|h
     ·rcases hov with ⟨_,h'⟩|⟨h',_⟩
      ·exact e3 h'
      ·omega
     ·rw[h]at hgf;cases hgf
   ·simp only[Aau.ren,Ai2,Evo]at e2 ⊢
    obtain⟨rfl,rfl,rfl,e3⟩:=e2
    exact⟨⟨by simp[Aau.ver],fun h=>⟨rfl,e3⟩,fun _=>e3,trivial⟩,fun _=>⟨rfl,rfl,rfl,e3⟩⟩
   ·simp only[Aau.ren,Ai2,Evo]at e2 ⊢
    obtain⟨rfl,rfl,e3⟩:=e2
    exact⟨⟨by simp[Aau.ver],fun h=>⟨rfl,e3⟩,fun _=>e3,trivial⟩,fun _=>⟨rfl,rfl,e3⟩⟩
   ·simp only[Aau.ren,Ai2,Evo]at e2 ⊢
    obtain⟨rfl,rfl,e3⟩:=e2
    exact⟨⟨by simp[Aau.ver],fun h=>(by simp[Aau.isMap]at h),fun _=>trivial,e3⟩,fun _=>⟨rfl,rfl,e3⟩⟩
   ·simp only[Aau.ren,Ai2,Evo]at e2 ⊢
    obtain⟨rfl,rfl,_,e3⟩:=e2
    simp only[Cse,Aau.ren]at h4p
    have h4p:=Aa8 h4p
    exact⟨⟨by simp[Aau.ver],fun h=>⟨rfl,e3⟩,fun _=>e3,trivial⟩,fun _=>⟨rfl,rfl,h4p,e3⟩⟩
  ·have hx':∀j,j<nw.length→id≠Aa5 dst j:=by
    rintro j hj rfl
    have hj':nw[j]? = some nw[j]:=by simp[hj]
    have:=(new hj').2.2
    rw[h0]at this;cases this
   refine⟨b0,by rw[els hm hx'];exact h0,?_⟩
   rw[ρels hm hx']
   exact⟨Aml.refl _ _,fun _=>Evo.refl _ _ _⟩
 have hk:∀id b0,hp id=some b0→∃b',Aa3 hp (l++l') id=some b'∧Aml (ρ id) b0 (ρ2 id) b':=fun id b0 h=>by
  obtain⟨b',h1,h2,_⟩:=hkeep id b0 h;exact⟨b',h1,h2⟩
 have notOwn:∀{id b k},id∉ids→hp id=some b→k∈(ρ id).bs→¬Own (Af4 bl []) (Ayl ρ ids) k:=by
  intro id b k hm h0 hk' h
  obtain⟨i,id',b',h1,h2,h3,h4⟩:=ownIn h
  have:=ho.inj id id' b b' k h0 h2 hk' h4
  subst this
  exact hm (List.mem_of_getElem? h1)
 have blockFlat:flat=true→∀{c b},Af4 bl' nw c=some b→b.flat=true:=by
  intro hf c b hc
  have:=hflat hf
  simp only[Bool.and_eq_true,List.all_eq_true]at this
  simp only[Af4]at hc
  split at hc
  ·exact this.2 b (List.mem_of_getElem? hc)
  ·exact this.1.2 b (List.mem_of_getElem? hc)
 have out:∀{id b0},id∉ids→hp id=some b0→ρ2 id=ρ id∧∀k,k∈(ρ id).bs→W'.heap[k]? = W.heap[k]?:=by
  intro id b0 hm h0
  have hx':∀j,j<nw.length→id≠Aa5 dst j:=by
   rintro j hj rfl
   have hj':nw[j]? = some nw[j]:=by simp[hj]
   have:=(new hj').2.2
   rw[h0]at this;cases this
  exact⟨ρels hm hx',fun k hk'=>he.frame k ((ho.blocks id b0 h0).lt hk') (notOwn hm h0 hk')⟩
 have same:Aqs gs=true→∀{id b0},hp id=some b0→ρ2 id=ρ id∧∀k,k∈(ρ id).bs→W'.heap[k]? = W.heap[k]?:=by
  intro hgs id b0 h0
  by_cases hm:id∈ids
  ·obtain⟨i,hi⟩:=List.getElem?_of_mem hm
   have hlt:i<ids.length:=by
    rcases Nat.lt_or_ge i ids.length with h|h
    ·exact h
    ·rw[List.getElem?_eq_none h]at hi;cases hi
   obtain⟨c,c1,c2,c3⟩:=Ca9 hb h32 hi
   obtain⟨p1,p2⟩:=he.keep hgs i (by omega) _ c3
   have er:Ayl ρ ids i=ρ id:=by simp[Ayl,hi]
   rw[er]at p1 p2
   exact⟨by rw[ρold hi];exact p1,p2⟩
  ·exact out hm h0
 have H:Abx F2 ρ2 (Aa3 hp (l++l')) W'∧(∀x y,RV F ρ hp x y→RV F2 ρ2 (Aa3 hp (l++l')) x y)∧RV F2 ρ2 (Aa3 hp (l++l')) (v.ren (Ahp hq gs ids dst)) r∧Ext g F ρ hp W F2 ρ2 (Aa3 hp (l++l')) W':=by
  refine⟨⟨?_,?_,fun b o h=>ho'.fz b o (hF2 b o h),?_⟩,fun x y=>RV.mono hFF hk,?_,⟨he.os,he.tape,he.output,he.size,?_,?_,hFF,?_,?_,?_⟩⟩
  ·intro id b' h
   rcases cls h with ⟨c,b,vr,h1,h2,h3,h4,w,rfl⟩|⟨h1,h2,h3,h4⟩
   ·exact BR.ren hτ (hfl _ fun hf=>blockFlat hf h1) h2.1 h2.2 h4 (ho'.blocks c b h1)
   ·refine BR.mono hFF hk h4 ?_ (ho.blocks id b' h3)
    intro k hk'
    exact he.frame k ((ho.blocks id b' h3).lt hk') (notOwn h1 h3 hk')
  ·intro i j x y k hx hy hi hj
   have mixed:∀{i j x y k},(∃c b vr,Af4 bl' nw c=some b∧(b.fz=false∧b.renOk (Ahp hq gs ids dst)=true)∧Ahp hq gs ids dst c=some (i,vr)∧ρ2 i=ρ' c∧∃v,x=Ai2 v (b.ren (Ahp hq gs ids dst)))→
     (j∉ids∧(∀j',j'<nw.length→j≠Aa5 dst j')∧hp j=some y∧ρ2 j=ρ j)→k∈(ρ2 i).bs→k∈(ρ2 j).bs→False:=by
    rintro i j x y k ⟨c,b,vr,h1,h2,h3,h4,w,rfl⟩ ⟨k1,k2,k3,k4⟩ hi hj
    rw[h4]at hi;rw[k4]at hj
    rcases he.prov k ⟨c,b,h1,h2.1,hi⟩ with h|h
    ·exact notOwn k1 k3 hj h
    ·have:=(ho.blocks j y k3).lt hj;omega
   rcases cls hx with hx|hx<;>rcases cls hy with hy|hy
   ·obtain⟨c,b,vr,h1,h2,h3,h4,w,rfl⟩:=hx
    obtain⟨c',b',vr',k1,k2,k3,k4,w',rfl⟩:=hy
    rw[h4]at hi;rw[k4]at hj
    have:=ho'.inj c c' b b' k h1 k1 hi hj
    subst this
    rw[h3]at k3;cases k3;rfl
   ·exact (mixed hx hy hi hj).elim
   ·exact (mixed hy hx hj hi).elim
   ·obtain⟨h1,h2,h3,h4⟩:=hx
    obtain⟨k1,k2,k3,k4⟩:=hy
    rw[h4]at hi;rw[k4]at hj
    exact ho.inj i j x y k h3 k3 hi hj
  ·rintro k ⟨id,b',h,hz,hk'⟩
   rcases cls h with ⟨c,b,vr,h1,h2,h3,h4,w,rfl⟩|⟨h1,h2,h3,h4⟩
   ·rw[h4]at hk'
    have:=ho'.apart k ⟨c,b,h1,h2.1,hk'⟩
    cases e:F2 k with
    |none=>rfl
    |some o=>rw[hF2 k o e]at this;cases this
   ·rw[h4]at hk'
    have hn0:=ho.apart k ⟨id,b',h3,hz,hk'⟩
    rcases hmode with ⟨rfl,rfl⟩|⟨rfl,_⟩
    ·cases e:F2 k with
     |none=>rfl
     |some o=>
      rcases he.fprov k (by rw[e];simp) with h|h|h
      ·exact absurd hn0 h
      ·exact (notOwn h1 h3 hk' h).elim
      ·have:=(ho.blocks id b' h3).lt hk';omega
    ·exact hn0
  ·refine RV.ren hτ (hfl _ fun hf=>?_) hv
   have:=hflat hf
   simp only[Bool.and_eq_true]at this
   exact this.1.1
  ·intro k hlt hno
   exact he.frame k hlt fun h=>hno (ownIn' h)
  ·rintro k ⟨id,b',h,hz,hk'⟩
   rcases cls h with ⟨c,b,vr,h1,h2,h3,h4,w,rfl⟩|⟨h1,h2,h3,h4⟩
   ·rw[h4]at hk'
    rcases he.prov k ⟨c,b,h1,h2.1,hk'⟩ with h|h
    ·exact .inl (ownIn' h)
    ·exact .inr h
   ·rw[h4]at hk'
    exact .inl ⟨id,b',h3,hz,hk'⟩
  ·intro k h
   rcases hmode with ⟨rfl,rfl⟩|⟨rfl,_⟩
   ·rcases he.fprov k h with h|h|h
    ·exact .inl h
    ·exact .inr (.inl (ownIn' h))
    ·exact .inr (.inr h)
   ·exact .inl h
  ·intro id hlt b0 h0
   obtain⟨b',h1,_,h2⟩:=hkeep id b0 h0
   exact⟨b',h1,h2 hlt⟩
  ·intro hr id hlt b0 h0
   by_cases hm:id∈ids
   ·rcases hrg hr with hgs|h32'
    ·exact same hgs h0
    ·have:=h32' id hm;omega
   ·exact out hm h0
 refine⟨⟨F2,ρ2,H⟩,fun hgs=>?_⟩
 obtain⟨H1,H2,H3,H4⟩:=H
 have keys':(l'.map (·.1)).Nodup:=by
  rw[List.map_append]at keys;exact (List.nodup_append.1 keys).2.1
 have new':∀{j b},nw[j]? = some b→Aa3 hp l' (Aa5 dst j)=some (b.ren (Ahp hq gs ids dst)):=by
  intro j b hj
  obtain⟨h1,h2,h3,h4⟩:=nw2 j b hj
  exact Bt8 keys' h4
 have els':∀{id},(∀j,j<nw.length→id≠Aa5 dst j)→Aa3 hp l' id=hp id:=by
  intro id h2
  refine Aj2 ?_
  rw[nw1]
  simp only[List.mem_map,List.mem_range,not_exists,not_and]
  exact fun j hj e=>h2 j hj e.symm
 have cls':∀{id b'},Aa3 hp l' id=some b'→(Aa3 hp (l++l') id=some b'∧hp id=none)∨hp id=some b':=by
  intro id b' h
  by_cases hx:∃j,j<nw.length∧id=Aa5 dst j
  ·obtain⟨j,hj,rfl⟩:=hx
   have hj':nw[j]? = some nw[j]:=by simp[hj]
   rw[new' hj']at h
   exact .inl ⟨by rw[(new hj').1];exact h,(new hj').2.2⟩
  ·rw[els' fun j hj e=>hx ⟨j,hj,e⟩]at h;exact .inr h
 have oldAt:∀{id b0},hp id=some b0→Aa3 hp l' id=some b0:=by
  intro id b0 h0
  rw[els' ?_];exact h0
  rintro j hj rfl
  have hj':nw[j]? = some nw[j]:=by simp[hj]
  have:=(new hj').2.2
  rw[h0]at this;cases this
 have hk02:∀id b0,hp id=some b0→∃b',Aa3 hp l' id=some b'∧Aml (ρ id) b0 (ρ2 id) b':=fun id b0 h0=>⟨b0,oldAt h0,by rw[(same hgs h0).1];exact Aml.refl _ _⟩
 have hgf:∀i,gs.getD i false=false:=by
  intro i
  unfold Aqs at hgs
  split at hgs
  ·cases i<;>rfl
  ·cases hgs
 have hk12:∀id b1,Aa3 hp (l++l') id=some b1→∃b',Aa3 hp l' id=some b'∧Aml (ρ2 id) b1 (ρ2 id) b'∧(b'.fz=false→b1.fz=false):=by
  intro id b1 h1
  by_cases hm:id∈ids
  ·obtain⟨i,hi⟩:=List.getElem?_of_mem hm
   obtain⟨b0,b,k1,k2,k3,⟨k4,_,_⟩,k5⟩:=old hi
   rw[h1]at k5;cases k5
   have hlt:i<ids.length:=by
    rcases Nat.lt_or_ge i ids.length with h|h
    ·exact h
    ·rw[List.getElem?_eq_none h]at hi;cases hi
   refine⟨b0,oldAt k2,?_⟩
   obtain⟨c,c1,c2,c3⟩:=Ca9 hb h32 hi
   rw[k1]at c1;cases c1
   obtain⟨b2,e1,e2⟩:=he.evo i (by omega) _ c3
   rw[hpb hi k3]at e1;cases e1
   rw[hgf i]at e2
   have hov:Aot hq gs ids i=b0.ver:=by
    simp only[Aot,hi,k1,hgf i]
    cases b0<;>rfl
   cases b0<;>cases b<;>simp only[Bi7]at k4<;>try (cases k4;done)
   ·exact⟨⟨Nat.le_refl _,fun h=>(by simp[Aau.isMap,Aau.ren,Ai2]at h),fun _=>rfl,trivial⟩,fun _=>rfl⟩
   ·rename_i E t ver fz xs E' t' ver' fz' xs'
    simp only[Aau.ren,Ai2,Evo]at e2 ⊢
    obtain⟨rfl,rfl,rfl,e3⟩:=e2
    simp only[Aau.ver]at hov
    rw[hov]
    exact⟨⟨Nat.le_refl _,fun h=>(by simp[Aau.isMap]at h),fun _=>⟨rfl,(e3 trivial).1.symm,rfl⟩,trivial⟩,fun h=>h⟩
   ·exact⟨⟨Nat.le_refl _,fun _=>⟨rfl,rfl⟩,fun _=>rfl,trivial⟩,fun _=>rfl⟩
   ·exact⟨⟨Nat.le_refl _,fun _=>⟨rfl,rfl⟩,fun _=>rfl,trivial⟩,fun _=>rfl⟩
   ·simp only[Aau.ren,Ai2,Evo]at e2 ⊢
    obtain⟨rfl,rfl,_⟩:=e2
    exact⟨⟨Nat.le_refl _,fun h=>(by simp[Aau.isMap]at h),fun _=>trivial,fun _ _ h=>h⟩,fun _=>rfl⟩
   ·exact⟨⟨Nat.le_refl _,fun _=>⟨rfl,rfl⟩,fun _=>rfl,trivial⟩,fun _=>rfl⟩
  ·by_cases hx:∃j,j<nw.length∧id=Aa5 dst j
   ·obtain⟨j,hj,rfl⟩:=hx
    have hj':nw[j]? = some nw[j]:=by simp[hj]
    rw[(new hj').1]at h1
    exact⟨b1,by rw[new' hj'];exact h1,Aml.refl _ _,fun h=>h⟩
   ·have hx':∀j,j<nw.length→id≠Aa5 dst j:=fun j hj e=>hx ⟨j,hj,e⟩
    rw[els hm hx']at h1
    exact⟨b1,oldAt h1,Aml.refl _ _,fun h=>h⟩
 have hk12':∀id b1,Aa3 hp (l++l') id=some b1→∃b',Aa3 hp l' id=some b'∧Aml (ρ2 id) b1 (ρ2 id) b':=fun id b1 h=>by
  obtain⟨b',h1,h2,_⟩:=hk12 id b1 h;exact⟨b',h1,h2⟩
 have up:∀{id b'},Aa3 hp l' id=some b'→∃b1,Aa3 hp (l++l') id=some b1∧(b'.fz=false→b1.fz=false):=by
  intro id b' h
  have:∃b1,Aa3 hp (l++l') id=some b1:=by
   rcases cls' h with ⟨h1,_⟩|h1
   ·exact⟨_,h1⟩
   ·obtain⟨b1,h2,_⟩:=hk id _ h1;exact⟨b1,h2⟩
  obtain⟨b1,h1⟩:=this
  obtain⟨b2,h2,_,h3⟩:=hk12 id b1 h1
  rw[h]at h2;cases h2
  exact⟨b1,h1,h3⟩
 have ownUp:∀{k},Own (Aa3 hp l') ρ2 k→Own (Aa3 hp (l++l')) ρ2 k:=by
  rintro k ⟨id,b',h,hz,hk'⟩
  obtain⟨b1,h1,h2⟩:=up h
  exact⟨id,b1,h1,h2 hz,hk'⟩
 refine⟨F2,ρ2,⟨?_,?_,H1.fz,fun k h=>H1.apart k (ownUp h)⟩,fun x y=>RV.mono hFF hk02,RV.mono (fun _ _ h=>h) hk12' H3,⟨H4.os,H4.tape,H4.output,H4.size,H4.frame,fun k h=>H4.prov k (ownUp h),H4.fmono,H4.fprov,?_,fun _ id _ b0 h0=>same hgs h0⟩⟩
 ·intro id b' h
  rcases cls' h with ⟨h1,_⟩|h1
  ·exact BR.mono (fun _ _ h=>h) hk12' rfl (fun _ _=>rfl) (H1.blocks id b' h1)
  ·obtain⟨q1,q2⟩:=same hgs h1
   exact BR.mono hFF hk02 q1 q2 (ho.blocks id b' h1)
 ·intro i j x y k hx hy hi hj
  obtain⟨x1,a1,_⟩:=up hx
  obtain⟨y1,a2,_⟩:=up hy
  exact H1.inj i j x1 y1 k a1 a2 hi hj
 ·intro id _ b0 h0
  exact⟨b0,oldAt h0,by rw[(same hgs h0).1];exact Evo.refl _ _ _⟩
end
end Go.AX
namespace Go.AX
noncomputable section
def B56(b:Aau):Prop:=∃E t,b = .row E t 0 false []
theorem Bvz{tt:TT}{dst:Nat}:∀{fs:List (Nat×Nat×TypeId)} {cs:List Aby} {j:Nat} {ds:List Aby} {m:List (Nat×Aau)},Bpo tt dst fs cs j=some (ds,m)→
  ds.length=cs.length∧(∀k b,(k,b)∈m→B56 b∧∃i,j≤i∧i<32∧k=Aa5 dst i)∧
  ∀(F:Fz) (ρ:Rho) (hp:Aam) (rs:List Value),(∀k,k∈m.map (·.1)→ρ k=⟨[],0⟩∧∃b,hp k=some b∧B56 b)→Abs (Abm F ρ hp) cs rs→Abs (Abm F ρ hp) ds rs
 |[],[],j,ds,m,h=>by cases h;exact⟨rfl,by simp,fun _ _ _ _ _ h=>h⟩
 |[],_::_,j,ds,m,h=>by cases h
 | _::_,[],j,ds,m,h=>by cases h
 |f::fs,c::cs,j,ds,m,h=>by
  unfold Bpo at h
  split at h
  ·cases h
  ·split at h
   ·split at h
    ·rename_i i ds' l hi hm
     split at h
     ·split at h
      ·rename_i t ht hj
       cases h
       obtain⟨h1,h2,h3⟩:=Bvz hm
       refine⟨by simp[h1],?_,?_⟩
       ·intro k b hk
        simp only[List.mem_cons,Prod.mk.injEq]at hk
        rcases hk with ⟨rfl,rfl⟩|hk
        ·exact⟨⟨_,_,rfl⟩,j,Nat.le_refl _,Nat.blt_eq.mp hj,rfl⟩
        ·obtain⟨a,i,b1,b2,b3⟩:=h2 k b hk
         exact⟨a,i,by omega,b2,b3⟩
       ·intro F ρ hp rs hk hr
        obtain⟨r,rs',rfl,hr1,hr2⟩:=hr.cons_left
        refine⟨?_,h3 F ρ hp rs' (fun k hk'=>hk k (by simp;exact .inr (by simpa using hk'))) hr2⟩
        obtain⟨e1,b,e2,E,t',rfl⟩:=hk (Aa5 dst j) (by simp)
        simp only[Abm,RA]at hr1 ⊢
        refine⟨_,e2,Nat.zero_le _,none,0,0,hr1,fun _=>?_⟩
        simp[e1]
      ·cases h
     ·cases h
    ·cases h
   ·split at h
    ·rename_i ds' l hm
     cases h
     obtain⟨h1,h2,h3⟩:=Bvz hm
     refine⟨by simp[h1],h2,fun F ρ hp rs hk hr=>?_⟩
     obtain⟨r,rs',rfl,hr1,hr2⟩:=hr.cons_left
     exact⟨hr1,h3 F ρ hp rs' hk hr2⟩
    ·cases h
structure Csl(hq hp:Aam)(dst:Nat)(pre:List (Nat×Aau)):Prop where
 form:pre=[]∨∃id T cs ds m,pre=(id,.cells T ds)::m∧hq id=some (.cells T cs)∧ds.length=cs.length∧(∀k b,(k,b)∈m→B56 b∧32≤k∧hq k=none∧∃j,j<32∧k=Aa5 dst j)∧
  ∀(F:Fz) (ρ:Rho) (hp:Aam) (rs:List Value),(∀k,k∈m.map (·.1)→ρ k=⟨[],0⟩∧∃b,hp k=some b∧B56 b)→Abs (Abm F ρ hp) cs rs→Abs (Abm F ρ hp) ds rs
theorem Bpw{tt:TT}{hq:Aam}{dst:Nat}(hp:Aam):∀{ids:List Nat} {pre:List (Nat×Aau)},Bt1 tt hq dst ids=some pre→Csl hq hp dst pre
 |[],pre,h=>by cases h;exact⟨.inl rfl⟩
 |id::r,pre,h=>by
  unfold Bt1 at h
  split at h
  case h_2=>cases h
  rename_i b l hid hr
  split at h
  ·rename_i T cs
   split at h
   ·cases h;exact Bpw hp hr
   ·split at h
    ·split at h
     ·split at h
      ·rename_i ds m hm
       split at h
       ·rename_i hall
        cases h
        obtain⟨h1,h2,h3⟩:=Bvz hm
        refine⟨.inr ⟨id,T,cs,ds,m,rfl,hid,h1,fun k b hk=>?_,h3⟩⟩
        obtain⟨a,i,b1,b2,b3⟩:=h2 k b hk
        refine⟨a,by have:=Anp dst i;omega,?_,i,b2,b3⟩
        have:=List.all_eq_true.1 hall (k,b) hk
        simp only at this
        cases e:hq k with
        |none=>rfl
        |some _=>rw[e]at this;cases this
       ·cases h
      ·cases h
     ·cases h
    ·cases h
  ·cases h;exact Bpw hp hr
theorem Cfk{hq:Aam}{dst:Nat}{pre:List (Nat×Aau)}{hp:Aam}(h:Csl hq hp dst pre)(hs:∀id b,hq id=some b→hp id=some b)(hnew:∀j,j<32→hq (Aa5 dst j)=none→hp (Aa5 dst j)=none) :
  (∀i E t v fz xs,hp i=some (.row E t v fz xs)→Aa3 hp pre i=some (.row E t v fz xs))∧
  (∀i E t v fz xs,hq i=some (.row E t v fz xs)→Aa3 hq pre i=some (.row E t v fz xs))∧
  (∀id b,Aa3 hq pre id=some b→Aa3 hp pre id=some b)∧(∀j,j<32→Aa3 hq pre (Aa5 dst j)=none→Aa3 hp pre (Aa5 dst j)=none):=by
 rcases h.form with rfl|⟨id,T,cs,ds,m,rfl,h1,h2,h3,h4⟩
 ·exact⟨fun _ _ _ _ _ _ h=>h,fun _ _ _ _ _ _ h=>h,hs,hnew⟩
 ·have row:∀(hh:Aam),hh id=some (.cells T cs)→(∀k,k∈m.map (·.1)→hh k=none)→∀i E t v fz xs,hh i=some (.row E t v fz xs)→Aa3 hh ((id,.cells T ds)::m) i=some (.row E t v fz xs):=by
   intro hh a b i E t v fz xs hi
   simp only[Aa3]
   rw[Aj2,Ad6,hi]
   ·rintro rfl;rw[a]at hi;cases hi
   ·intro hm;rw[b i hm]at hi;cases hi
  have kq:∀k,k∈m.map (·.1)→hq k=none:=by
   intro k hk
   simp only[List.mem_map]at hk
   obtain⟨⟨k',b⟩,hk,rfl⟩:=hk
   exact (h3 _ _ hk).2.2.1
  have kp:∀k,k∈m.map (·.1)→hp k=none:=by
   intro k hk
   have:=kq k hk
   simp only[List.mem_map]at hk
   obtain⟨⟨k',b⟩,hk,rfl⟩:=hk
   obtain⟨_,_,_,j,hj,e⟩:=h3 _ _ hk
   simp only at e this ⊢;subst e
   exact hnew j hj this
  refine⟨row hp (hs _ _ h1) kp,row hq h1 kq,?_,?_⟩
  ·intro i b hi
   simp only[Aa3]at hi ⊢
   by_cases hm:i∈m.map (·.1)
   ·have:∀{hh hh':Aam} {m:List (Nat×Aau)},i∈m.map (·.1)→Aa3 hh m i=Aa3 hh' m i:=by
     intro hh hh' m
     induction m generalizing hh hh' with
     |nil=>intro h;simp at h
     |cons p r ih=>
      obtain⟨k,c⟩:=p
      intro h
      simp only[Aa3]
      by_cases hr:i∈r.map (·.1)
      ·exact ih hr
      ·simp only[List.map_cons,List.mem_cons]at h
       rcases h with rfl|h
       ·rw[Aj2 hr,Aj2 hr];simp
       ·exact absurd h hr
    rw[this hm];exact hi
   ·rw[Aj2 hm]at hi ⊢
    by_cases e:i=id
    ·subst e;rw[Afw]at hi ⊢;exact hi
    ·rw[Ad6 e]at hi ⊢;exact hs i b hi
  ·intro j hj hi
   simp only[Aa3]at hi ⊢
   by_cases hm:Aa5 dst j∈m.map (·.1)
   ·obtain⟨b,hb⟩:=Cig (hp:=Aht hq id (.cells T ds)) hm
    rw[hb]at hi;cases hi
   ·rw[Aj2 hm]at hi ⊢
    by_cases e:Aa5 dst j=id
    ·rw[e,Afw]at hi;cases hi
    ·rw[Ad6 e]at hi ⊢;exact hnew j hj hi
theorem Cfl{g:List Bool}{F:Fz}{ρ:Rho}{hq hp:Aam}{W:World}{dst:Nat}{pre:List (Nat×Aau)}(h:Csl hq hp dst pre)(ho:Abx F ρ hp W)(hs:∀id b,hq id=some b→hp id=some b)(hnew:∀j,j<32→hq (Aa5 dst j)=none→hp (Aa5 dst j)=none) :
  Aif g F ρ hp W (Aa3 hp pre) (.at .undef) undef W:=by
 rcases h.form with rfl|⟨id,T,cs,ds,m,rfl,h1,h2,h3,h4⟩
 ·exact Aif.val ho RV.undef
 have hid:=hs _ _ h1
 have kp:∀k,k∈m.map (·.1)→hp k=none:=by
  intro k hk
  simp only[List.mem_map]at hk
  obtain⟨⟨k',b⟩,hk,rfl⟩:=hk
  obtain⟨_,_,hn,j,hj,e⟩:=h3 _ _ hk
  simp only at e hn ⊢;subst e
  exact hnew j hj hn
 let ρ1:Rho:=fun i=>match hp i with|some _=>ρ i|none=>⟨[],0⟩
 have ρold:∀{i b},hp i=some b→ρ1 i=ρ i:=fun {i b} h=>by simp only[ρ1,h]
 have ρnone:∀{i},hp i=none→ρ1 i=⟨[],0⟩:=fun {i} h=>by simp only[ρ1,h]
 have idm:id∉m.map (·.1):=fun hm=>by rw[kp id hm]at hid;cases hid
 have atid:Aa3 hp ((id,.cells T ds)::m) id=some (.cells T ds):=by
  simp only[Aa3];rw[Aj2 idm];simp
 have cls:∀{i b},Aa3 hp ((id,.cells T ds)::m) i=some b→(B56 b∧hp i=none)∨(i=id∧b = .cells T ds)∨(i≠id∧hp i=some b):=by
  intro i b hi
  simp only[Aa3]at hi
  rcases Cd8 hi with hm|⟨hm,hi⟩
  ·exact .inl ⟨(h3 i b hm).1,kp i (List.mem_map.2 ⟨_,hm,rfl⟩)⟩
  ·by_cases e:i=id
   ·subst e;rw[Afw]at hi;cases hi;exact .inr (.inl ⟨rfl,rfl⟩)
   ·rw[Ad6 e]at hi;exact .inr (.inr ⟨e,hi⟩)
 have hk:∀i x,hp i=some x→∃y,Aa3 hp ((id,.cells T ds)::m) i=some y∧Aml (ρ i) x (ρ1 i) y∧Evo (g.getD i false) (ρ i) (ρ1 i) x y:=by
  intro i x hx
  by_cases e:i=id
  ·subst e;rw[hid]at hx;cases hx
   refine⟨_,atid,?_⟩
   rw[ρold hid]
   exact⟨⟨Nat.le_refl _,fun h=>(by simp[Aau.isMap]at h),fun _=>rfl,trivial⟩,rfl,h2.symm,rfl⟩
  ·refine⟨x,?_,?_⟩
   ·simp only[Aa3]
    rw[Aj2 (fun hm=>(by rw[kp i hm]at hx;cases hx)),Ad6 e];exact hx
   ·rw[ρold hx];exact⟨Aml.refl _ _,Evo.refl _ _ _⟩
 have hk':∀i x,hp i=some x→∃y,Aa3 hp ((id,.cells T ds)::m) i=some y∧Aml (ρ i) x (ρ1 i) y:=fun i x h=>by obtain⟨y,a,b,_⟩:=hk i x h;exact⟨y,a,b⟩
 have owner:∀{i b k},Aa3 hp ((id,.cells T ds)::m) i=some b→k∈(ρ1 i).bs→∃b0,hp i=some b0∧k∈(ρ i).bs∧(b.fz=false→b0.fz=false):=by
  intro i b k hi hk0
  rcases cls hi with ⟨_,hn⟩|⟨rfl,rfl⟩|⟨_,hi'⟩
  ·rw[ρnone hn]at hk0;simp at hk0
  ·rw[ρold hid]at hk0;exact⟨_,hid,hk0,fun _=>rfl⟩
  ·rw[ρold hi']at hk0;exact⟨b,hi',hk0,fun h=>h⟩
 refine⟨F,ρ1,⟨?_,?_,ho.fz,?_⟩,fun x y=>RV.mono (fun _ _ h=>h) hk',RV.undef,⟨rfl,rfl,rfl,Nat.le_refl _,fun _ _ _=>rfl,?_,fun _ _ h=>h,fun _ h=>.inl h,fun i _ x hx=>?_,fun _ i _ x hx=>⟨ρold hx,fun _ _=>rfl⟩⟩⟩
 ·intro i b hi
  rcases cls hi with ⟨⟨E,t,rfl⟩,hn⟩|⟨rfl,rfl⟩|⟨_,hi'⟩
  ·exact .inl ⟨by rw[ρnone hn],rfl,by rw[ρnone hn]⟩
  ·obtain⟨bb,rs,fr,k1,k2,k3,k4⟩:=ho.blocks i _ hid
   refine⟨bb,rs,fr,by rw[ρold hid];exact k1,k2,k3,?_⟩
   refine h4 F ρ1 _ rs.toList ?_ (k4.mono fun _ _=>Abm.mono (fun _ _ h=>h) hk')
   intro k hk0
   refine⟨ρnone (kp k hk0),?_⟩
   obtain⟨b,hb⟩:=Cig (hp:=Aht hp i (.cells T ds)) hk0
   refine⟨b,hb,?_⟩
   rcases cls (i:=k) (b:=b) hb with ⟨h,_⟩|⟨rfl,_⟩|⟨_,h⟩
   ·exact h
   ·exact absurd hk0 idm
   ·rw[kp k hk0]at h;cases h
  ·exact BR.mono (fun _ _ h=>h) hk' (ρold hi') (fun _ _=>rfl) (ho.blocks i b hi')
 ·intro i j x y k hx hy hi hj
  obtain⟨x0,a1,a2,_⟩:=owner hx hi
  obtain⟨y0,b1,b2,_⟩:=owner hy hj
  exact ho.inj i j x0 y0 k a1 b1 a2 b2
 ·rintro k ⟨i,x,hx,hz,hk0⟩
  obtain⟨x0,a1,a2,a3⟩:=owner hx hk0
  exact ho.apart k ⟨i,x0,a1,a3 hz,a2⟩
 ·rintro k ⟨i,x,hx,hz,hk0⟩
  obtain⟨x0,a1,a2,a3⟩:=owner hx hk0
  exact .inl ⟨i,x0,a1,a3 hz,a2⟩
 ·obtain⟨y,a,_,b⟩:=hk i x hx
  exact⟨y,a,b⟩
theorem Apg.frz_up{hq hq':Aam}(h:∀i E t v fz xs,hq i=some (.row E t v fz xs)→hq' i=some (.row E t v fz xs)){x y:Apg}{l:List Nat}(hx:x.frz hq=some (y,l)):x.frz hq'=some (y,l):=by
 cases x<;>simp only[Apg.frz]at hx ⊢<;>try exact hx
 ·split at hx
  ·rename_i hb;rw[h _ _ _ _ _ _ hb];exact hx
  ·cases hx
 ·split at hx
  ·rename_i hb;rw[h _ _ _ _ _ _ hb];exact hx
  ·cases hx
theorem Aby.frz_up{hq hq':Aam}(h:∀i E t v fz xs,hq i=some (.row E t v fz xs)→hq' i=some (.row E t v fz xs)){x y:Aby}{l:List Nat}(hx:x.frz hq=some (y,l)):x.frz hq'=some (y,l):=by
 cases x with
 |a x=>
  simp only[Aby.frz]at hx ⊢
  split at hx
  ·rename_i hb;rw[Apg.frz_up h hb];exact hx
  ·cases hx
 |func f caps=>exact hx
 |meth f caps=>exact hx
 |iface T cs=>exact hx
theorem Cea{hq hq':Aam}(h:∀i E t v fz xs,hq i=some (.row E t v fz xs)→hq' i=some (.row E t v fz xs)):∀{cs ds:List Aby} {l:List Nat},Apy hq cs=some (ds,l)→Apy hq' cs=some (ds,l)
 |[],ds,l,hx=>hx
 |c::cs,ds,l,hx=>by
  simp only[Apy]at hx ⊢
  split at hx
  ·rename_i h1 h2
   rw[Aby.frz_up h h1,Cea h h2];exact hx
  ·cases hx
theorem AV.frz_up{hq hq':Aam}(h:∀i E t v fz xs,hq i=some (.row E t v fz xs)→hq' i=some (.row E t v fz xs)){x y:AV}{l:List Nat}(hx:x.frz hq=some (y,l)):x.frz hq'=some (y,l):=by
 cases x with
 |v x=>
  cases x with
  |one c=>
   simp only[AV.frz]at hx ⊢
   split at hx
   ·rename_i hb;rw[Aby.frz_up h hb];exact hx
   ·cases hx
  |agg cs=>
   simp only[AV.frz]at hx ⊢
   split at hx
   ·rename_i hb;rw[Cea h hb];exact hx
   ·cases hx
 |tup xs=>cases hx
 |z n v=>cases hx
theorem A67{hq hq':Aam}(h:∀i E t v fz xs,hq i=some (.row E t v fz xs)→hq' i=some (.row E t v fz xs)):∀{p:List Bool} {args args':List AV} {fr:List Nat},Akm hq p args=some (args',fr)→Akm hq' p args=some (args',fr)
 | _,[],_,_,hx=>by simp only[Akm]at hx ⊢;exact hx
 |[],a::r,args',fr,hx=>by
  simp only[Akm]at hx ⊢
  split at hx
  ·rename_i h2;rw[A67 h h2];exact hx
  ·cases hx
 |true::p,a::r,args',fr,hx=>by
  simp only[Akm]at hx ⊢
  split at hx
  ·rename_i h1 h2;rw[AV.frz_up h h1,A67 h h2];exact hx
  ·cases hx
 |false::p,a::r,args',fr,hx=>by
  simp only[Akm]at hx ⊢
  split at hx
  ·rename_i h2;rw[A67 h h2];exact hx
  ·cases hx
theorem AV.frz_ok{F:Fz}{ρ:Rho}{hp hq:Aam}{W:World}(hh:Abx F ρ hp W)(hs:∀id b,hq id=some b→hp id=some b){x y:AV}{l:List Nat}{r:Value}(h:x.frz hq=some (y,l))(hr:RV F ρ hp x r)(F':Fz)(hF:∀b o,F b=some o→F' b=some o)(hl:∀id,id∈l→∀k,k∈(ρ id).bs→F' k=W.heap[k]?):RV F' ρ hp y r:=by
 cases x with
 |v x=>
  cases x with
  |one c=>
   simp only[AV.frz]at h
   split at h
   ·rename_i hb;cases h;exact Aby.frz_ok hh hs hb hr F' hF hl
   ·cases h
  |agg cs=>
   simp only[AV.frz]at h
   split at h
   ·rename_i hb;cases h
    obtain⟨rs,rfl,h2⟩:=hr
    exact⟨rs,rfl,Biq hh hs hb h2 F' hF hl⟩
   ·cases h
 |tup xs=>cases h
 |z n v=>cases h
theorem Azf{hq:Aam}:∀{p:List Bool} {args args':List AV} {fr:List Nat},Akm hq p args=some (args',fr)→Bps hq fr
 | _,[],_,_,hx=>by simp only[Akm]at hx;cases hx;intro id hi;simp at hi
 |[],a::r,args',fr,hx=>by
  simp only[Akm]at hx
  split at hx
  ·rename_i h2;cases hx;exact Azf h2
  ·cases hx
 |true::p,a::r,args',fr,hx=>by
  simp only[Akm]at hx
  split at hx
  ·rename_i b l s m h1 h2
   cases hx
   intro id hi
   simp only[List.mem_append]at hi
   rcases hi with hi|hi
   ·cases a with
    |v x=>
     cases x with
     |one c=>
      simp only[AV.frz]at h1
      split at h1
      ·rename_i hb;cases h1;exact B2e hb id hi
      ·cases h1
     |agg cs=>
      simp only[AV.frz]at h1
      split at h1
      ·rename_i hb;cases h1;exact A66 hb id hi
      ·cases h1
    |tup xs=>cases h1
    |z n v=>cases h1
   ·exact Azf h2 id hi
  ·cases hx
 |false::p,a::r,args',fr,hx=>by
  simp only[Akm]at hx
  split at hx
  ·rename_i h2;cases hx;exact Azf h2
  ·cases hx
theorem A68{F:Fz}{ρ:Rho}{hp hq:Aam}{W:World}(hh:Abx F ρ hp W)(hs:∀id b,hq id=some b→hp id=some b)(F':Fz)(hF:∀b o,F b=some o→F' b=some o) :
  ∀{p:List Bool} {args args':List AV} {fr:List Nat} {rs:List Value},Akm hq p args=some (args',fr)→Abs (RV F ρ hp) args rs→(∀id,id∈fr→∀k,k∈(ρ id).bs→F' k=W.heap[k]?)→Abs (RV F' ρ hp) args' rs
 | _,[],_,_,rs,hx,hr,_=>by
  simp only[Akm]at hx;cases hx
  have:=hr.nil_left;subst this;trivial
 |[],a::r,args',fr,rs,hx,hr,hl=>by
  obtain⟨b,rs',rfl,h1,h2⟩:=hr.cons_left
  simp only[Akm]at hx
  split at hx
  ·rename_i h3;cases hx
   exact⟨RV.mono hF (fun _ b hb=>⟨b,hb,Aml.refl _ _⟩) h1,A68 hh hs F' hF h3 h2 hl⟩
  ·cases hx
 |true::p,a::r,args',fr,rs,hx,hr,hl=>by
  obtain⟨b,rs',rfl,h1,h2⟩:=hr.cons_left
  simp only[Akm]at hx
  split at hx
  ·rename_i h3 h4;cases hx
   exact⟨AV.frz_ok hh hs h3 h1 F' hF fun id hi=>hl id (by simp[hi]),A68 hh hs F' hF h4 h2 fun id hi=>hl id (by simp[hi])⟩
  ·cases hx
 |false::p,a::r,args',fr,rs,hx,hr,hl=>by
  obtain⟨b,rs',rfl,h1,h2⟩:=hr.cons_left
  simp only[Akm]at hx
  split at hx
  ·rename_i h3;cases hx
   exact⟨RV.mono hF (fun _ b hb=>⟨b,hb,Aml.refl _ _⟩) h1,A68 hh hs F' hF h3 h2 hl⟩
  ·cases hx
end
end Go.AX
namespace Go.AX
noncomputable section
def C8z(P:Program)(Γ:FuncId→Option Aad):Prop:=∀f s,Γ f=some s→Azb P f s∧∃fn,P.funcs[f]? = some fn∧fn.body.isSome∧fn.name≠ "runtime.NumGoroutine"
theorem Ceb{α β γ:Type}{R:α→β→Prop}{S:γ→β→Prop}{f:α→γ}(h:∀a b,R a b→S (f a) b):∀{l:List α} {m:List β},Abs R l m→Abs S (l.map f) m
 |[],[],_=>trivial
 | _::_,_::_,⟨x,y⟩=>⟨h _ _ x,Ceb h y⟩
 |[],_::_,x=>x.elim
 | _::_,[],x=>x.elim
theorem B57{hq:Aam}{id:Nat}{E:TypeId}{t:Ty}{ver:Nat}{xs:List t.den}(hb:hq id=some (.row E t ver false xs)):∀{fr:List Nat},id∈fr→(id,Aau.row E t ver true xs)∈Agv hq fr
 |[],h=>by simp at h
 |i::r,h=>by
  simp only[Agv]
  by_cases e:id=i
  ·subst e;rw[hb];simp
  ·simp only[List.mem_cons,e,false_or]at h
   have:=B57 hb h
   split
   ·exact List.mem_cons_of_mem _ this
   ·exact this
theorem Cii{P:Program}{s:Aad}{f:FuncId}(hS:Azb P f s){hq0 hq hp0:Aam}{pre:List (Nat×Aau)}{dst:Nat}(hqe:hq=Aa3 hq0 pre){args args':List AV}{fr:List Nat}{R:Type}{K:KD R}{res:R}(hfz:Akm hq0 s.pure args=some (args',fr))(h:Ca2 s hq args' fr pre dst K=some res) :
  ∃l v,K l v=some res∧∀(g:List Bool) F ρ hp0 W rargs,Csl hq0 hp0 dst pre→Abx F ρ hp0 W→(∀id b,hq0 id=some b→hp0 id=some b)→(∀j,j<32→hq0 (Aa5 dst j)=none→hp0 (Aa5 dst j)=none)→Af5 g hp0 l=true→
   Abs (RV F ρ hp0) args rargs.toList→Calls P f rargs W fun e W'=>∃r,e = .returned r∧Aif g F ρ hp0 W (Aa3 hp0 l) v r W':=by
 unfold Ca2 at h
 simp only at h
 split at h
 case h_2=>cases h
 rename_i bl hdis hlen hbl
 obtain⟨v,bl',nw,hK,hcall⟩:=hS R _ bl _ res h
 split at hK
 case h_2=>cases hK
 rename_i l l' hl hl'
 have h32:=Nat.blt_eq.mp hlen
 have hnd:=A95 hq 400 (args'.flatMap AV.refs) [] List.nodup_nil
 revert hdis hlen hbl hl hl' h32 hnd hK hcall h
 generalize A2a hq 400 (args'.flatMap AV.refs) []=ids
 intro hdis hlen hbl h hcall hl hl' hK h32 hnd
 have hdis:∀x,x∈fr→x∉ids:=by
  intro x hx hm
  have:=List.all_eq_true.1 hdis x hx
  rw[Ahf.2 hm]at this;cases this
 have core:∀(g:List Bool) (F Fc:Fz) (ρ:Rho) (hp:Aam) (W:World) (rargs:Array Value) (flat:Bool),Abx F ρ hp W→(∀id,id∈ids→∀b,hq id=some b→hp id=some b)→
   (∀j,j<32→hq (Aa5 dst j)=none→hp (Aa5 dst j)=none)→(∀b o,F b=some o→Fc b=some o)→(∀b o,Fc b=some o→W.heap[b]? = some o)→
   (∀id,id∈ids→∀b,hp id=some b→b.fz=false→∀k,k∈(ρ id).bs→Fc k=none)→
   (∀i id E t ver fz xs,ids[i]? = some id→id<32→hp id=some (.row E t ver fz xs)→Aot hq s.grow ids i=ver∨g.getD id false=true)→
   ((flat=false∧Fc=F)∨(flat=true∧(v.flat&&bl'.all Aau.flat&&nw.all Aau.flat)=true))→(Aqs g=true→Aqs s.grow=true∨∀id,id∈ids→32≤id)→
   Abs (RV Fc ρ hp) args' rargs.toList→Calls P f rargs W fun e W'=>∃r,e = .returned r∧(Aif g F ρ hp W (Aa3 hp (l++l')) (v.ren (Ahp hq s.grow ids dst)) r W'∧(Aqs s.grow=true→Aif g F ρ hp W (Aa3 hp l') (v.ren (Ahp hq s.grow ids dst)) r W')):=by
  intro g F Fc ρ hp W rargs flat ho hsub hnew hF hFz hFo hg hmode hrg hargs
  have hσ:=Ctp (ρ:=ρ) hnd hsub h32 hbl
  have hch:=Cxz ho hnd hsub h32 hbl hF hFz hFo
  have hca:=Ceb (S:=RV Fc (Ayl ρ ids) (Af4 bl [])) (fun a b hab=>RV.ren hσ (F':=Fc) (.inl fun _ _ h=>h) hab) hargs
  refine (hcall Fc (Ayl ρ ids) W rargs hca hch).mono fun e W' he=>?_
  obtain⟨r,F',ρ',rfl,hv,ho',hext⟩:=he
  ·refine⟨r,rfl,?_⟩
   rcases hmode with ⟨rfl,rfl⟩|⟨rfl,hfl⟩
   ·exact Cpl (F2:=F') (flat:=false) ho hnd hsub h32 hbl hnew hF hl hl' hg hv ho' hext (.inl ⟨rfl,rfl⟩) (fun h=>by cases h) hrg
   ·exact Cpl (F2:=F) (flat:=true) ho hnd hsub h32 hbl hnew hF hl hl' hg hv ho' hext (.inr ⟨rfl,rfl⟩) (fun _=>hfl) hrg
 obtain⟨bl1,bl2,bl3⟩:=Bpv hl
 have grows:∀(g:List Bool) (hp0 hp:Aam) (L:List (Nat×Aau)),Af5 g hp0 L=true→(∀p,p∈l→p∈L)→(∀i E t v fz xs,i∈ids→hp0 i=some (.row E t v fz xs)→hp i=some (.row E t v fz xs))→
   (∀i,i∈ids→∀b,hq i=some b→hp i=some b)→∀i id E t ver fz xs,ids[i]? = some id→id<32→hp id=some (.row E t ver fz xs)→Aot hq s.grow ids i=ver∨g.getD id false=true:=by
  intro g hp0 hp L hg hL hrows hsub i id E t ver fz xs hi hlt hid
  obtain⟨b0,b,h1,h2,h3,h4⟩:=bl3 i id hi
  have hm:=List.mem_of_getElem? hi
  have:=hsub id hm b0 h1
  rw[hid]at this;cases this
  obtain⟨c,c1,c2⟩:=B0e hg (hL _ h4) hlt
  replace h3:=h3.1
  cases b<;>simp only[Bi7]at h3<;>try (cases h3;done)
  simp only[Aau.ren,Ai2]at c2
  cases c<;>simp only at c2
  have:=hrows id _ _ _ _ _ hm c1
  rw[hid]at this;cases this
  simp only[Nat.zero_add]at c2
  exact c2.2.imp Eq.symm (fun h=>h)
 have roIds:∀{g:List Bool} {hp0:Aam} {L:List (Nat×Aau)},Af5 g hp0 L=true→(∀p,p∈l→p∈L)→Aqs g=true→Aqs s.grow=true∨∀id,id∈ids→32≤id:=by
  intro g hp0 L hg hL hr
  refine .inr fun id hm=>?_
  obtain⟨i,hi⟩:=List.getElem?_of_mem hm
  obtain⟨b0,b,h1,h2,h3,h4⟩:=bl3 i id hi
  exact Bt5 hg hr _ (hL _ h4)
 by_cases hro:fr=[]∧Aqs s.grow=true
 ·obtain⟨hfr,hro⟩:=hro
  have hKe:K (pre++l') (v.ren (Ahp hq s.grow ids dst))=some res:=by
   cases fr with
   |nil=>simp only[hro]at hK;exact hK
   |cons a r=>cases hfr
  refine⟨_,_,hKe,fun g F ρ hp0 W rargs hmat ho hs hnew hg hargs=>?_⟩
  obtain⟨k1,k2,k3,k4⟩:=Cfk hmat hs hnew
  obtain⟨F1,ρ1,ho1,ht1,_,he1⟩:=Cfl (g:=g) hmat ho hs hnew
  have hargs1:Abs (RV F1 ρ1 (Aa3 hp0 pre)) args rargs.toList:=hargs.mono fun a b=>ht1 a b
  subst hqe
  subst hfr
  have hfz':=A67 k2 hfz
  rw[Azc]
  have hgs:∀i,s.grow.getD i false=false:=by
   intro i
   unfold Aqs at hro
   split at hro
   ·rename_i e;rw[e];cases i<;>rfl
   ·cases hro
  have hcore:=core g F1 F1 ρ1 (Aa3 hp0 pre) W rargs false ho1 (fun id _ b h=>k3 id b h) k4 (fun _ _ h=>h) (fun b o h=>ho1.fz b o h) (fun id _ b hb hz k hk=>ho1.apart k ⟨id,b,hb,hz,hk⟩) ?_ (.inl ⟨rfl,rfl⟩) (fun _=>.inl hro) (A68 ho1 k3 F1 (fun _ _ h=>h) hfz' hargs1 (fun id hi=>by cases hi))
  ·refine hcore.mono fun e W' he=>?_
   obtain⟨r,rfl,_,hgd⟩:=he
   obtain⟨F2,ρ2,a,b,c,d⟩:=hgd hro
   exact⟨r,rfl,F2,ρ2,a,fun x y h=>b x y (ht1 x y h),c,he1.trans d⟩
  ·intro i id E t ver fz xs hi hlt hid
   obtain⟨b0,b,h1,h2,h3,h4⟩:=bl3 i id hi
   have:=k3 id b0 h1
   rw[hid]at this;cases this
   left
   simp only[Aot,hi,h1,hgs i]
 by_cases hcase:fr=[]∨(v.flat&&bl'.all Aau.flat&&nw.all Aau.flat)=true
 ·-- nothing stays frozen
  have hKe:K (pre++(l++l')) (v.ren (Ahp hq s.grow ids dst))=some res:=by
   cases fr with
   |nil=>
    have:Aqs s.grow=false:=by
     cases e:Aqs s.grow with
     |false=>rfl
     |true=>exact absurd ⟨rfl,e⟩ hro
    simp only[this]at hK;exact hK
   |cons a r=>
    rcases hcase with h|h
    ·cases h
    ·rw[h]at hK;exact hK
  refine⟨_,_,hKe,fun g F ρ hp0 W rargs hmat ho hs hnew hg hargs=>?_⟩
  obtain⟨k1,k2,k3,k4⟩:=Cfk hmat hs hnew
  obtain⟨F1,ρ1,ho1,ht1,_,he1⟩:=Cfl (g:=g) hmat ho hs hnew
  have hargs1:Abs (RV F1 ρ1 (Aa3 hp0 pre)) args rargs.toList:=hargs.mono fun a b=>ht1 a b
  subst hqe
  have hfz':=A67 k2 hfz
  have hrows:=Azf hfz'
  rw[Azc]
  have hF:∀b o,F1 b=some o→(if ∃id,id∈fr∧b∈(ρ1 id).bs then W.heap[b]? else F1 b)=some o:=by
   intro b o h
   split
   ·exact ho1.fz b o h
   ·exact h
  let Fc:Fz:=⟨fun k=>if ∃id,id∈fr∧k∈(ρ1 id).bs then W.heap[k]? else F1 k,F1.2.up hF⟩
  have hsnap:∀id,id∈fr→∀k,k∈(ρ1 id).bs→Fc k=W.heap[k]?:=fun id hi k hk=>if_pos ⟨id,hi,hk⟩
  have hcore:=core g F1 Fc ρ1 (Aa3 hp0 pre) W rargs (if fr=[] then false else true) ho1 (fun id _ b h=>k3 id b h) k4 hF ?_ ?_ ?_ ?_ (roIds hg fun p hp=>by simp[hp]) (A68 ho1 k3 Fc hF hfz' hargs1 hsnap)
  ·refine hcore.mono fun e W' he=>?_
   obtain⟨r,rfl,hgd,_⟩:=he
   ·obtain⟨F2,ρ2,a,b,c,d⟩:=hgd
    exact⟨r,rfl,F2,ρ2,a,fun x y h=>b x y (ht1 x y h),c,he1.trans d⟩
  ·intro b o h
   simp only[Fc]at h
   split at h
   ·exact h
   ·exact ho1.fz b o h
  ·intro id hid b hb hz k hk
   simp only[Fc]
   rw[if_neg]
   ·exact ho1.apart k ⟨id,b,hb,hz,hk⟩
   ·rintro⟨id',h1,h2⟩
    obtain⟨E,t,ver,fz,xs,hr⟩:=hrows id' h1
    have:=ho1.inj id id' b _ k hb (k3 _ _ hr) hk h2
    subst this
    exact hdis id h1 hid
  ·exact grows g hp0 _ _ hg (fun p hp=>by simp[hp]) (fun i E t v fz xs _ h=>k1 i E t v fz xs h) (fun i _ b h=>k3 i b h)
  ·by_cases e:fr=[]
   ·left
    refine⟨by simp[e],?_⟩
    refine Subtype.ext (funext fun k=>?_)
    simp[Fc,e]
   ·right
    refine⟨by simp[e],?_⟩
    rcases hcase with h|h
    ·exact absurd h e
    ·exact h
 ·-- the arguments' rows stay frozen
  simp only[not_or]at hcase
  have hKe:K (pre++(Agv hq fr++(l++l'))) (v.ren (Ahp hq s.grow ids dst))=some res:=by
   cases fr with
   |nil=>exact absurd rfl hcase.1
   |cons a r=>
    have h2:(v.flat&&bl'.all Aau.flat&&nw.all Aau.flat)=false:=by
     cases e:(v.flat&&bl'.all Aau.flat&&nw.all Aau.flat) with
     |false=>rfl
     |true=>exact absurd e hcase.2
    rw[h2]at hK;exact hK
  refine⟨_,_,hKe,fun g F ρ hp0 W rargs hmat ho hs hnew hg hargs=>?_⟩
  obtain⟨k1,k2,k3,k4⟩:=Cfk hmat hs hnew
  obtain⟨F1,ρ1,ho1,ht1,_,he1⟩:=Cfl (g:=g) hmat ho hs hnew
  have hargs1:Abs (RV F1 ρ1 (Aa3 hp0 pre)) args rargs.toList:=hargs.mono fun a b=>ht1 a b
  subst hqe
  have hfz':=A67 k2 hfz
  have hrows:=Azf hfz'
  have hrows0:=Azf hfz
  rw[Azc,Azc]
  have h32f:∀id,id∈fr→∀E t ver xs,Aa3 hq0 pre id=some (.row E t ver false xs)→32≤id:=by
   intro id hid E t ver xs hb
   obtain⟨E',t',ver',fz',xs',hb0⟩:=hrows0 id hid
   have:=k2 id _ _ _ _ _ hb0
   rw[hb]at this;cases this
   rcases Nat.lt_or_ge id 32 with hlt|hge
   ·have hmem:(id,Aau.row E t ver true xs)∈Agv (Aa3 hq0 pre) fr :=
      B57 hb hid
    obtain⟨b0,c1,c2⟩:=B0e hg (List.mem_append_right _ (List.mem_append_left _ hmem)) hlt
    rw[hs _ _ hb0]at c1;cases c1
    simp at c2
   ·exact hge
  obtain⟨Ff,hff⟩:=Bir g ho1 (fr:=fr) hrows (fun id E t ver fz xs h hid=>⟨fz,k3 _ _ h,fun h=>h⟩) h32f
  have hsub:∀id,id∈ids→∀b,Aa3 hq0 pre id=some b→Aa3 (Aa3 hp0 pre) (Agv (Aa3 hq0 pre) fr) id=some b:=by
   intro id hid b hb
   rw[hff.same id fun hm=>hdis id hm hid]
   exact k3 _ _ hb
  have hcore:=core g Ff Ff ρ1 _ W rargs false hff.ok hsub (fun j hj h=>hff.none _ (k4 j hj h)) (fun _ _ h=>h) (fun b o h=>hff.ok.fz b o h) ?_ ?_ (.inl ⟨rfl,rfl⟩) (roIds hg fun p hp=>by simp[hp]) ?_
  ·refine hcore.mono fun e W' he=>?_
   obtain⟨r,rfl,hgd,_⟩:=he
   ·obtain⟨F2,ρ2,a,b,c,d⟩:=Aif.frozen hff hgd
    exact⟨r,rfl,F2,ρ2,a,fun x y h=>b x y (ht1 x y h),c,he1.trans d⟩
  ·intro id hid b hb hz k hk
   exact hff.ok.apart k ⟨id,b,hb,hz,hk⟩
  ·refine grows g hp0 _ _ hg (fun p hp=>by simp[hp]) (fun i E t v fz xs hi h=>?_) hsub
   rw[hff.same i fun hm=>hdis i hm hi]
   exact k1 i E t v fz xs h
  ·have:=A68 ho1 k3 Ff hff.ext.fmono hfz' hargs1 hff.snap
   exact this.mono fun a b=>RV.mono (fun _ _ h=>h) hff.keep
theorem Aag{P:Program}{tt:TT}{Γ:FuncId→Option Aad}(hΓ:C8z P Γ):A0m P tt Γ:=by
 intro R hq f args dst K res h
 unfold Csf at h
 split at h
 ·cases h
 rename_i s hs
 obtain⟨hS,hfn⟩:=hΓ f s hs
 split at h
 ·cases h
 rename_i args' fr hfz
 split at h
 ·obtain⟨l,v,hK,hc⟩:=Cii hS (hq0:=hq) (hp0:=hq) (pre:=[]) rfl hfz h
  exact⟨l,v,hK,fun g F ρ hp W rargs ho hs' hnew hg hargs=>by
   obtain⟨fn,a,b,c⟩:=hfn
   exact⟨fn,a,b,c,hc g F ρ hp W rargs ⟨.inl rfl⟩ ho hs' hnew hg hargs⟩⟩
 ·split at h
  ·cases h
  rename_i pre hpre
  obtain⟨l,v,hK,hc⟩:=Cii hS (hq0:=hq) (hp0:=hq) (pre:=pre) rfl hfz h
  exact⟨l,v,hK,fun g F ρ hp W rargs ho hs' hnew hg hargs=>by
   obtain⟨fn,a,b,c⟩:=hfn
   exact⟨fn,a,b,c,hc g F ρ hp W rargs (Bpw hp hpre) ho hs' hnew hg hargs⟩⟩
end
end Go.AX
namespace Go.AX
noncomputable section
def B58(n:Nat)(g:List Bool)(F:Fz)(ρ:Rho)(hp:Aam)(a:Act)(W:World)(e:Ex)(st':ASt):Exit→Act→World→Prop :=
 fun x a' W'=>x=e.to∧Alh n g F ρ hp a W st' a' W'
theorem Alh.refl{n:Nat}{g:List Bool}{F:Fz}{ρ:Rho}{st:ASt}{a:Act}{W:World}(h:Ax5 n F ρ st a W):Alh n g F ρ st.hp a W st a W :=
 ⟨rfl,F,ρ,h,Ext.refl _ _ _ _ _⟩
theorem Alh.trans{n:Nat}{g:List Bool}{F:Fz}{ρ:Rho}{hp:Aam}{a:Act}{W:World}{st1:ASt}{a1:Act}{W1:World}{st2:ASt}{a2:Act}{W2:World}(h:Alh n g F ρ hp a W st1 a1 W1)(k:∀F1 ρ1,Ax5 n F1 ρ1 st1 a1 W1→Alh n g F1 ρ1 st1.hp a1 W1 st2 a2 W2):Alh n g F ρ hp a W st2 a2 W2:=by
 obtain⟨hd,F1,ρ1,hs,he⟩:=h
 obtain⟨kd,F2,ρ2,ks,ke⟩:=k F1 ρ1 hs
 exact⟨kd.trans hd,F2,ρ2,ks,he.trans ke⟩
theorem Alh.inv{n:Nat}{g:List Bool}{F:Fz}{ρ:Rho}{hp:Aam}{a:Act}{W:World}{st1:ASt}{a1:Act}{W1:World}(h:Alh n g F ρ hp a W st1 a1 W1):∃F1 ρ1,Ax5 n F1 ρ1 st1 a1 W1:=by
 obtain⟨_,F1,ρ1,hs,_⟩:=h;exact⟨F1,ρ1,hs⟩
theorem Ctq{st:ASt}{d:Nat}{v:AV}(h:st.env d=v):st.set (some d) v=st:=by
 cases st with
 |mk env hp=>
  simp only[ASt.set]at h ⊢
  congr 1
  funext s
  by_cases e:s=d
  ·subst e;rw[Bg2];exact h.symm
  ·rw[A4p e]
def A4s(ops:Array Oper)(o:Oper)(env:Env)(w:Bool):Prop:=match o.guard with
 |none=>w=true
 |some (j,want)=>∃d,(ops[j]?).bind (·.dst)=some d∧((∃b,env d = .v (.one (.a (.val .bool b)))∧w=(b==want))∨(env d = .tup []∧w=false))
theorem B59{R:Type}{ops:Array Oper}{o:Oper}{st:ASt}{Ky Kn:ASt→Option R}{r:R}(h:Bt2 ops o st Ky Kn=some r) :
  (A4s ops o st.env true∧Ky st=some r)∨(A4s ops o st.env false∧Kn st=some r):=by
 unfold Bt2 at h
 unfold A4s
 split at h
 ·rename_i hg;rw[hg];exact .inl ⟨rfl,h⟩
 ·rename_i j want hg
  rw[hg]
  split at h
  ·cases h
  rename_i d hd
  split at h
  case h_3=>cases h
  case h_2=>rename_i hb;exact .inr ⟨⟨d,hd,.inr ⟨hb,rfl⟩⟩,h⟩
  rename_i b hb
  split at h
  ·rename_i e
   rw[Ctq (by rw[hb];simp only[vb,AV.at];rw[show b=true from e])]at h
   cases want with
   |true=>exact .inl ⟨⟨d,hd,.inl ⟨b,hb,by rw[show b=true from e];rfl⟩⟩,h⟩
   |false=>exact .inr ⟨⟨d,hd,.inl ⟨b,hb,by rw[show b=true from e];rfl⟩⟩,h⟩
  ·rename_i e
   have e:b=false:=by cases hbb:b with|false=>rfl|true=>exact absurd hbb e
   rw[Ctq (by rw[hb];simp only[vb,AV.at];rw[e])]at h
   cases want with
   |true=>exact .inr ⟨⟨d,hd,.inl ⟨b,hb,by rw[e];rfl⟩⟩,h⟩
   |false=>exact .inl ⟨⟨d,hd,.inl ⟨b,hb,by rw[e];rfl⟩⟩,h⟩
theorem A4s.real{n:Nat}{F:Fz}{ρ:Rho}{st:ASt}{a:Act}{W:World}(hs:Ax5 n F ρ st a W){ops:Array Oper}(hb:∀(j:Nat) o d,ops[j]? = some o→o.dst=some d→d<n){o:Oper}{w:Bool}(h:A4s ops o st.env w):Region.wanted o (yielded ops a.tmps)=w:=by
 unfold A4s at h
 unfold Region.wanted
 split at h
 ·rename_i hg;rw[hg,h]
 ·rename_i j want hg
  rw[hg]
  obtain⟨d,hd,h⟩:=h
  have hlt:d<a.tmps.size:=by
   rw[hs.size]
   cases hj:ops[j]? with
   |none=>rw[hj]at hd;simp at hd
   |some oj=>rw[hj]at hd;exact hb j oj d hj hd
  have h1:=hs.env d
  rcases h with ⟨b,he,rfl⟩|⟨he,rfl⟩
  ·rw[he]at h1
   have h2:a.tmps.getD d undef = .bool b:=by
    have:[a.tmps.getD d undef]=[Value.bool b]:=h1
    simpa using this
   have:yielded ops a.tmps j=some b:=by
    unfold yielded
    rw[hd]
    have:a.tmps[d]? = some (.bool b):=by
     rw[Array.getD_eq_getD_getElem?]at h2
     simp[hlt]at h2 ⊢
     exact h2
    simp[this]
   simp only[this]
   cases b<;>cases want<;>rfl
  ·rw[he]at h1
   obtain⟨rs,h2,h3⟩:=h1
   have h4:=h3.nil_left
   have h2:a.tmps.getD d undef = .tuple rs:=h2
   have:yielded ops a.tmps j=none:=by
    unfold yielded
    rw[hd]
    have:a.tmps[d]? = some (.tuple rs):=by
     rw[Array.getD_eq_getD_getElem?]at h2
     simp[hlt]at h2 ⊢
     exact h2
    simp[this]
   simp only[this]
   cases want<;>rfl
structure Stp where
 i:Nat
 o:Oper
 act:Option (List (Nat×Aau)×AV)
 looks:List Nat
def Stp.app(s:Stp)(st:ASt):ASt:=match s.act with
 |some (l,v)=>st.upd s.o.dst l v
 |none=>st.set s.o.dst (.tup [])
theorem C04{n:Nat}{g:List Bool}{F:Fz}{ρ:Rho}{st:ASt}{a:Act}{W:World}(hs:Ax5 n F ρ st a W){d:Option Tmp}(hd:∀t,d=some t→t<n) :
  Alh n g F ρ st.hp a W (st.set d (.tup [])) (a.put d undef) W :=
 Alh.of_good hs hd (Aif.val hs.heap ⟨#[],rfl,trivial⟩)
theorem OpS.leads{P:Program}{n:Nat}{g:List Bool}{o:Oper}{st st':ASt}(h:OpS P n g o st st'){F:Fz}{ρ:Rho}{hp:Aam}{a0 a:Act}{W0 W:World}(hl:Alh n g F ρ hp a0 W0 st a W)(K:Act→World→Prop)(Q:Exit→Act→World→Prop)(hK:∀a' W',Alh n g F ρ hp a0 W0 st' a' W'→K a' W'):o.wp P a W K Q:=by
 obtain⟨hd,F1,ρ1,hs,he⟩:=hl
 refine h F1 ρ1 a W hs K Q (fun a' W' hl=>hK a' W' ?_)
 obtain⟨kd,F2,ρ2,ks,ke⟩:=hl
 exact⟨kd.trans hd,F2,ρ2,ks,he.trans ke⟩
theorem Alh.undef{n:Nat}{g:List Bool}{F:Fz}{ρ:Rho}{hp:Aam}{st:ASt}{a0 a:Act}{W0 W:World}(hl:Alh n g F ρ hp a0 W0 st a W){d:Option Tmp}(hd:∀t,d=some t→t<n) :
  Alh n g F ρ hp a0 W0 (st.set d (.tup [])) (a.put d undef) W:=by
 obtain⟨h0,F1,ρ1,hs,he⟩:=hl
 obtain⟨kd,F2,ρ2,ks,ke⟩:=C04 (g:=g) hs hd
 exact⟨kd.trans h0,F2,ρ2,ks,he.trans ke⟩
theorem Clr{P:Program}{tt:TT}(htt:Aj1 P tt){Γ:FuncId→Option Aad}(hΓ:A0m P tt Γ){g:List Bool}{n:Nat}{ops:Array Oper}(hb:∀(j:Nat) (o:Oper) (d:Tmp),ops[j]? = some o→o.dst=some d→d<n){R:Type}{K:ASt→Option R}{r:R} :
  ∀(is:List Nat) (st:ASt),Cti tt Γ g ops is st K=some r→∃st',K st'=some r∧∀F ρ hp a0 W0 a W,Alh n g F ρ hp a0 W0 st a W→wpOps P ops (B58 n g F ρ hp a0 W0 .normal st') is a W
 |[],st,h=>⟨st,h,fun F ρ hp a0 W0 a W hs=>⟨rfl,hs⟩⟩
 |i::rest,st,h=>by
  simp only[Cti]at h
  split at h
  ·cases h
  rename_i o ho
  have hd:∀t,o.dst=some t→t<n:=fun t ht=>hb i o t ho ht
  rcases B59 h with ⟨hw,hk⟩|⟨hw,hk⟩
  ·obtain⟨l,v,h1,h2⟩:=Cpk htt hΓ (g:=g) (o:=o) (n:=n) hd hk
   split at h1
   case h_2=>cases h1
   rename_i hg
   obtain⟨st',k1,k2⟩:=Clr htt hΓ hb rest _ h1
   refine⟨st',k1,fun F ρ hp a0 W0 a W hl=>?_⟩
   obtain⟨F1,ρ1,hs⟩:=hl.inv
   simp only[wpOps,ho,hw.real hs hb,if_true]
   exact .inl ((h2 st ⟨fun x=>.inl rfl,fun _ _ h=>h,fun _ _ h=>h⟩ hg).leads hl _ _ (fun a' W' hl'=>k2 F ρ hp a0 W0 a' W' hl'))
  ·obtain⟨st',k1,k2⟩:=Clr htt hΓ hb rest _ hk
   refine⟨st',k1,fun F ρ hp a0 W0 a W hl=>?_⟩
   obtain⟨F1,ρ1,hs⟩:=hl.inv
   simp only[wpOps,ho,hw.real hs hb,Bool.false_eq_true,if_false]
   exact k2 F ρ hp a0 W0 _ W (hl.undef hd)
def C80(P:Program)(n:Nat)(g:List Bool)(ops:Array Oper)(s:Stp)(st:ASt):Prop :=
 ops[s.i]? = some s.o∧A4s ops s.o st.env s.act.isSome∧∀l v,s.act=some (l,v)→s.looks=AX.looks s.o st.env st.hp∧Af5 g st.hp l=true∧
  ∀st1,Ctj (s.o.dst.getD 0) st1 (evs (Cfd (Ajj ops s.o) st.env)) (hpR s.looks st.hp)→Af5 g st1.hp l=true→OpS P n g s.o st1 (st1.upd s.o.dst l v)
def Stp.tr(s:Stp):Bn2:=match s.act with
 |some (l,_)=>⟨s.i,s.looks,l.map (·.1)⟩
 |none=>⟨s.i,[],[]⟩
def done(D:Nat→Bool):List Stp→ASt→ASt
 |[],st=>st
 |s::r,st=>done D r (match D s.i with|true=>s.app st|false=>st)
def Cij(P:Program)(n:Nat)(g:List Bool)(ops:Array Oper):List Stp→ASt→Prop
 |[],_=>True
 |s::r,st=>C80 P n g ops s st∧Cij P n g ops r (s.app st)
def after(ss:List Stp)(st:ASt):ASt:=ss.foldl (fun st s=>s.app st) st
theorem Cfm{P:Program}{tt:TT}(htt:Aj1 P tt){Γ:FuncId→Option Aad}(hΓ:A0m P tt Γ){g:List Bool}{n:Nat}{ops:Array Oper}(hb:∀(j:Nat) (o:Oper) (d:Tmp),ops[j]? = some o→o.dst=some d→d<n){R:Type}{K:ASt→List Bn2→Option R}{r:R} :
  ∀(is:List Nat) (st:ASt) (tr:List Bn2),Ca3 tt Γ g ops is st tr K=some r→∃ss:List Stp,ss.map (·.i)=is∧Cij P n g ops ss st∧K (after ss st) (tr++ss.map Stp.tr)=some r
 |[],st,tr,h=>⟨[],rfl,trivial,by simpa [after,Ca3]using h⟩
 |i::rest,st,tr,h=>by
  simp only[Ca3]at h
  split at h
  ·cases h
  rename_i o ho
  rcases B59 h with ⟨hw,hk⟩|⟨hw,hk⟩
  ·obtain⟨l,v,h1,h2⟩:=Cpk htt hΓ (g:=g) (o:=o) (n:=n) (fun t ht=>hb i o t ho ht) hk
   split at h1
   case h_2=>cases h1
   rename_i hg
   obtain⟨ss,k1,k2,k3⟩:=Cfm htt hΓ hb rest _ _ h1
   refine⟨⟨i,o,some (l,v),AX.looks o st.env st.hp⟩::ss,by simp[k1],⟨⟨ho,hw,fun l' v' e=>?_⟩,k2⟩,?_⟩
   ·cases e
    exact⟨rfl,hg,fun st1 hs1 hg1=>h2 st1 hs1 hg1⟩
   ·simpa [after,Stp.app,Stp.tr,List.append_assoc]using k3
  ·obtain⟨ss,k1,k2,k3⟩:=Cfm htt hΓ hb rest _ _ hk
   refine⟨⟨i,o,none,[]⟩::ss,by simp[k1],⟨⟨ho,hw,fun l' v' e=>by cases e⟩,k2⟩,?_⟩
   simpa [after,Stp.app,Stp.tr,List.append_assoc]using k3
end
end Go.AX
namespace Go.AX
noncomputable section
def A3f(E H:List Nat)(st st':ASt):Prop:=(∀s,s∈E→st.env s=st'.env s)∧∀id,id∈H→st.hp id=st'.hp id
theorem Cec{hp hp':Aam}{k:Nat}:∀{l:List (Nat×Aau)},hp k=hp' k→Aa3 hp l k=Aa3 hp' l k
 |[],h=>h
 |(id,b)::r,h=>by
  simp only[Aa3]
  apply Cec
  by_cases e:k=id
  ·subst e;simp
  ·rw[Ad6 e,Ad6 e];exact h
theorem Cz0(st:ASt)(d:Option Tmp)(v:AV)(s:Nat):(st.set d v).env s=if d=some s then v else st.env s:=by
 cases d with
 |none=>simp[ASt.set]
 |some d=>
  simp only[ASt.set]
  by_cases e:s=d
  ·subst e;simp
  ·rw[A4p e]
   have:¬(some d=some s):=fun h=>e (Option.some.inj h).symm
   simp[this]
theorem C4c(st:ASt)(d:Option Tmp)(v:AV):(st.set d v).hp=st.hp:=by cases d<;>rfl
theorem Bg5(x:Stp)(st:ASt)(s:Nat):(x.app st).env s=if x.o.dst=some s then (match x.act with|some (_,v)=>v|none=>.tup []) else st.env s:=by
 unfold Stp.app
 cases x.act with
 |none=>simp only[Cz0]
 |some p=>obtain⟨l,v⟩:=p;simp only[ASt.upd,Cz0]
theorem B6a(x:Stp)(st:ASt):(x.app st).hp=Aa3 st.hp (match x.act with|some (l,_)=>l|none=>[]):=by
 unfold Stp.app
 cases x.act with
 |none=>simp only[C4c];rfl
 |some p=>obtain⟨l,v⟩:=p;simp only[ASt.upd,C4c]
theorem ASt.ext'{st st':ASt}(h1:∀s,st.env s=st'.env s)(h2:∀k,st.hp k=st'.hp k):st=st':=by
 cases st;cases st'
 simp only at h1 h2
 congr
 ·funext s;exact h1 s
 ·funext s;exact h2 s
theorem A3f.app{E H:List Nat}{st st':ASt}(x:Stp)(h:A3f E H st st'):A3f E H (x.app st) (x.app st'):=by
 refine⟨fun s hs=>?_,fun k hk=>?_⟩
 ·rw[Bg5,Bg5,h.1 s hs]
 ·rw[B6a,B6a];exact Cec (h.2 k hk)
def Stp.keys(x:Stp):List Nat:=match x.act with|some (l,_)=>l.map (·.1)|none=>[]
def B6b(x:Stp)(E H:List Nat):Prop:=(∀d,x.o.dst=some d→d∉E)∧∀k,k∈x.keys→k∉H
theorem A2d{x:Stp}{st:ASt}{k:Nat}(h:k∉x.keys):(x.app st).hp k=st.hp k:=by
 rw[B6a]
 unfold Stp.keys at h
 cases ha:x.act with
 |none=>rfl
 |some p=>obtain⟨l,v⟩:=p;rw[ha]at h;exact Aj2 h
theorem B6b.agree{x:Stp}{E H:List Nat}{st:ASt}(h:B6b x E H):A3f E H (x.app st) st:=by
 refine⟨fun s hs=>?_,fun k hk=>?_⟩
 ·rw[Bg5,if_neg]
  intro e;exact h.1 s e hs
 ·exact A2d fun hm=>h.2 k hm hk
theorem A3f.trans{E H:List Nat}{a b c:ASt}(h:A3f E H a b)(k:A3f E H b c):A3f E H a c :=
 ⟨fun s hs=>(h.1 s hs).trans (k.1 s hs),fun i hi=>(h.2 i hi).trans (k.2 i hi)⟩
theorem A3f.symm{E H:List Nat}{a b:ASt}(h:A3f E H a b):A3f E H b a:=⟨fun s hs=>(h.1 s hs).symm,fun i hi=>(h.2 i hi).symm⟩
theorem A3f.refl(E H:List Nat)(a:ASt):A3f E H a a:=⟨fun _ _=>rfl,fun _ _=>rfl⟩
theorem Cpm{E H:List Nat}{D:Nat→Bool}:∀{pre:List Stp} {st st':ASt},A3f E H st st'→(∀x,x∈pre→D x.i=false→B6b x E H)→A3f E H (done D pre st) (after pre st')
 |[],st,st',h,_=>h
 |x::r,st,st',h,hu=>by
  simp only[done,after,List.foldl_cons]
  refine Cpm (pre:=r) ?_ (fun y hy=>hu y (List.mem_cons_of_mem _ hy))
  cases hD:D x.i with
  |true=>exact h.app x
  |false=>exact h.trans (hu x (List.mem_cons_self ..) hD).agree.symm
theorem Cik{E H:List Nat}{D:Nat→Bool}:∀{post:List Stp} {st st':ASt},A3f E H st st'→(∀x,x∈post→D x.i=true→B6b x E H)→A3f E H (done D post st) st'
 |[],st,st',h,_=>h
 |x::r,st,st',h,hu=>by
  simp only[done]
  refine Cik (post:=r) ?_ (fun y hy=>hu y (List.mem_cons_of_mem _ hy))
  cases hD:D x.i with
  |true=>exact (hu x (List.mem_cons_self ..) hD).agree.trans h
  |false=>exact h
theorem Bit(D:Nat→Bool):∀(l m:List Stp) (st:ASt),done D (l++m) st=done D m (done D l st)
 |[],_,_=>rfl
 | _::l,m,_=>by simp only[List.cons_append,done];exact Bit D l m _
theorem B0g{D D':Nat→Bool}:∀{l:List Stp} {st:ASt},(∀x,x∈l→D x.i=D' x.i)→done D l st=done D' l st
 |[],_,_=>rfl
 |x::l,st,h=>by
  simp only[done,h x (List.mem_cons_self ..)]
  exact B0g fun y hy=>h y (List.mem_cons_of_mem _ hy)
theorem Ctr{D:Nat→Bool}:∀{l:List Stp} {st:ASt},(∀x,x∈l→D x.i=true)→done D l st=after l st
 |[],_,_=>rfl
 |x::l,st,h=>by
  simp only[done,h x (List.mem_cons_self ..),after,List.foldl_cons]
  exact Ctr fun y hy=>h y (List.mem_cons_of_mem _ hy)
theorem Cpn{D:Nat→Bool}:∀{l:List Stp} {st:ASt},(∀x,x∈l→D x.i=false)→done D l st=st
 |[],_,_=>rfl
 |x::l,st,h=>by
  simp only[done,h x (List.mem_cons_self ..)]
  exact Cpn fun y hy=>h y (List.mem_cons_of_mem _ hy)
def Cts(x y:Stp):Prop:=(∀d,x.o.dst=some d→y.o.dst≠some d)∧∀k,k∈x.keys→k∉y.keys
theorem C4d{hp hp':Aam}{k:Nat}{l:List (Nat×Aau)}(h:k∈l.map (·.1)):Aa3 hp l k=Aa3 hp' l k:=by
 induction l generalizing hp hp' with
 |nil=>simp at h
 |cons p r ih=>
  obtain⟨id,c⟩:=p
  simp only[Aa3]
  by_cases hr:k∈r.map (·.1)
  ·exact ih hr
  ·simp only[List.map_cons,List.mem_cons]at h
   rcases h with rfl|h
   ·rw[Aj2 hr,Aj2 hr];simp
   ·exact absurd h hr
theorem Cil{x:Stp}{st st':ASt}{k:Nat}(h:k∈x.keys):(x.app st).hp k=(x.app st').hp k:=by
 rw[B6a,B6a]
 unfold Stp.keys at h
 cases ha:x.act with
 |none=>rw[ha]at h;simp at h
 |some p=>obtain⟨l,v⟩:=p;rw[ha]at h;exact C4d h
theorem Cts.app{x y:Stp}(h:Cts x y)(st:ASt):x.app (y.app st)=y.app (x.app st):=by
 refine ASt.ext' (fun s=>?_) (fun k=>?_)
 ·rw[Bg5,Bg5,Bg5 y,Bg5]
  by_cases e:x.o.dst=some s
  ·rw[if_pos e,if_pos e,if_neg (h.1 s e)]
  ·rw[if_neg e,if_neg e]
 ·by_cases hx:k∈x.keys
  ·have hy:=h.2 k hx
   rw[A2d (x:=y) hy]
   exact Cil hx
  ·rw[A2d hx]
   by_cases hy:k∈y.keys
   ·exact Cil hy
   ·rw[A2d hy,A2d hy,A2d hx]
theorem Cfn{D:Nat→Bool}{s:Stp}:∀{post:List Stp} {st:ASt},(∀x,x∈post→D x.i=true→Cts x s)→done D post (s.app st)=s.app (done D post st)
 |[],_,_=>rfl
 |x::r,st,h=>by
  simp only[done]
  cases hD:D x.i with
  |true=>
   simp only
   rw[(h x (List.mem_cons_self ..) hD).app st]
   exact Cfn fun y hy=>h y (List.mem_cons_of_mem _ hy)
  |false=>exact Cfn fun y hy=>h y (List.mem_cons_of_mem _ hy)
theorem B6c{a b:List Nat}:Ch5 a b=false ↔ ∀x,x∈a→x∉b:=by
 unfold Ch5
 rw[List.any_eq_false]
 constructor
 ·intro h x hx hm;exact h x hx (Ahf.2 hm)
 ·intro h x hx hm;exact h x hx (Ahf.1 hm)
structure Ctt(ops:Array Oper)(x y:Stp):Prop where
 wl:∀k,k∈x.keys→k∉y.tr.looks
 lw:∀k,k∈y.keys→k∉x.tr.looks
 ww:∀k,k∈x.keys→k∉y.keys
 du:∀d,x.o.dst=some d→d∉Ajj ops y.o
 dd:∀d,x.o.dst=some d→y.o.dst≠some d
 ud:∀d,y.o.dst=some d→d∉Ajj ops x.o
theorem Cls(s:Stp):s.tr.i=s.i:=by unfold Stp.tr;cases s.act with|none=>rfl|some p=>rfl
theorem Bt9(s:Stp):s.tr.writes=s.keys:=by unfold Stp.tr Stp.keys;cases s.act with|none=>rfl|some p=>rfl
theorem Ctu{ops:Array Oper}{x y:Stp}(hx:ops[x.i]? = some x.o)(hy:ops[y.i]? = some y.o)(h:apart ops x.tr y.tr=true):Ctt ops x y:=by
 unfold apart at h
 rw[Cls,Cls,hx,hy]at h
 simp only[Bool.and_eq_true,Bool.not_eq_true']at h
 obtain⟨⟨⟨⟨h1,h2⟩,h3⟩,h4⟩,h5⟩:=h
 rw[Bt9]at h1
 rw[Bt9]at h2
 rw[Bt9,Bt9]at h3
 refine⟨B6c.1 h1,B6c.1 h2,B6c.1 h3,?_,?_,?_⟩
 ·intro d hd hm
  rw[hd]at h4
  simp only[Ahf.2 hm,Bool.not_true,Bool.false_and,Bool.false_eq_true]at h4
 ·intro d hd he
  rw[hd,he]at h4
  simp at h4
 ·intro d hd hm
  rw[hd]at h5
  simp only[Ahf.2 hm,Bool.not_true,Bool.false_eq_true]at h5
theorem B6d{ops:Array Oper}{bef:List (List Nat)}:∀{pre post:List Bn2} {b:Bn2},Bpd ops bef (pre++b::post)=true→
  (∀a,a∈pre→a.i∈bef.getD b.i []∨apart ops a b=true)∧∀c,c∈post→b.i∈bef.getD c.i []∨apart ops b c=true
 |[],post,b,h=>by
  simp only[List.nil_append,Bpd,Bool.and_eq_true,List.all_eq_true,Bool.or_eq_true]at h
  exact⟨by simp,fun c hc=>(h.1 c hc).imp Ahf.1 fun h=>h⟩
 |a::pre,post,b,h=>by
  simp only[List.cons_append,Bpd,Bool.and_eq_true,List.all_eq_true,Bool.or_eq_true]at h
  obtain⟨h1,h2⟩:=B6d h.2
  refine⟨fun x hx=>?_,h2⟩
  simp only[List.mem_cons]at hx
  rcases hx with rfl|hx
  ·exact (h.1 b (by simp)).imp Ahf.1 fun h=>h
  ·exact h1 x hx
def At6(acc:List (List Nat))(o:Oper):List (List Nat):=acc++[o.after.toList.flatMap fun e=>match Region.binds .any e with|true=>e.on::acc.getD e.on []|false=>[]]
theorem Ctv:∀(l:List Oper),(l.foldl At6 []).length=l.length∧∀(k:Nat) (o:Oper),l[k]? = some o→∀x,x∈(l.foldl At6 []).getD k []→
  ∃e,e∈o.after.toList∧Region.binds .any e=true∧(x=e.on∨(e.on<k∧x∈(l.foldl At6 []).getD e.on [])):=by
 intro l
 rw[←List.reverse_reverse l]
 generalize l.reverse=r
 induction r with
 |nil=>simp
 |cons o r ih=>
  rw[List.reverse_cons]
  revert ih
  generalize r.reverse=l
  intro ih
  obtain⟨hl,ih⟩:=ih
  have e:(l++[o]).foldl At6 []=l.foldl At6 []++[o.after.toList.flatMap fun e=>match Region.binds .any e with|true=>e.on::(l.foldl At6 []).getD e.on []|false=>[]]:=by
   rw[List.foldl_append];rfl
  rw[e]
  have low:∀k,k<l.length→(l.foldl At6 []++[o.after.toList.flatMap fun e=>match Region.binds .any e with|true=>e.on::(l.foldl At6 []).getD e.on []|false=>[]]).getD k []=(l.foldl At6 []).getD k []:=by
   intro k hk
   rw[List.getD_eq_getElem?_getD,List.getElem?_append_left (by omega),←List.getD_eq_getElem?_getD]
  refine⟨by simp[hl],fun k o' hk x hx=>?_⟩
  rcases Nat.lt_or_ge k l.length with hlt|hge
  ·rw[List.getElem?_append_left hlt]at hk
   rw[low k hlt]at hx
   obtain⟨e,h1,h2,h3⟩:=ih k o' hk x hx
   refine⟨e,h1,h2,h3.imp (fun h=>h) fun ⟨h4,h5⟩=>⟨h4,?_⟩⟩
   rw[low _ (by omega)];exact h5
  ·have hkl:k=l.length:=by
    have:k<(l++[o]).length:=by
     rcases Nat.lt_or_ge k (l++[o]).length with h|h
     ·exact h
     ·rw[List.getElem?_eq_none h]at hk;cases hk
    simp at this;omega
   subst hkl
   simp at hk;subst hk
   rw[List.getD_eq_getElem?_getD,List.getElem?_append_right (by omega)]at hx
   simp only[hl,Nat.sub_self,List.getElem?_cons_zero,Option.getD_some,List.mem_flatMap]at hx
   obtain⟨e,h1,h2⟩:=hx
   split at h2
   ·rename_i hb
    refine⟨e,h1,hb,?_⟩
    simp only[List.mem_cons]at h2
    refine h2.imp (fun h=>h) fun h=>?_
    have:e.on<l.length:=by
     rcases Nat.lt_or_ge e.on l.length with h' |h'
     ·exact h'
     ·rw[List.getD_eq_getElem?_getD,List.getElem?_eq_none (by omega)]at h;simp at h
    exact⟨this,by rw[low _ this];exact h⟩
   ·simp at h2
theorem B6e(ops:Array Oper):Aqt ops=ops.toList.foldl At6 []:=rfl
theorem Ax6{ops:Array Oper}{D:Nat→Bool}(hD:∀(j:Nat) (o:Oper),ops[j]? = some o→D j=true→∀e,e∈o.after→Region.binds .any e=true→D e.on=true) :
  ∀(n:Nat) (j:Nat),j<n→∀o,ops[j]? = some o→(∀e,e∈o.after→Region.binds .any e=true→D e.on=true)→∀x,x∈(Aqt ops).getD j []→D x=true
 |0,j,h,_,_,_,_,_=>by omega
 |n+1,j,hlt,o,ho,he,x,hx=>by
  rw[B6e]at hx
  obtain⟨e,h1,h2,h3⟩:=(Ctv ops.toList).2 j o (by simpa using ho) x hx
  have hd:=he e (by simpa using h1) h2
  rcases h3 with rfl|⟨h4,h5⟩
  ·exact hd
  ·have hj:e.on<ops.size:=by
    rcases Nat.lt_or_ge e.on ops.size with h|h
    ·exact h
    ·have:=(Ctv ops.toList).1
     rw[List.getD_eq_getElem?_getD,List.getElem?_eq_none (by simp at this ⊢;omega)]at h5
     simp at h5
   have ho':ops[e.on]? = some ops[e.on]:=by simp[hj]
   exact Ax6 hD n e.on (by omega) _ ho' (hD e.on _ ho' hd) x (by rw[B6e];exact h5)
theorem Aug{ops:Array Oper}(h:A2b ops=true){j:Nat}{o:Oper}(ho:ops[j]? = some o):∀e,e∈o.after→Region.binds .any e=true→e.on<j:=by
 intro e he hb
 have hj:j<ops.size:=(Array.getElem?_eq_some_iff.1 ho).1
 have:=List.all_eq_true.1 h j (List.mem_range.2 hj)
 rw[ho]at this
 have:=List.all_eq_true.1 this e (by simpa using he)
 rw[hb]at this
 exact Nat.blt_eq.mp (by simpa using this)
end
end Go.AX
namespace Go.AX
noncomputable section
theorem Cij.at{P:Program}{n:Nat}{g:List Bool}{ops:Array Oper}:∀{pre post:List Stp} {s:Stp} {st:ASt},Cij P n g ops (pre++s::post) st→C80 P n g ops s (after pre st)
 |[],_,_,_,h=>h.1
 | _::pre,_,_,_,h=>Cij.at (pre:=pre) h.2
theorem Cij.op{P:Program}{n:Nat}{g:List Bool}{ops:Array Oper}:∀{ss:List Stp} {st:ASt},Cij P n g ops ss st→∀x,x∈ss→ops[x.i]? = some x.o
 |[],_,_,x,hx=>by simp at hx
 |s::r,st,h,x,hx=>by
  simp only[List.mem_cons]at hx
  rcases hx with rfl|hx
  ·exact h.1.1
  ·exact Cij.op h.2 x hx
theorem B6f{g:List Bool}{hp hp':Aam}:∀{l:List (Nat×Aau)},(∀k,k∈l.map (·.1)→hp k=hp' k)→Af5 g hp l=Af5 g hp' l
 |[],_=>rfl
 |(id,b)::r,h=>by
  simp only[Af5]
  rw[h id (by simp),B6f (l:=r) fun k hk=>h k (by simp at hk ⊢;exact .inr hk)]
theorem C9z{uses:List Nat}{env:Env}{s:Nat}(h:s∈uses):Cfd uses env s=env s:=by simp[Cfd,Ahf.2 h]
theorem C60{uses:List Nat}{env:Env}{s:Nat}(h:s∉uses):Cfd uses env s = .at .undef:=by
 have:Aos s uses=false:=by cases e:Aos s uses with|false=>rfl|true=>exact absurd (Ahf.1 e) h
 simp[Cfd,this]
theorem Awq{D D':Nat→Bool}{j:Nat}(h1:∀k,D k=true→D' k=true)(h2:D' j=true)(h3:D j=false):∀(l:List Nat),j∈l→l.countP (fun k => !D' k)<l.countP (fun k => !D k)
 |[],h=>by simp at h
 |x::r,h=>by
  have mono:r.countP (fun k => !D' k)≤r.countP (fun k => !D k):=by
   apply List.countP_mono_left
   intro k _ hk
   cases e:D k with
   |false=>rfl
   |true=>simp[h1 k e]at hk
  simp only[List.countP_cons]
  by_cases e:x=j
  ·subst e
   simp only[h2,h3,Bool.not_true,Bool.not_false,Bool.false_eq_true,if_true,if_false]
   omega
  ·simp only[List.mem_cons]at h
   have:=Awq h1 h2 h3 r (h.resolve_left (fun h=>e h.symm))
   have:(if (!D' x)=true then 1 else 0)≤(if (!D x)=true then 1 else 0):=by
    cases e:D x with
    |false=>simp;split<;>omega
    |true=>simp[h1 x e]
   omega
theorem Aqv{a:Array Bool}{j:Nat}(h:j<a.size):a.getD j true=a.getD j false:=by simp[Array.getD,h]
section
variable {P:Program} {n:Nat} {g:List Bool} {ops:Array Oper} {ss:List Stp} {st0:ASt}
theorem Clt(hb:∀(j:Nat) (o:Oper) (d:Tmp),ops[j]? = some o→o.dst=some d→d<n)(hall:Cij P n g ops ss st0)(hids:ss.map (·.i)=List.range ops.size)(hord:Bpd ops (Aqt ops) (ss.map Stp.tr)=true)(hedge:A2b ops=true){F:Fz}{ρ:Rho}{hp:Aam}{a0:Act}{W0:World}:∀(fuel:Nat) (listed:Array Bool) (a:Act) (W:World),listed.size=ops.size→(List.range ops.size).countP (fun k => !listed.getD k false)≤fuel→
   (∀(j:Nat) (o:Oper),ops[j]? = some o→listed.getD j false=true→∀e,e∈o.after→Region.binds .any e=true→listed.getD e.on false=true)→
   Alh n g F ρ hp a0 W0 (done (fun k=>listed.getD k false) ss st0) a W→wpAny P .any ops (B58 n g F ρ hp a0 W0 .normal (after ss st0)) fuel listed a W:=by
 have fin:∀(listed:Array Bool),listed.size=ops.size→Region.ready .any ops listed=[]→done (fun k=>listed.getD k false) ss st0=after ss st0:=by
  intro listed hsz hr
  refine Ctr fun x hx=>?_
  have hx':x.i∈List.range ops.size:=by rw[←hids];exact List.mem_map.2 ⟨x,hx,rfl⟩
  have key:∀m j,j<m→j<ops.size→listed.getD j false=true:=by
   intro m
   induction m with
   |zero=>intro j h;omega
   |succ m ih=>
    intro j hjm hj
    cases e:listed.getD j false with
    |true=>rfl
    |false=>
     exfalso
     have hmem:j∈Region.ready .any ops listed:=by
      rw[mem_ready]
      refine⟨?_,ops[j],by simp[hj],fun e' he hb'=>?_⟩
      ·rw[Aqv (by omega)];exact e
      ·have hoj:ops[j]? = some ops[j]:=by simp[hj]
       have:=Aug hedge hoj e' he hb'
       exact ih _ (by omega) (by omega)
     rw[hr]at hmem;simp at hmem
  exact key (x.i+1) x.i (by omega) (List.mem_range.1 hx')
 intro fuel
 induction fuel with
 |zero=>
  intro listed a W hsz hcnt hdown hl
  have hr:Region.ready .any ops listed=[]:=by
   apply List.eq_nil_iff_forall_not_mem.2
   intro j hj
   obtain⟨h1,o,ho,_⟩:=mem_ready.1 hj
   have hj':j<ops.size:=(Array.getElem?_eq_some_iff.1 ho).1
   have:(List.range ops.size).countP (fun k => !listed.getD k false)=0:=by omega
   have:=List.countP_eq_zero.1 this j (List.mem_range.2 hj')
   rw[Aqv (by omega)]at h1
   rw[h1]at this;exact this rfl
  refine⟨hr,⟨rfl,?_⟩⟩
  rw[fin listed hsz hr]at hl;exact hl
 |succ fuel ih=>
  intro listed a W hsz hcnt hdown hl
  refine⟨fun hr=>⟨rfl,by rw[fin listed hsz hr]at hl;exact hl⟩,fun j hj=>?_⟩
  obtain⟨hnl,o,ho,hready⟩:=mem_ready.1 hj
  have hj':j<ops.size:=(Array.getElem?_eq_some_iff.1 ho).1
  have hjl:j<listed.size:=by omega
  have hnl:listed.getD j false=false:=by rw[Aqv hjl]at hnl;exact hnl
  have hjm:j∈ss.map (·.i):=by rw[hids];exact List.mem_range.2 hj'
  obtain⟨s,hs,rfl⟩:=List.mem_map.1 hjm
  obtain⟨pre,post,rfl⟩:=List.append_of_mem hs
  have hso:=hall.op s (by simp)
  rw[ho]at hso;cases hso
  have hnd:((pre++s::post).map (·.i)).Nodup:=by rw[hids];exact List.nodup_range
  rw[List.map_append,List.map_cons,List.nodup_append]at hnd
  have hbef:∀x,x∈(Aqt ops).getD s.i []→listed.getD x false=true :=
   Ax6 (D:=fun k=>listed.getD k false) hdown (s.i+1) s.i (by omega) _ ho hready
  have hpair:=hord
  rw[List.map_append,List.map_cons]at hpair
  obtain⟨hp1,hp2⟩:=B6d hpair
  have hA:∀x,x∈pre→listed.getD x.i false=false→Ctt ops x s:=by
   intro x hx hxl
   rcases hp1 x.tr (List.mem_map.2 ⟨x,hx,rfl⟩) with h|h
   ·rw[Cls,Cls]at h
    have:=hbef _ h
    rw[hxl]at this;cases this
   ·exact Ctu (hall.op x (by simp[hx])) ho h
  have hB:∀x,x∈post→listed.getD x.i false=true→Ctt ops s x:=by
   intro x hx hxl
   rcases hp2 x.tr (List.mem_map.2 ⟨x,hx,rfl⟩) with h|h
   ·rw[Cls,Cls]at h
    have hxo:=hall.op x (by simp[hx])
    have:=Ax6 (D:=fun k=>listed.getD k false) hdown (x.i+1) x.i (by omega) _ hxo (fun e he hb'=>hdown _ _ hxo hxl e he hb') _ h
    rw[hnl]at this;cases this
   ·exact Ctu ho (hall.op x (by simp[hx])) h
  have hview:A3f (Ajj ops s.o) (s.tr.looks++s.keys) (done (fun k=>listed.getD k false) (pre++s::post) st0) (after pre st0):=by
   rw[Bit]
   simp only[done,hnl]
   refine Cik (Cpm (A3f.refl _ _ _) fun x hx hxl=>?_) fun x hx hxl=>?_
   ·have:=hA x hx hxl
    refine⟨this.du,fun k hk hm=>?_⟩
    rcases List.mem_append.1 hm with hm|hm
    ·exact this.wl k hk hm
    ·exact this.ww k hk hm
   ·have:=hB x hx hxl
    refine⟨this.ud,fun k hk hm=>?_⟩
    rcases List.mem_append.1 hm with hm|hm
    ·exact this.lw k hk hm
    ·exact this.ww k hm hk
  have hset:done (fun k=>(listed.setIfInBounds s.i true).getD k false) (pre++s::post) st0=s.app (done (fun k=>listed.getD k false) (pre++s::post) st0):=by
   have other:∀k,k≠s.i→(listed.setIfInBounds s.i true).getD k false=listed.getD k false:=fun k hk=>getD_set_ne false (Ne.symm hk)
   have hpre:∀x,x∈pre→x.i≠s.i:=fun x hx e=>hnd.2.2 x.i (List.mem_map.2 ⟨x,hx,rfl⟩) s.i (List.mem_cons_self ..) e
   have hpost:∀x,x∈post→x.i≠s.i:=fun x hx e=>(List.nodup_cons.1 hnd.2.1).1 (by rw[←e];exact List.mem_map.2 ⟨x,hx,rfl⟩)
   have hsi:(listed.setIfInBounds s.i true).getD s.i false=true:=by simp[hjl]
   rw[Bit,Bit]
   simp only[done,hnl,hsi]
   rw[B0g (D':=fun k=>listed.getD k false) (l:=pre) fun x hx=>other x.i (hpre x hx),B0g (D':=fun k=>listed.getD k false) (l:=post) fun x hx=>other x.i (hpost x hx)]
   refine Cfn fun x hx hxl=>?_
   have:=hB x hx hxl
   exact⟨fun d hd he=>this.dd d he hd,fun k hk hm=>this.ww k hm hk⟩
  have hcnt':(List.range ops.size).countP (fun k => !(listed.setIfInBounds s.i true).getD k false)≤fuel:=by
   have:=Awq (D:=fun k=>listed.getD k false) (D':=fun k=>(listed.setIfInBounds s.i true).getD k false) (j:=s.i) (fun k hk=>getD_set_true hk) (by simp[hjl]) hnl (List.range ops.size) (List.mem_range.2 hj')
   omega
  have hdown':∀(j:Nat) (o:Oper),ops[j]? = some o→(listed.setIfInBounds s.i true).getD j false=true→∀e,e∈o.after→Region.binds .any e=true→(listed.setIfInBounds s.i true).getD e.on false=true:=by
   intro k ok hk hkl e he hb'
   apply getD_set_true
   by_cases e1:k=s.i
   ·subst e1;rw[ho]at hk;cases hk;exact hready e he hb'
   ·rw[getD_set_ne false (Ne.symm e1)]at hkl
    exact hdown k ok hk hkl e he hb'
  have hnext:∀a' W',Alh n g F ρ hp a0 W0 (s.app (done (fun k=>listed.getD k false) (pre++s::post) st0)) a' W'→wpAny P .any ops (B58 n g F ρ hp a0 W0 .normal (after (pre++s::post) st0)) fuel (listed.setIfInBounds s.i true) a' W':=by
   intro a' W' hl'
   refine ih _ a' W' (by simp[hsz]) hcnt' hdown' ?_
   rw[hset];exact hl'
  obtain⟨_,hw,hact⟩:=hall.at
  obtain⟨F1,ρ1,hinv⟩:=hl.inv
  have hw':A4s ops s.o (done (fun k=>listed.getD k false) (pre++s::post) st0).env s.act.isSome:=by
   unfold A4s at hw ⊢
   split at hw
   ·exact hw
   ·rename_i k want hg
    obtain⟨d,h1,h2⟩:=hw
    refine⟨d,h1,?_⟩
    rw[hview.1 d ?_]
    ·exact h2
    ·unfold Ajj
     rw[hg]
     simp[h1]
  have hreal:=hw'.real hinv hb
  unfold wpOp
  rw[ho]
  cases hac:s.act with
  |none=>
   rw[hac]at hreal
   simp only[hreal,Option.isSome_none,Bool.false_eq_true,if_false]
   refine hnext _ W ?_
   have:s.app (done (fun k=>listed.getD k false) (pre++s::post) st0)=(done (fun k=>listed.getD k false) (pre++s::post) st0).set s.o.dst (.tup []):=by simp[Stp.app,hac]
   rw[this]
   exact hl.undef fun t ht=>hb s.i _ t ho ht
  |some p=>
   obtain⟨l,v⟩:=p
   rw[hac]at hreal
   simp only[hreal,Option.isSome_some,if_true]
   obtain⟨h1,h2,h3⟩:=hact l v hac
   have hlk:s.tr.looks=s.looks:=by simp[Stp.tr,hac]
   have hky:s.keys=l.map (·.1):=by simp[Stp.keys,hac]
   have hsees:Ctj (s.o.dst.getD 0) (done (fun k=>listed.getD k false) (pre++s::post) st0) (evs (Cfd (Ajj ops s.o) (after pre st0).env)) (hpR s.looks (after pre st0).hp):=by
    refine⟨fun x=>?_,fun id b hid=>?_,fun j hj' hid=>?_⟩
    ·cases x with
     |tmp t=>
      simp only[evs]
      by_cases ht:t∈Ajj ops s.o
      ·rw[C9z ht,hview.1 t ht];exact .inl rfl
      ·exact .inr (C60 ht)
     |const v=>exact .inl rfl
     |global v=>exact .inl rfl
     |func f=>exact .inl rfl
    ·unfold hpR at hid
     split at hid
     ·rename_i hm
      have hm:=Ahf.1 hm
      rw[hview.2 id (List.mem_append_left _ (by rw[hlk];exact hm))];exact hid
     ·cases hid
    ·have hm:Aa5 (s.o.dst.getD 0) j∈s.looks:=by
      rw[h1];unfold looks
      exact List.mem_append_right _ (List.mem_map.2 ⟨j,List.mem_range.2 hj',rfl⟩)
     unfold hpR at hid
     rw[Ahf.2 hm]at hid
     rw[hview.2 _ (List.mem_append_left _ (by rw[hlk];exact hm))];exact hid
   have hgr:Af5 g (done (fun k=>listed.getD k false) (pre++s::post) st0).hp l=true:=by
    rw[B6f (hp':=(after pre st0).hp)]
    ·exact h2
    ·intro k hk
     exact hview.2 k (List.mem_append_right _ (by rw[hky];exact hk))
   refine .inl ((h3 _ hsees hgr).leads hl _ _ (fun a' W' hl'=>hnext a' W' ?_))
   have:s.app (done (fun k=>listed.getD k false) (pre++s::post) st0)=(done (fun k=>listed.getD k false) (pre++s::post) st0).upd s.o.dst l v:=by simp[Stp.app,hac]
   rw[this];exact hl'
end
theorem rep(N k:Nat):(Array.replicate N false).getD k false=false:=by
 rw[Array.getD_eq_getD_getElem?,Array.getElem?_replicate]
 split<;>rfl
theorem Alh.drawn{n:Nat}{g:List Bool}{F:Fz}{ρ:Rho}{hp:Aam}{a0 a:Act}{W0 W:World}{st:ASt}(h:Alh n g F ρ hp a0 W0 st a W):Alh n g F ρ hp a0 W0 st a {W with drawn:=W.drawn+1}:=by
 obtain⟨hd,F1,ρ1,⟨i1,i2,i3⟩,he⟩:=h
 refine⟨hd,F1,ρ1,⟨i1,i2,⟨fun id b hb=>?_,i3.inj,i3.fz,i3.apart⟩⟩,⟨he.os,he.tape,he.output,he.size,he.frame,he.prov,he.fmono,he.fprov,he.evo,he.keep⟩⟩
 have:=i3.blocks id b hb
 cases b<;>exact this
theorem C05{P:Program}(hm:P.follows .mixedOrders=true){tt:TT}(htt:Aj1 P tt){Γ:FuncId→Option Aad}(hΓ:A0m P tt Γ){g:List Bool}{n:Nat}{ops:Array Oper}(hb:∀(j:Nat) (o:Oper) (d:Tmp),ops[j]? = some o→o.dst=some d→d<n){R:Type}{K:ASt→Option R}{r:R}{id:Nat}{draw:Bool}{st:ASt}(h:Clj tt Γ g ops draw st K=some r) :
  ∃st',K st'=some r∧∀F ρ hp a0 W0 a W,Alh n g F ρ hp a0 W0 st a W→(Code.region id ops draw).wp P (B58 n g F ρ hp a0 W0 .normal st') a W:=by
 unfold Clj at h
 split at h
 ·obtain⟨st',h1,h2⟩:=Clr htt hΓ hb _ _ h
  exact⟨st',h1,fun F ρ hp a0 W0 a W hl=>wp_region (h2 F ρ hp a0 W0 a W hl)⟩
 ·split at h
  case h_2=>cases h
  rename_i hedge
  obtain⟨ss,h1,h2,h3⟩:=Cfm htt hΓ hb _ _ _ h
  simp only[List.nil_append]at h3
  split at h3
  case h_2=>cases h3
  rename_i hord
  refine⟨_,h3,fun F ρ hp a0 W0 a W hl=>wp_region_any hm ?_⟩
  refine Clt hb h2 h1 hord hedge _ _ _ _ (by simp) ?_ ?_ ?_
  ·exact Nat.le_trans List.countP_le_length (by simp)
  ·intro j o ho hj
   rw[rep]at hj;cases hj
  ·have:done (fun k=>(Array.replicate ops.size false).getD k false) ss st=st:=Cpn fun x _=>rep _ _
   rw[this]
   exact hl.drawn
end
end Go.AX
namespace Go.AX
noncomputable section
def Cba(P:Program)(n:Nat)(g:List Bool)(c:Code)(st:ASt)(e:Ex)(st':ASt):Prop :=
 ∀F ρ hp a0 W0 a W,Alh n g F ρ hp a0 W0 st a W→c.wp P (B58 n g F ρ hp a0 W0 e st') a W
def Ab1(P:Program)(n:Nat)(g:List Bool)(c:Code)(F:Aa6):Prop :=
 ∀(R:Type) (st:ASt) (K:Ex→ASt→Option R) (r:R),F R st K=some r→∃e st',K e st'=some r∧Cba P n g c st e st'
def Ajk(dom:Nat→Bool):Code→List (Nat×Code)
 | .seq a b=>Ajk dom a++(match dom (2*Agb b) with|true=>[(2*Agb b,b)]|false=>Ajk dom b)
 | .cond _ a b=>Ajk dom a++Ajk dom b
 | .block _ a=>Ajk dom a
 | .loop a=>match dom (2*Agb a+1) with|true=>[(2*Agb a+1,.loop a)]|false=>Ajk dom a
 | .scope a=>Ajk dom a
 | _=>[]
def Awr(dom:Nat→Bool)(n:Nat):Code→Bool
 | .region _ ops _=>ops.toList.all fun o=>match o.dst with|some d=>Nat.blt d n|none=>true
 | .seq a b=>Awr dom n a&&(match dom (2*Agb b) with|true=>true|false=>Awr dom n b)
 | .cond _ a b=>Awr dom n a&&Awr dom n b
 | .block _ a=>Awr dom n a
 | .scope a=>Awr dom n a
 | .loop a=>match dom (2*Agb a+1) with|true=>true|false=>Awr dom n a
 | _=>true
section
variable {P:Program}
def Bxc(P:Program)(c:Code)(Q:Exit→Act→World→Prop)(a:Act)(w:World):Prop :=
 ∀(b:Frame) (k:List Item) (cs:List Frame),∃e a' w',Q e a' w'∧Arrives P (lone (b.at a (.code c::.inLoop c::k)) cs w) b k cs e a' w'
theorem Bxc.loop{c:Code}{Q:Exit→Act→World→Prop}{a:Act}{w:World}(h:Bxc P c Q a w):(Code.loop c).wp P Q a w:=by
 intro b k cs
 obtain⟨e,a',w',hq,harr⟩:=h b k cs
 exact⟨e,a',w',hq,.of_steps (.one step_loop) harr⟩
theorem Bxc.round{c:Code}{Q:Exit→Act→World→Prop}{a:Act}{w:World}(h:c.wp P (Exit.then (Bxc P c Q) Q) a w):Bxc P c Q a w:=by
 intro b k cs
 obtain⟨e,a₁,w₁,hq,harr⟩:=h b (.inLoop c::k) cs
 cases e with
 |normal=>
  obtain⟨e₂,a₂,w₂,hq₂,harr₂⟩:=hq b k cs
  exact⟨e₂,a₂,w₂,hq₂,.of_steps (Steps.trans harr (.one step_inLoop)) harr₂⟩
 |exit id=>exact⟨_,a₁,w₁,hq,.pass (x:=.inLoop c) rfl (fun _ _=>.inl (by simp)) harr⟩
 |goto l=>exact⟨_,a₁,w₁,hq,.pass (x:=.inLoop c) rfl (fun _ _=>.inl (by simp)) harr⟩
 |ret=>exact⟨_,a₁,w₁,hq,.pass (x:=.inLoop c) rfl (fun _ _=>.inl (by simp)) harr⟩
 |panic ch=>exact⟨_,a₁,w₁,hq,.pass (x:=.inLoop c) rfl (fun _ _=>.inl (by simp)) harr⟩
 |outgrown=>exact⟨_,a₁,w₁,hq,.pass (x:=.inLoop c) rfl (fun _ _=>.inl (by simp)) harr⟩
end
section
variable {P:Program} {tt:TT} {Γ:FuncId→Option Aad} {g:List Bool} {n:Nat} {Λ:Nat→Option Aa6} {dom:Nat→Bool}
theorem Cfo(hm:P.follows .mixedOrders=true)(htt:Aj1 P tt)(hΓ:A0m P tt Γ)(hdom:∀k,(Λ k).isSome=dom k):∀(c:Code),Awr dom n c=true→(∀p,p∈Ajk dom c→∀F,Λ p.1=some F→Ab1 P n g p.2 F)→
  ∀(R:Type) (st:ASt) (K:Ex→ASt→Option R) (r:R),Aal tt Γ g Λ c st K=some r→∃e st',K e st'=some r∧Cba P n g c st e st':=by
 intro c
 induction c with
 |skip=>intro _ _ R st K r h;exact⟨.normal,st,h,fun F ρ hp a0 W0 a W hl=>wp_skip ⟨rfl,hl⟩⟩
 |region id ops draw=>
  intro hd _ R st K r h
  have hb:∀(j:Nat) (o:Oper) (d:Tmp),ops[j]? = some o→o.dst=some d→d<n:=by
   intro j o d ho hod
   have:=List.all_eq_true.1 hd o (by simpa using Array.mem_of_getElem? ho)
   rw[hod]at this
   exact Nat.blt_eq.mp this
  obtain⟨st',h1,h2⟩:=C05 (id:=id) hm htt hΓ hb h
  exact⟨.normal,st',h1,h2⟩
 |seq a b iha ihb=>
  intro hd hc R st K r h
  simp only[Aal]at h
  simp only[Awr,Bool.and_eq_true]at hd
  obtain⟨e,st1,h1,h2⟩:=iha hd.1 (fun p hp=>hc p (by simp[Ajk,hp])) R st _ r h
  cases e with
  |normal=>
   simp only at h1
   have hb:∃e st',K e st'=some r∧Cba P n g b st1 e st':=by
    cases hF:Λ (2*Agb b) with
    |some F=>
     rw[hF]at h1
     have hdm:dom (2*Agb b)=true:=by rw[←hdom,hF];rfl
     exact hc (2*Agb b,b) (by simp[Ajk,hdm]) F hF R st1 K r h1
    |none=>
     rw[hF]at h1
     have hdm:dom (2*Agb b)=false:=by rw[←hdom,hF];rfl
     rw[hdm]at hd
     exact ihb hd.2 (fun p hp=>hc p (by simp[Ajk,hdm,hp])) R st1 K r h1
   obtain⟨e,st',k1,k2⟩:=hb
   refine⟨e,st',k1,fun F ρ hp a0 W0 a W hl=>wp_seq (wp_mono (h2 F ρ hp a0 W0 a W hl) ?_)⟩
   rintro x a' W' ⟨rfl,hl'⟩
   ·exact k2 F ρ hp a0 W0 a' W' hl'
  |exit id=>
   refine⟨.exit id,st1,h1,fun F ρ hp a0 W0 a W hl=>wp_seq (wp_mono (h2 F ρ hp a0 W0 a W hl) ?_)⟩
   rintro x a' W' ⟨rfl,hl'⟩
   ·exact⟨rfl,hl'⟩
  |ret=>
   refine⟨.ret,st1,h1,fun F ρ hp a0 W0 a W hl=>wp_seq (wp_mono (h2 F ρ hp a0 W0 a W hl) ?_)⟩
   rintro x a' W' ⟨rfl,hl'⟩
   ·exact⟨rfl,hl'⟩
 |cond x a b iha ihb=>
  intro hd hc R st K r h
  simp only[Aal]at h
  simp only[Awr,Bool.and_eq_true]at hd
  split at h
  case h_2=>cases h
  rename_i t ht
  have hev:∀F ρ hp a0 W0 a W,Alh n g F ρ hp a0 W0 st a W→a.eval x = .bool t:=by
   intro F ρ hp a0 W0 a W hl
   obtain⟨F1,ρ1,hs⟩:=hl.inv
   have:=C30 hs x
   rw[ht]at this
   have:[a.eval x]=[Value.bool t]:=this
   simpa using this
  split at h
  ·rename_i et
   obtain⟨e,st',h1,h2⟩:=iha hd.1 (fun p hp=>hc p (by simp[Ajk,hp])) R st K r h
   exact⟨e,st',h1,fun F ρ hp a0 W0 a W hl=>wp_cond_true (by rw[hev F ρ hp a0 W0 a W hl,show t=true from et]) (h2 F ρ hp a0 W0 a W hl)⟩
  ·rename_i et
   have et:t=false:=by cases hh:t with|false=>rfl|true=>exact absurd hh et
   obtain⟨e,st',h1,h2⟩:=ihb hd.2 (fun p hp=>hc p (by simp[Ajk,hp])) R st K r h
   exact⟨e,st',h1,fun F ρ hp a0 W0 a W hl=>wp_cond_false (by rw[hev F ρ hp a0 W0 a W hl,et]) (h2 F ρ hp a0 W0 a W hl)⟩
 |block id a iha=>
  intro hd hc R st K r h
  simp only[Aal]at h
  obtain⟨e,st',h1,h2⟩:=iha hd (fun p hp=>hc p (by simp[Ajk,hp])) R st _ r h
  cases e with
  |normal=>
   refine⟨.normal,st',h1,fun F ρ hp a0 W0 a W hl=>wp_block (wp_mono (h2 F ρ hp a0 W0 a W hl) ?_)⟩
   rintro x a' W' ⟨rfl,hl'⟩
   ·exact⟨rfl,hl'⟩
  |ret=>
   refine⟨.ret,st',h1,fun F ρ hp a0 W0 a W hl=>wp_block (wp_mono (h2 F ρ hp a0 W0 a W hl) ?_)⟩
   rintro x a' W' ⟨rfl,hl'⟩
   ·exact⟨rfl,hl'⟩
  |exit id'=>
   simp only at h1
   cases he:Nat.beq id' id with
   |true=>
    rw[he]at h1
    have:=Aa8 he
    subst this
    refine⟨.normal,st',h1,fun F ρ hp a0 W0 a W hl=>wp_block (wp_mono (h2 F ρ hp a0 W0 a W hl) ?_)⟩
    rintro x a' W' ⟨rfl,hl'⟩
    ·simp only[Ex.to,Exit.inBlock,if_true];exact⟨rfl,hl'⟩
   |false=>
    rw[he]at h1
    have hne:id'≠id:=by rintro rfl;rw[Bg2]at he;cases he
    refine⟨.exit id',st',h1,fun F ρ hp a0 W0 a W hl=>wp_block (wp_mono (h2 F ρ hp a0 W0 a W hl) ?_)⟩
    rintro x a' W' ⟨rfl,hl'⟩
    ·simp only[Ex.to,Exit.inBlock,hne,if_false];exact⟨rfl,hl'⟩
 |loop a iha=>
  intro hd hc R st K r h
  simp only[Aal]at h
  split at h
  ·rename_i F hF
   have hdm:dom (2*Agb a+1)=true:=by rw[←hdom,hF];rfl
   exact hc (2*Agb a+1,.loop a) (by simp[Ajk,hdm]) F hF R st K r h
  ·rename_i hF
   have hdm:dom (2*Agb a+1)=false:=by rw[←hdom,hF];rfl
   simp only[Awr,hdm]at hd
   have hc':∀p,p∈Ajk dom a→∀F,Λ p.1=some F→Ab1 P n g p.2 F:=fun p hp=>hc p (by simp[Ajk,hdm,hp])
   have key:∀k (st:ASt) (r:R),Ca4 (fun st K=>Aal tt Γ g Λ a st K) k st K=some r→∃e st',K e st'=some r∧∀F ρ hp a0 W0 x W,Alh n g F ρ hp a0 W0 st x W→Bxc P a (B58 n g F ρ hp a0 W0 e st') x W:=by
    intro k
    induction k with
    |zero=>intro st r h;cases h
    |succ k ih=>
     intro st r h
     simp only[Ca4]at h
     obtain⟨e,st1,h1,h2⟩:=iha hd hc' R st _ r h
     cases e with
     |normal=>
      obtain⟨e,st',k1,k2⟩:=ih st1 r h1
      refine⟨e,st',k1,fun F ρ hp a0 W0 x W hl=>Bxc.round (wp_mono (h2 F ρ hp a0 W0 x W hl) ?_)⟩
      rintro x' a' W' ⟨rfl,hl'⟩
      ·exact k2 F ρ hp a0 W0 a' W' hl'
     |exit id=>
      refine⟨.exit id,st1,h1,fun F ρ hp a0 W0 x W hl=>Bxc.round (wp_mono (h2 F ρ hp a0 W0 x W hl) ?_)⟩
      rintro x' a' W' ⟨rfl,hl'⟩
      ·exact⟨rfl,hl'⟩
     |ret=>
      refine⟨.ret,st1,h1,fun F ρ hp a0 W0 x W hl=>Bxc.round (wp_mono (h2 F ρ hp a0 W0 x W hl) ?_)⟩
      rintro x' a' W' ⟨rfl,hl'⟩
      ·exact⟨rfl,hl'⟩
   obtain⟨e,st',k1,k2⟩:=key _ st r h
   exact⟨e,st',k1,fun F ρ hp a0 W0 x W hl=>(k2 F ρ hp a0 W0 x W hl).loop⟩
 |exit id=>intro _ _ R st K r h;exact⟨.exit id,st,h,fun F ρ hp a0 W0 a W hl=>wp_exit ⟨rfl,hl⟩⟩
 |ret=>intro _ _ R st K r h;exact⟨.ret,st,h,fun F ρ hp a0 W0 a W hl=>wp_ret ⟨rfl,hl⟩⟩
 |scope a iha=>
  intro hd hc R st K r h
  simp only[Aal]at h
  obtain⟨e,st',h1,h2⟩:=iha hd (fun p hp=>hc p (by simp[Ajk,hp])) R st K r h
  refine⟨e,st',h1,fun F ρ hp a0 W0 a W hl=>wp_scope_straight (wp_mono (h2 F ρ hp a0 W0 a W hl) ?_)⟩
  rintro x a' W' ⟨rfl,hl'⟩
  ·cases e<;>exact⟨rfl,hl'⟩
 | _=>intro _ _ R st K r h;cases h
end
end
end Go.AX

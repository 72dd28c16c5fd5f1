/- A reading of the model's code over typed data,proved sound: patterns,loops,functions. -/
import Derived.Test.YtjdklngopfpjgaaGreatX4
namespace Go.AX
noncomputable section
def Deh(p:Aac)(hp:Aam):Bool:=(List.range 32).all fun id=>match hp id with|none=>true|some _=>Aos id (p.hp.map (·.1))
def Csm(E:TypeId)(t:Ty)(T:TypeId)(cs:List Aby):Option (List t.den):=match Nat.beq T E&&Nat.ble 2 (cs.length/t.size) with
 |true=>Bim t (cs.length/t.size) cs
 |false=>none
def Cim(E:TypeId)(t:Ty):Aau→Aau
 | .cells T cs=>match Csm E t T cs with
  |some xs=>.row T t 0 false xs
  |none=>.cells T cs
 |b=>b
def A9d(E:TypeId)(t:Ty)(hp:Aam):Aam:=fun id=>match Nat.ble 32 id with
 |true=>(match hp id with|some b=>some (Cim E t b)|none=>none)
 |false=>hp id
def Cbb:List (Nat×Ae7)→ASt→ASt
 |[],st=>st
 |(id,.row E t)::r,st=>match Nat.ble 1000 id with
  |true=>Cbb r ⟨st.env,A9d E t st.hp⟩
  |false=>Cbb r st
 | _::r,st=>Cbb r st
def C61(p:Aac)(st:ASt):Option p.den:=match Dca p st with
 |some x=>match Deh p st.hp with
  |true=>some x
  |false=>none
 |none=>none
def dec(p:Aac)(st:ASt):Option p.den:=C61 p (Cbb p.hp st)
theorem Cin:∀{a b:Option Nat},Bpq a b=true ↔ a=b
 |none,none=>by simp[Bpq]
 |some a,some b=>by simp[Bpq]
 |none,some _=>by simp[Bpq]
 |some _,none=>by simp[Bpq]
structure Le(a b:DSt):Prop where
 src:∀id o,Afo a.src id=some o→Afo b.src id=some o
 fz:∀z,z∈a.fz→z∈b.fz
theorem Le.refl(a:DSt):Le a a:=⟨fun _ _ h=>h,fun _ h=>h⟩
theorem Le.trans{a b c:DSt}(h:Le a b)(k:Le b c):Le a c:=⟨fun id o x=>k.src id o (h.src id o x),fun z x=>k.fz z (h.fz z x)⟩
structure Aop(hp:Aam)(σ:DSt):Prop where
 inj:∀i j o,Afo σ.src i=some (some o)→Afo σ.src j=some (some o)→i=j
 low:∀i o,i<32→Afo σ.src i=some o→o=some i
 rows:Bps hp σ.fz
theorem Aqg{k id:Nat}{o:Option Nat}{r:Src}:Afo ((k,o)::r) id=if id=k then some o else Afo r id:=by
 simp only[Afo]
 by_cases e:id=k
 ·subst e;simp
 ·rw[A4p e];simp[e]
theorem Bn4:∀{s:Src} {id:Nat} {o:Option Nat},Afo s id=some o→(id,o)∈s
 |[],_,_,h=>by cases h
 |(k,o')::r,id,o,h=>by
  rw[Aqg]at h
  split at h
  ·rename_i e;cases h;subst e;exact List.mem_cons_self ..
  ·exact List.mem_cons_of_mem _ (Bn4 h)
theorem Ah0{hp:Aam}{σ:DSt}{id:Nat}{o:Option Nat}{s:Src}(h:Aza σ.src id o=some s)(hs:Aop hp σ):Aop hp ⟨s,σ.fz⟩∧Le σ ⟨s,σ.fz⟩∧Afo s id=some o:=by
 unfold Aza at h
 split at h
 ·rename_i o' ho
  split at h
  ·rename_i e
   cases h
   rw[Cin]at e
   exact⟨⟨hs.inj,hs.low,hs.rows⟩,⟨fun _ _ h=>h,fun _ h=>h⟩,by rw[ho,e]⟩
  ·cases h
 ·rename_i hn
  have le:∀o,Le σ ⟨(id,o)::σ.src,σ.fz⟩:=fun o=>⟨fun i o' hx=>by
   rw[Aqg]
   split
   ·rename_i e;subst e;rw[hn]at hx;cases hx
   ·exact hx,fun _ h=>h⟩
  split at h
  ·split at h
   ·rename_i hge
    have hge:=Nat.le_of_ble_eq_true hge
    cases h
    refine⟨⟨fun i j o h1 h2=>?_,fun i o hi h1=>?_,hs.rows⟩,le _,by rw[Aqg];simp⟩
    ·simp only[Aqg]at h1 h2
     split at h1
     ·cases h1
     ·split at h2
      ·cases h2
      ·exact hs.inj i j o h1 h2
    ·simp only[Aqg]at h1
     split at h1
     ·rename_i e;omega
     ·exact hs.low i o hi h1
   ·cases h
  ·rename_i old
   split at h
   ·cases h
   ·rename_i hc
    cases h
    simp only[Bool.or_eq_false_iff]at hc
    obtain⟨⟨hc1,hc2⟩,hc3⟩:=hc
    have no:∀i,Afo σ.src i≠some (some old):=by
     intro i hi
     have:=List.any_eq_false.1 hc1 _ (Bn4 hi)
     rw[Cin]at this
     exact this rfl
    refine⟨⟨fun i j o h1 h2=>?_,fun i o hi h1=>?_,hs.rows⟩,le _,by rw[Aqg];simp⟩
    ·simp only[Aqg]at h1 h2
     split at h1
     ·rename_i e1
      cases h1
      split at h2
      ·rename_i e2;rw[e1,e2]
      ·exact absurd h2 (no j)
     ·split at h2
      ·cases h2;exact absurd h1 (no i)
      ·exact hs.inj i j o h1 h2
    ·simp only[Aqg]at h1
     split at h1
     ·rename_i e
      cases h1
      subst e
      have:Nat.ble 32 i=false:=by
       cases e:Nat.ble 32 i with
       |false=>rfl
       |true=>have:=Nat.le_of_ble_eq_true e;omega
      rw[this]at hc2
      simp only[Bool.not_false,Bool.true_and,Bool.not_eq_false']at hc2
      rw[Aa8 hc2]
     ·exact hs.low i o hi h1
theorem Clu{hp:Aam}:∀{ids:List Nat} {cs:List Apg} {σ σ':DSt},Cfe hp ids cs σ=some σ'→Aop hp σ→Aop hp σ'∧Le σ σ'
 |[],[],σ,σ',h,hs=>by cases h;exact⟨hs,Le.refl _⟩
 |[],_::_,_,_,h,_=>by cases h
 |id::r,c::cs,σ,σ',h,hs=>by
  unfold Cfe at h
  split at h
  ·rename_i q _;cases q
  ·rename_i e2 e3
   cases e2;cases e3
   split at h
   ·rename_i hp' _
    split at h
    ·obtain⟨a,b,_⟩:=Ah0 hp' hs
     obtain⟨c,d⟩:=Clu h a
     exact⟨c,b.trans d⟩
    ·cases h
   ·cases h
  ·cases h
 | _::_,[],_,_,h,_=>by cases h
theorem Clv{hp:Aam}{p:Aou}{c:Aby}{σ σ':DSt}{v:p.den}(h:Cll hp p c σ=some (v,σ'))(hs:Aop hp σ):Aop hp σ'∧Le σ σ':=by
 unfold Cll at h
 split at h
 ·split at h
  ·rename_i hf
   split at h
   ·cases h
    refine⟨⟨hs.inj,hs.low,fun z hz=>?_⟩,fun _ _ h=>h,fun z hz=>by simp[hz]⟩
    simp only[List.mem_append]at hz
    rcases hz with hz|hz
    ·exact B2d hf z hz
    ·exact hs.rows z hz
   ·cases h
  ·cases h
 ·split at h
  ·rename_i hp';cases h;obtain⟨a,b,_⟩:=Ah0 hp' hs;exact⟨a,b⟩
  ·cases h
 ·split at h
  ·rename_i hp';cases h;obtain⟨a,b,_⟩:=Ah0 hp' hs;exact⟨a,b⟩
  ·cases h
 ·split at h
  ·split at h
   ·rename_i hp';cases h;obtain⟨a,b,_⟩:=Ah0 hp' hs;exact⟨a,b⟩
   ·cases h
  ·cases h
 ·split at h
  ·rename_i hp' _
   split at h
   ·cases h;obtain⟨a,b,_⟩:=Ah0 hp' hs;exact⟨a,b⟩
   ·cases h
  ·cases h
 ·split at h
  ·rename_i hp';cases h;obtain⟨a,b,_⟩:=Ah0 hp' hs;exact⟨a,b⟩
  ·cases h
 ·split at h
  ·split at h
   ·rename_i hp';cases h;obtain⟨a,b,_⟩:=Ah0 hp' hs;exact⟨a,b⟩
   ·cases h
  ·cases h
 all_goals first
  |(cases h;exact⟨hs,Le.refl _⟩)
  |(
   split at h
   ·cases h;exact⟨hs,Le.refl _⟩
   ·cases h)
  |(
   split at h
   ·rename_i hp';cases h;exact Clu hp' hs
   ·cases h)
  |(
   split at h
   ·rename_i hp';cases h;obtain⟨a,b,_⟩:=Ah0 hp' hs;exact⟨a,b⟩
   ·cases h)
  |cases h
theorem Bpx{hp:Aam}:∀{ps:List Aou} {cs:List Aby} {σ σ':DSt} {v:Bio ps},Bip hp ps cs σ=some (v,σ')→Aop hp σ→Aop hp σ'∧Le σ σ'
 |[],[],σ,σ',v,h,hs=>by cases h;exact⟨hs,Le.refl _⟩
 |[],_::_,_,_,_,h,_=>by cases h
 | _::_,[],_,_,_,h,_=>by cases h
 |p::r,c::cs,σ,σ',v,h,hs=>by
  simp only[Bip]at h
  split at h
  ·rename_i h1
   split at h
   ·rename_i h2
    cases h
    obtain⟨a,b⟩:=Clv h1 hs
    obtain⟨c,d⟩:=Bpx h2 a
    exact⟨c,b.trans d⟩
   ·cases h
  ·cases h
theorem C90{hp:Aam}{p:Acy}{x:AV}{σ σ':DSt}{v:p.den}(h:Clm hp p x σ=some (v,σ'))(hs:Aop hp σ):Aop hp σ'∧Le σ σ':=by
 unfold Clm at h
 split at h
 ·exact Clv h hs
 ·exact Bpx h hs
 ·cases h
theorem Clw{hp:Aam}{id:Nat}{p:Ae7}{σ σ':DSt}{v:p.den}(h:Cff hp id p σ=some (v,σ'))(hs:Aop hp σ):Aop hp σ'∧Le σ σ':=by
 unfold Cff at h
 split at h
 ·split at h
  ·split at h
   ·split at h
    ·exact Bpx h hs
    ·cases h
   ·cases h
  ·cases h
 ·split at h
  ·cases h;exact⟨hs,Le.refl _⟩
  ·split at h
   ·split at h
    ·split at h
     ·cases h;exact⟨hs,Le.refl _⟩
     ·cases h
    ·cases h
   ·cases h
  ·cases h
 ·split at h
  ·split at h
   ·split at h
    ·split at h
     ·split at h
      ·cases h;exact⟨hs,Le.refl _⟩
      ·cases h
     ·cases h
    ·cases h
   ·cases h
  ·cases h
 ·split at h
  ·split at h
   ·split at h
    ·exact Bpx h hs
    ·cases h
   ·cases h
  ·cases h
 ·split at h
  ·split at h
   ·split at h
    ·split at h
     ·cases h;exact⟨hs,Le.refl _⟩
     ·cases h
    ·cases h
   ·cases h
  ·cases h
 ·split at h
  ·split at h
   ·split at h
    ·rename_i hp';cases h;obtain⟨a,b,_⟩:=Ah0 hp' hs;exact⟨a,b⟩
    ·cases h
   ·cases h
  ·cases h
theorem Cpo{env:Env}{hp:Aam}:∀{ps:List (Nat×Acy)} {σ σ':DSt} {x:Bpp ps},Ch6 env hp ps σ=some (x,σ')→Aop hp σ→Aop hp σ'∧Le σ σ'∧
  ∀s,Bcs ps x s = .at .undef∨∃p v σa σb,Clm hp p (env s) σa=some (v,σb)∧Aop hp σa∧Le σb σ'∧Bcs ps x s=C0v p v
 |[],σ,σ',x,h,hs=>by cases h;exact⟨hs,Le.refl _,fun s=>.inl rfl⟩
 |(t,p)::r,σ,σ',x,h,hs=>by
  simp only[Ch6]at h
  split at h
  ·rename_i v σ1 h1
   split at h
   ·rename_i w σ2 h2
    cases h
    obtain⟨a,b⟩:=C90 h1 hs
    obtain⟨c,d,e⟩:=Cpo h2 a
    refine⟨c,b.trans d,fun s=>?_⟩
    simp only[Bcs]
    by_cases hst:s=t
    ·subst hst
     rw[Bg2]
     exact .inr ⟨p,v,σ,σ1,h1,hs,d,rfl⟩
    ·rw[A4p hst]
     rcases e s with e|⟨p',v',σa,σb,e1,e2,e3,e4⟩
     ·exact .inl e
     ·exact .inr ⟨p',v',σa,σb,e1,e2,e3,e4⟩
   ·cases h
  ·cases h
theorem Ctw{hp:Aam}:∀{ps:List (Nat×Ae7)} {σ σ':DSt} {x:Ahn ps},Csh hp ps σ=some (x,σ')→Aop hp σ→Aop hp σ'∧Le σ σ'∧
  (∀id b,A91 ps x id=some b→∃p v σa σb,Cff hp id p σa=some (v,σb)∧Aop hp σa∧Le σb σ'∧b=Clk p v)∧∀id,id∈ps.map (·.1)→∃b,A91 ps x id=some b
 |[],σ,σ',x,h,hs=>by cases h;exact⟨hs,Le.refl _,(fun id b hb=>by cases hb),(fun id h=>by simp at h)⟩
 |(t,p)::r,σ,σ',x,h,hs=>by
  simp only[Csh]at h
  split at h
  ·rename_i v σ1 h1
   split at h
   ·rename_i w σ2 h2
    cases h
    obtain⟨a,b⟩:=Clw h1 hs
    obtain⟨c,d,e,f⟩:=Ctw h2 a
    refine⟨c,b.trans d,fun id bl hbl=>?_,fun id hid=>?_⟩
    ·simp only[A91]at hbl
     by_cases hst:id=t
     ·subst hst
      rw[Bg2]at hbl
      cases hbl
      exact⟨p,v,σ,σ1,h1,hs,d,rfl⟩
     ·rw[A4p hst]at hbl
      exact e id bl hbl
    ·simp only[A91]
     by_cases hst:id=t
     ·subst hst;rw[Bg2];exact⟨_,rfl⟩
     ·rw[A4p hst]
      simp only[List.map_cons,List.mem_cons,hst,false_or]at hid
      exact f id hid
   ·cases h
  ·cases h
theorem B6g:∀{ps:List Aou} {v:Bio ps},(Bt3 ps v).length=ps.length
 |[],_=>rfl
 | _::r,v=>by simp[Bt3,B6g (ps:=r)]
theorem B6h{hp:Aam}:∀{ps:List Aou} {cs:List Aby} {σ σ':DSt} {v:Bio ps},Bip hp ps cs σ=some (v,σ')→cs.length=ps.length
 |[],[],_,_,_,_=>rfl
 |[],_::_,_,_,_,h=>by cases h
 | _::_,[],_,_,_,h=>by cases h
 |p::r,c::cs,σ,σ',v,h=>by
  simp only[Bip]at h
  split at h
  ·split at h
   ·rename_i h2;simp[B6h h2]
   ·cases h
  ·cases h
def Cio(hp hp':Aam)(S:Src):Prop:=(∀id,Afo S id=some none→∃E t,hp' id=some (.row E t 0 false []))∧
 ∀id old,Afo S id=some (some old)→∃b b',hp old=some b∧hp' id=some b'∧match b,b' with
  | .cells T cs,.cells T' cs'=>T=T'∧cs.length=cs'.length
  | .row E t _ fz xs,b'=>fz=false∧b' = .row E t 0 false xs
  | .amap T kt et m,b'=>b' = .amap T kt et m
  | .fmap T k m,.fmap T' k' m'=>T=T'∧k=k'
  | .pool T t xs,b'=>b' = .pool T t xs
  | .pmap T k p m,b'=>∃q,b' = .pmap T k q m∧Afo S q=some (some p)∧(id<32→p=q)
  | _,_=>False
theorem C62{hp hp':Aam}{σ:DSt}(hb:∀id b,hp' id=some b→∃p v σa σb,Cff hp id p σa=some (v,σb)∧Aop hp σa∧Le σb σ∧b=Clk p v)(hn:∀id o,Afo σ.src id=some o→∃b,hp' id=some b):Cio hp hp' σ.src∧∀id b,hp' id=some b→∃o,Afo σ.src id=some o∧((o=none∧∃E t,b = .row E t 0 false [])∨∃old,o=some old):=by
 have key:∀id b,hp' id=some b→(Afo σ.src id=some none∧∃E t,b = .row E t 0 false [])∨∃old b0,Afo σ.src id=some (some old)∧hp old=some b0∧match b0,b with
  | .cells T cs,.cells T' cs'=>T=T'∧cs.length=cs'.length
  | .row E t _ fz xs,b'=>fz=false∧b' = .row E t 0 false xs
  | .amap T kt et m,b'=>b' = .amap T kt et m
  | .fmap T k m,.fmap T' k' m'=>T=T'∧k=k'
  | .pool T t xs,b'=>b' = .pool T t xs
  | .pmap T k p m,b'=>∃q,b' = .pmap T k q m∧Afo σ.src q=some (some p)∧(id<32→p=q)
  | _,_=>False:=by
  intro id b h
  obtain⟨p,v,σa,σb,h1,hsa,h3,rfl⟩:=hb id b h
  have hle:=(Clw h1 hsa).2.trans h3
  unfold Cff at h1
  split at h1
  ·split at h1
   ·rename_i old hg
    split at h1
    ·rename_i T' xs ho
     split at h1
     ·rename_i e
      have e:=Aa8 e;subst e
      refine .inr ⟨old,_,hle.src _ _ hg,ho,?_⟩
      simp only[Clk]
      exact⟨trivial,by rw[B6g,B6h h1]⟩
     ·cases h1
    ·cases h1
   ·cases h1
  ·split at h1
   ·rename_i hg
    cases h1
    exact .inl ⟨hle.src _ _ hg,_,_,rfl⟩
   ·rename_i old hg
    split at h1
    ·rename_i E' t' ver xs ho
     split at h1
     ·rename_i e _
      split at h1
      ·rename_i et
       have e:=Aa8 e;subst e
       subst et
       cases h1
       refine .inr ⟨old,_,hle.src _ _ hg,ho,?_⟩
       exact⟨rfl,rfl⟩
      ·cases h1
     ·cases h1
    ·cases h1
   ·cases h1
  ·split at h1
   ·rename_i old hg
    split at h1
    ·rename_i T' kt' et' m ho
     split at h1
     ·rename_i e
      split at h1
      ·rename_i ek
       split at h1
       ·rename_i ee
        have e:=Aa8 e;subst e
        subst ek;subst ee
        cases h1
        exact .inr ⟨old,_,hle.src _ _ hg,ho,rfl⟩
       ·cases h1
      ·cases h1
     ·cases h1
    ·cases h1
   ·cases h1
  ·split at h1
   ·rename_i old hg
    split at h1
    ·rename_i T' k' m ho
     split at h1
     ·rename_i e _
      simp only[Bool.and_eq_true,decide_eq_true_eq]at e
      refine .inr ⟨old,_,hle.src _ _ hg,ho,?_⟩
      simp only[Clk]
      exact⟨(Aa8 e.1).symm,e.2.symm⟩
     ·cases h1
    ·cases h1
   ·cases h1
  ·split at h1
   ·rename_i old hg
    split at h1
    ·rename_i T' t' xs ho
     split at h1
     ·rename_i e
      split at h1
      ·rename_i et
       have e:=Aa8 e;subst e
       subst et
       cases h1
       exact .inr ⟨old,_,hle.src _ _ hg,ho,rfl⟩
      ·cases h1
     ·cases h1
    ·cases h1
   ·cases h1
  ·split at h1
   ·rename_i old hg
    split at h1
    ·rename_i T' k' p m ho
     split at h1
     ·rename_i s e hp'
      simp only[Bool.and_eq_true,Bool.or_eq_true,decide_eq_true_eq]at e
      obtain⟨e,e',e3⟩:=e
      have e:=Aa8 e;subst e;subst e'
      cases h1
      obtain⟨_,_,hg2⟩:=Ah0 hp' hsa
      refine .inr ⟨old,_,hle.src _ _ hg,ho,_,rfl,h3.src _ _ hg2,fun hlt=>?_⟩
      rcases e3 with e3|e3
      ·have:=Nat.le_of_ble_eq_true e3;omega
      ·exact Aa8 e3
     ·cases h1
    ·cases h1
   ·cases h1
 refine⟨⟨fun id hid=>?_,fun id old hid=>?_⟩,fun id b h=>?_⟩
 ·obtain⟨b,h⟩:=hn id _ hid
  rcases key id b h with ⟨_,E,t,rfl⟩|⟨old,b0,h1,_⟩
  ·exact⟨E,t,h⟩
  ·rw[hid]at h1;cases h1
 ·obtain⟨b,h⟩:=hn id _ hid
  rcases key id b h with ⟨h1,_⟩|⟨old',b0,h1,h2,h3⟩
  ·rw[hid]at h1;cases h1
  ·rw[hid]at h1;cases h1
   exact⟨b0,b,h2,h,h3⟩
 ·rcases key id b h with ⟨h1,h2⟩|⟨old,b0,h1,_⟩
  ·exact⟨_,h1,.inl ⟨rfl,h2⟩⟩
  ·exact⟨_,h1,.inr ⟨old,rfl⟩⟩
end
end Go.AX
namespace Go.AX
noncomputable section
section
variable {F F':Fz} {ρ ρ':Rho} {hp hp':Aam} {W:World} {S:DSt}
theorem Cz1(hh:Abx F ρ hp W)(hN:Cio hp hp' S.src)(hρs:∀id old,Afo S.src id=some (some old)→ρ' id=ρ old) :
  ∀{ids:List Nat} {cs:List Apg} {σ σ':DSt} {rs:List Value},Cfe hp ids cs σ=some σ'→Aop hp σ→Le σ' S→Abs (RA F ρ hp) cs rs→
   Abs (RA F' ρ' hp') (ids.map fun id=>.ptr id 0 0 0) rs
 |[],[],_,_,rs,_,_,_,hr=>by have:=hr.nil_left;subst this;trivial
 |[],_::_,_,_,_,h,_,_,_=>by cases h
 | _::_,[],_,_,_,h,_,_,_=>by cases h
 |id::ids,c::cs,σ,σ',rs,h,hs,hle,hr=>by
  unfold Cfe at h
  split at h
  ·rename_i q _;cases q
  ·rename_i e2 e3
   cases e2;cases e3
   obtain⟨b',rs',rfl,hr,hrs⟩:=hr.cons_left
   split at h
   ·rename_i hi hf hp' hb
    split at h
    ·rename_i hbv
     obtain⟨a1,a2,hg⟩:=Ah0 hp' hs
     have ih:=Cz1 hh hN hρs h a1 hle hrs
     refine⟨?_,ih⟩
     have hle1:=(Clu h a1).2.trans hle
     have hi:=Aa8 hi;have hf:=Aa8 hf;have hbv:=Aa8 hbv
     subst hi;subst hf
     have hg:=hle1.src _ _ hg
     obtain⟨b0,b',h1,h2,h3⟩:=hN.2 _ _ hg
     simp only[RA]at hr
     obtain⟨b1,e1,_,ad,rfl,hc⟩:=hr
     have q0:b0=b1:=Option.some.inj (h1.symm.trans e1)
     subst q0
     have q1:=Option.some.inj (hb.symm.trans h1)
     rw[q1]at hbv
     replace hc:=hc hbv
     simp only[RA]
     cases b0<;>simp only at hc
     ·cases b'<;>simp only at h3
      refine⟨_,h2,Nat.le_refl _,ad,rfl,fun _=>?_⟩
      simp only[hρs _ _ hg]
      exact hc
     ·simp only at h3
      obtain⟨rfl,rfl⟩:=h3
      refine⟨_,h2,Nat.le_refl _,ad,rfl,fun _=>?_⟩
      simp only[hρs _ _ hg]
      exact hc
    ·cases h
   ·cases h
  ·cases h
theorem Cz2(hh:Abx F ρ hp W)(hF:∀b o,F b=some o→F' b=some o)(hl:∀id,id∈S.fz→∀k,k∈(ρ id).bs→F' k=W.heap[k]?)(hN:Cio hp hp' S.src)(hρn:∀id,Afo S.src id=some none→ρ' id=⟨[],0⟩)(hρs:∀id old,Afo S.src id=some (some old)→ρ' id=ρ old){p:Aou}{c:Aby}{σ σ':DSt}{v:p.den}{r:Value}(h:Cll hp p c σ=some (v,σ'))(hs:Aop hp σ)(hle:Le σ' S)(hr:Abm F ρ hp c r):Abm F' ρ' hp' (B0a p v) r:=by
 unfold Cll at h
 split at h
 ·split at h
  ·rename_i x y l hf
   split at h
   ·rename_i w hg
    cases h
    have:=Apg.frz_ok hh (fun _ _ h=>h) hf hr F' hF (fun id hid=>hl id (hle.fz id (by simp[hid])))
    exact Apg.get_ok hg this
   ·cases h
  ·cases h
 ·split at h
  ·rename_i hp'
   cases h
   obtain⟨_,_,hg⟩:=Ah0 hp' hs
   have hg:=hle.src _ _ hg
   obtain⟨E,t,hb⟩:=hN.1 _ hg
   simp only[Abm,RA]at hr
   simp only[B0a,Abm,RA]
   refine⟨_,hb,Nat.le_refl _,none,0,0,hr,fun _=>?_⟩
   simp[hρn _ hg]
  ·cases h
 ·split at h
  ·rename_i hp'
   cases h
   obtain⟨_,_,hg⟩:=Ah0 hp' hs
   have hg:=hle.src _ _ hg
   obtain⟨E,t,hb⟩:=hN.1 _ hg
   simp only[Abm,RA]at hr
   obtain⟨A,hr⟩:=hr
   simp only[B0a,Abm,RA]
   refine⟨_,hb,Nat.le_refl _,A,0,0,hr,fun _=>?_⟩
   simp[hρn _ hg]
  ·cases h
 ·split at h
  ·rename_i b hb
   split at h
   ·rename_i hv hp'
    cases h
    have hv:=Aa8 hv
    subst hv
    obtain⟨_,_,hg⟩:=Ah0 hp' hs
    have hg:=hle.src _ _ hg
    obtain⟨b0,b',h1,h2,h3⟩:=hN.2 _ _ hg
    rw[hb]at h1;cases h1
    simp only[Abm,RA]at hr
    obtain⟨b1,e1,_,A,l,c,rfl,hc⟩:=hr
    rw[hb]at e1;cases e1
    replace hc:=hc rfl
    cases b<;>simp only at hc
    simp only at h3
    obtain⟨rfl,rfl⟩:=h3
    simp only[B0a,Abm,RA]
    refine⟨_,h2,Nat.le_refl _,A,l,c,rfl,fun _=>?_⟩
    simp only[hρs _ _ hg]
    exact hc
   ·cases h
  ·cases h
 ·split at h
  ·rename_i hi hf hp' hb
   split at h
   ·rename_i hbv
    cases h
    have hi:=Aa8 hi;have hf:=Aa8 hf;have hbv:=Aa8 hbv
    subst hi;subst hf
    obtain⟨_,_,hg⟩:=Ah0 hp' hs
    have hg:=hle.src _ _ hg
    obtain⟨b0,b',h1,h2,h3⟩:=hN.2 _ _ hg
    rw[hb]at h1;cases h1
    simp only[Abm,RA]at hr
    obtain⟨b1,e1,_,ad,rfl,hc⟩:=hr
    rw[hb]at e1;cases e1
    replace hc:=hc hbv
    simp only[B0a,Abm,RA]
    rename_i bq _ hbq _ _ _ _
    clear hb hbv hbq
    cases bq<;>simp only at hc
    ·cases b'<;>simp only at h3
     refine⟨_,h2,Nat.le_refl _,ad,rfl,fun _=>?_⟩
     simp only[hρs _ _ hg]
     exact hc
    ·simp only at h3
     obtain⟨rfl,rfl⟩:=h3
     refine⟨_,h2,Nat.le_refl _,ad,rfl,fun _=>?_⟩
     simp only[hρs _ _ hg]
     exact hc
   ·cases h
  ·cases h
 ·split at h
  ·rename_i hp'
   cases h
   obtain⟨_,_,hg⟩:=Ah0 hp' hs
   have hg:=hle.src _ _ hg
   obtain⟨b0,b',h1,h2,h3⟩:=hN.2 _ _ hg
   simp only[Abm,RA]at hr
   obtain⟨b1,bb,e1,him,e2,rfl⟩:=hr
   rw[e1]at h1;cases h1
   refine⟨b',bb,h2,?_,by rw[hρs _ _ hg];exact e2,rfl⟩
   cases b0 with
   |cells=>cases him
   |row=>cases him
   |amap=>rw[h3];rfl
   |fmap=>cases b' with
    |fmap=>rfl
    | _=>exact h3.elim
   |pool=>cases him
   |pmap=>obtain⟨q,rfl,_⟩:=h3;rfl
  ·cases h
 ·split at h
  ·rename_i T0 cs0 hb
   split at h
   ·rename_i hn' hp'
    cases h
    have hn':=Aa8 hn'
    subst hn'
    obtain⟨_,_,hg⟩:=Ah0 hp' hs
    have hg:=hle.src _ _ hg
    obtain⟨b0,b',h1,h2,h3⟩:=hN.2 _ _ hg
    simp only[Abm,RA]at hr
    obtain⟨b1,e1,A,l,c,rfl,hc⟩:=hr
    rw[hb]at h1 e1;cases h1;cases e1
    simp only[B0a,Abm,RA]
    refine⟨b',h2,A,l,c,rfl,?_⟩
    cases b' with
    |cells=>
     simp only[hρs _ _ hg]
     exact hc
    | _=>trivial
   ·cases h
  ·cases h
 ·split at h
  ·rename_i hf hp'
   cases h
   have hf:=Aa8 hf;subst hf
   obtain⟨_,_,hg⟩:=Ah0 hp' hs
   have hg:=hle.src _ _ hg
   obtain⟨b0,b',h1,h2,h3⟩:=hN.2 _ _ hg
   obtain⟨T,t,xs,e1,bb,e2,rfl⟩:=hr
   rw[e1]at h1;cases h1
   simp only at h3;subst h3
   exact⟨T,t,xs,h2,bb,by rw[hρs _ _ hg];exact e2,rfl⟩
  ·cases h
 ·cases h
  exact⟨fun h=>(by cases h),hr⟩
 ·split at h
  ·rename_i hp'
   cases h
   obtain⟨_,_,hg⟩:=Ah0 hp' hs
   have hg:=hle.src _ _ hg
   obtain⟨b0,b',h1,h2,h3⟩:=hN.2 _ _ hg
   obtain⟨e0,e1⟩:=hr
   refine⟨fun ho=>?_,by rw[hρs _ _ hg];exact e1⟩
   obtain⟨T,t,xs,e2⟩:=e0 ho
   rw[e2]at h1;cases h1
   simp only at h3;subst h3
   exact⟨T,t,xs,h2⟩
  ·cases h
 ·split at h
  ·rename_i hf hp'
   cases h
   have hf:=Aa8 hf;subst hf
   obtain⟨_,_,hg⟩:=Ah0 hp' hs
   have hg:=hle.src _ _ hg
   obtain⟨b0,b',h1,h2,h3⟩:=hN.2 _ _ hg
   obtain⟨T,t,xs,e1,bb,e2,rfl⟩:=hr
   rw[e1]at h1;cases h1
   simp only at h3;subst h3
   exact⟨fun _=>⟨T,t,xs,h2⟩,bb,by rw[hρs _ _ hg];exact e2,rfl⟩
  ·cases h
 all_goals first
  |(cases h;exact hr)
  |(
   split at h
   ·rename_i e
    cases h
    have e:=Aa8 e
    subst e
    obtain⟨cs,rfl,h2⟩:=hr
    have:=h2.nil_left
    exact⟨cs,rfl,by rw[this];trivial⟩
   ·cases h)
  |(cases h;exact trivial)
  |(
   split at h
   ·rename_i e hp'
    cases h
    have e:=Aa8 e
    subst e
    obtain⟨cs,rfl,h2⟩:=hr
    exact⟨cs,rfl,Cz1 hh hN hρs hp' hs hle h2⟩
   ·cases h)
  |cases h
theorem B0h(hh:Abx F ρ hp W)(hF:∀b o,F b=some o→F' b=some o)(hl:∀id,id∈S.fz→∀k,k∈(ρ id).bs→F' k=W.heap[k]?)(hN:Cio hp hp' S.src)(hρn:∀id,Afo S.src id=some none→ρ' id=⟨[],0⟩)(hρs:∀id old,Afo S.src id=some (some old)→ρ' id=ρ old) :
  ∀{ps:List Aou} {cs:List Aby} {σ σ':DSt} {v:Bio ps} {rs:List Value},Bip hp ps cs σ=some (v,σ')→Aop hp σ→Le σ' S→Abs (Abm F ρ hp) cs rs→Abs (Abm F' ρ' hp') (Bt3 ps v) rs
 |[],[],_,_,_,rs,_,_,_,hr=>by have:=hr.nil_left;subst this;trivial
 |[],_::_,_,_,_,_,h,_,_,_=>by cases h
 | _::_,[],_,_,_,_,h,_,_,_=>by cases h
 |p::r,c::cs,σ,σ',v,rs,h,hs,hle,hr=>by
  simp only[Bip]at h
  split at h
  ·rename_i h1
   split at h
   ·rename_i h2
    cases h
    obtain⟨b,rs',rfl,hr1,hr2⟩:=hr.cons_left
    obtain⟨a,_⟩:=Clv h1 hs
    obtain⟨_,d⟩:=Bpx h2 a
    exact⟨Cz2 hh hF hl hN hρn hρs h1 hs (d.trans hle) hr1,B0h hh hF hl hN hρn hρs h2 a hle hr2⟩
   ·cases h
  ·cases h
theorem C91(hh:Abx F ρ hp W)(hF:∀b o,F b=some o→F' b=some o)(hl:∀id,id∈S.fz→∀k,k∈(ρ id).bs→F' k=W.heap[k]?)(hN:Cio hp hp' S.src)(hρn:∀id,Afo S.src id=some none→ρ' id=⟨[],0⟩)(hρs:∀id old,Afo S.src id=some (some old)→ρ' id=ρ old){p:Acy}{x:AV}{σ σ':DSt}{v:p.den}{r:Value}(h:Clm hp p x σ=some (v,σ'))(hs:Aop hp σ)(hle:Le σ' S)(hr:RV F ρ hp x r):RV F' ρ' hp' (C0v p v) r:=by
 unfold Clm at h
 split at h
 ·exact Cz2 hh hF hl hN hρn hρs h hs hle hr
 ·obtain⟨rs,rfl,h2⟩:=hr
  exact⟨rs,rfl,B0h hh hF hl hN hρn hρs h hs hle h2⟩
 ·cases h
end
theorem Ctx{F:Fz}{ρ:Rho}{hp:Aam}{k:IntKind}:∀{m:List (Int×Aby)} {es:List MapEntry},Abs (Ca8 F ρ hp k) m es→Abs (Abm F ρ hp) (C0w m) (es.map (·.val))
 |[],es,h=>by have:=h.nil_left;subst this;trivial
 |p::m,es,h=>by
  obtain⟨e,es,rfl,⟨h1,h2⟩,h3⟩:=h.cons_left
  exact⟨h2,Ctx h3⟩
theorem Cz3{F F':Fz}{ρ ρ':Rho}{hp hp':Aam}{k:IntKind}:∀{m:List (Int×Aby)} {es:List MapEntry} {ks:List Int} {cs:List Aby},Csg m ks=true→Abs (Ca8 F ρ hp k) m es→Abs (Abm F' ρ' hp') cs (es.map (·.val))→
  Abs (Ca8 F' ρ' hp' k) (C6t ks cs) es
 |[],es,ks,cs,hk,h,hc=>by
  have:=h.nil_left;subst this
  cases ks with
  |nil=>trivial
  |cons=>cases hk
 |p::m,es,ks,cs,hk,h,hc=>by
  obtain⟨e,es,rfl,⟨h1,h2⟩,h3⟩:=h.cons_left
  cases ks with
  |nil=>cases hk
  |cons q ks=>
   simp only[Csg]at hk
   split at hk
   ·rename_i hd
    simp only[decide_eq_true_eq]at hd
    cases cs with
    |nil=>exact hc.elim
    |cons c cs=>exact⟨⟨by rw[←hd];exact h1,hc.1⟩,Cz3 hk h3 hc.2⟩
   ·cases hk
theorem C92{n:Nat}{g:List Bool}{p:Aac}{st:ASt}{x:p.den}(h:C61 p st=some x){F:Fz}{ρ:Rho}{a:Act}{W:World}(hi:Ax5 n F ρ st a W) :
  Alh n g F ρ st.hp a W (Aaf p x) a W:=by
 unfold C61 at h
 split at h
 case h_2=>cases h
 rename_i x' hdec
 split at h
 case h_2=>cases h
 rename_i himp
 cases h
 unfold Dca at hdec
 split at hdec
 case h_2=>cases hdec
 rename_i xe σ1 h1
 split at hdec
 case h_2=>cases hdec
 rename_i xh σ2 h2
 split at hdec
 case h_2=>cases hdec
 rename_i hn
 cases hdec
 have himps:∀(l:List (Nat×Ae7)) i o,Afo (Bpe l) i=some o→o=some i:=by
  intro l
  induction l with
  |nil=>intro i o h;cases h
  |cons q r ih=>
   obtain⟨id,b⟩:=q
   intro i o h
   simp only[Bpe]at h
   split at h
   ·exact ih i o h
   ·rw[Aqg]at h
    split at h
    ·rename_i e;cases h;rw[e]
    ·exact ih i o h
 have s0:Aop st.hp ⟨Bpe p.hp,[]⟩:=⟨fun i j o h k=>(by have a:=himps _ _ _ h;have b:=himps _ _ _ k;cases a;cases b;rfl),fun i o _ h=>himps _ _ _ h,fun z hz=>(by simp at hz)⟩
 obtain⟨d1,l1,e1⟩:=Cpo h1 s0
 obtain⟨d2,l2,e2,e3⟩:=Ctw h2 d1
 simp only[Czs,Bool.and_eq_true,List.all_eq_true]at hn
 obtain⟨⟨n1,n2⟩,n3⟩:=hn
 have hh:=hi.heap
 let hp':Aam:=A91 p.hp xh
 have nm:∀id o,Afo σ2.src id=some o→∃b,hp' id=some b:=fun id o h=>e3 id (Ahf.1 (n1 _ (Bn4 h)))
 obtain⟨hN,hN'⟩:=C62 e2 nm
 have notfz:∀id old,Afo σ2.src id=some (some old)→old∉σ2.fz:=by
  intro id old h hm
  have:=n2 _ (Bn4 h)
  simp only[Ahf.2 hm,Bool.not_true,Bool.false_eq_true]at this
 let ρ':Rho:=fun id=>match Afo σ2.src id with|some (some old)=>ρ old | _=>⟨[],0⟩
 have hρs:∀id old,Afo σ2.src id=some (some old)→ρ' id=ρ old:=fun id old h=>by simp only[ρ',h]
 have hρn:∀id,Afo σ2.src id=some none→ρ' id=⟨[],0⟩:=fun id h=>by simp only[ρ',h]
 have hF:∀b o,F b=some o→(if ∃id,id∈σ2.fz∧b∈(ρ id).bs then W.heap[b]? else F b)=some o:=by
  intro b o h
  split
  ·exact hh.fz b o h
  ·exact h
 let F':Fz:=⟨fun k=>if ∃id,id∈σ2.fz∧k∈(ρ id).bs then W.heap[k]? else F k,F.2.up hF⟩
 have hl:∀id,id∈σ2.fz→∀k,k∈(ρ id).bs→F' k=W.heap[k]?:=fun id hid k hk=>if_pos ⟨id,hid,hk⟩
 have back:∀{id b k},hp' id=some b→k∈(ρ' id).bs→∃old b0,Afo σ2.src id=some (some old)∧st.hp old=some b0∧b0.fz=false∧k∈(ρ old).bs:=by
  intro id b k hb hk
  obtain⟨o,h1,h2⟩:=hN' id b hb
  rcases h2 with ⟨rfl,_⟩|⟨old,rfl⟩
  ·rw[hρn id h1]at hk;simp at hk
  ·rw[hρs id old h1]at hk
   obtain⟨b0,b',k1,k2,k3⟩:=hN.2 id old h1
   refine⟨old,b0,h1,k1,?_,hk⟩
   cases b0 with
   |cells=>rfl
   |amap=>rfl
   |fmap=>rfl
   |pool=>rfl
   |pmap=>rfl
   |row E t v fz xs=>exact k3.1
 refine⟨rfl,F',ρ',⟨hi.size,fun s=>?_,⟨?_,?_,?_,?_⟩⟩,⟨rfl,rfl,rfl,Nat.le_refl _,fun _ _ _=>rfl,?_,hF,?_,?_,?_⟩⟩
 ·show RV F' ρ' hp' (Bcs p.env xe s) _
  rcases e1 s with e|⟨q,v,σa,σb,k1,k2,k3,k4⟩
  ·rw[e];exact RV.undef
  ·rw[k4]
   exact C91 hh hF hl hN hρn hρs k1 k2 (k3.trans l2) (hi.env s)
 ·intro id b hb
  obtain⟨q,v,σa,σb,k1,k2,k3,rfl⟩:=e2 id b hb
  have hle:=(Clw k1 k2).2.trans k3
  have k1':=k1
  unfold Cff at k1
  split at k1
  ·split at k1
   ·rename_i old hg
    split at k1
    ·rename_i T' xs ho
     split at k1
     ·rename_i e
      have e:=Aa8 e;subst e
      obtain⟨bb,rs,fr,j1,j2,j3,j4⟩:=hh.blocks _ _ ho
      exact⟨bb,rs,fr,by rw[hρs _ _ (hle.src _ _ hg)];exact j1,j2,j3,B0h hh hF hl hN hρn hρs k1 k2 k3 j4⟩
     ·cases k1
    ·cases k1
   ·cases k1
  ·split at k1
   ·rename_i hg
    cases k1
    exact .inl ⟨by rw[hρn _ (hle.src _ _ hg)],rfl,by rw[hρn _ (hle.src _ _ hg)]⟩
   ·rename_i old hg
    split at k1
    ·rename_i E' t' ver xs ho
     split at k1
     ·split at k1
      ·rename_i e _ et
       have e:=Aa8 e;subst e
       subst et
       cases k1
       have er:=hρs _ _ (hle.src _ _ hg)
       rcases hh.blocks _ _ ho with ⟨j1,j2,j3⟩|⟨bb,rs,fr,j1,j2,j3,j4,j5,j6,j7⟩
       ·exact .inl ⟨by rw[er];exact j1,j2,by rw[er];exact j3⟩
       ·exact .inr ⟨bb,rs,fr,by rw[er];exact j1,j2,j3,by rw[er];exact j4,by rw[er];exact j5,fun i hi=>(j6 i hi).mono hF,fun h=>by cases h⟩
      ·cases k1
     ·cases k1
    ·cases k1
   ·cases k1
  ·split at k1
   ·rename_i old hg
    split at k1
    ·rename_i T' kt' et' m ho
     split at k1
     ·split at k1
      ·split at k1
       ·rename_i e ek ee
        have e:=Aa8 e;subst e
        subst ek;subst ee
        cases k1
        obtain⟨bb,es,clk,j1,j2,j3⟩:=hh.blocks _ _ ho
        exact⟨bb,es,clk,by rw[hρs _ _ (hle.src _ _ hg)];exact j1,j2,j3.mono fun _ _ ⟨p,q⟩=>⟨p.mono hF,q.mono hF⟩⟩
       ·cases k1
      ·cases k1
     ·cases k1
    ·cases k1
   ·cases k1
  ·split at k1
   ·rename_i old hg
    split at k1
    ·rename_i T' k' m ho
     split at k1
     ·rename_i e ek
      simp only[Bool.and_eq_true,decide_eq_true_eq]at e ek
      obtain⟨e,e'⟩:=e
      have e:=Aa8 e;subst e;subst e'
      obtain⟨bb,es,clk,j1,j2,j3⟩:=hh.blocks _ _ ho
      have hv:=B0h hh hF hl hN hρn hρs k1 k2 k3 (Ctx j3)
      exact⟨bb,es,clk,by rw[hρs _ _ (hle.src _ _ hg)];exact j1,j2,Cz3 ek.1 j3 hv⟩
     ·cases k1
    ·cases k1
   ·cases k1
  ·split at k1
   ·rename_i old hg
    split at k1
    ·rename_i T' t' xs ho
     split at k1
     ·rename_i e
      split at k1
      ·rename_i et
       have e:=Aa8 e;subst e
       subst et
       cases k1
       have er:=hρs _ _ (hle.src _ _ hg)
       obtain⟨j1,j2,j3⟩:=hh.blocks _ _ ho
       refine⟨by rw[er];exact j1,by rw[er];exact j2,fun k x hx=>?_⟩
       obtain⟨bb,rs,fr,v,g1,g2,g3,g4,g5⟩:=j3 k x hx
       exact⟨bb,rs,fr,v,by rw[er];exact g1,g2,g3,g4.mono hF,by rw[er];exact g5⟩
      ·cases k1
     ·cases k1
    ·cases k1
   ·cases k1
  ·split at k1
   ·rename_i old hg
    split at k1
    ·rename_i T' k' p m ho
     split at k1
     ·rename_i s e hp'
      simp only[Bool.and_eq_true,decide_eq_true_eq]at e
      obtain⟨e,e',_⟩:=e
      have e:=Aa8 e;subst e;subst e'
      cases k1
      obtain⟨⟨Tp,tp,xp,hpp⟩,bb,es,clk,j1,j2,j3⟩:=hh.blocks _ _ ho
      obtain⟨_,_,hg2⟩:=Ah0 hp' k2
      have hg2:=(k3.trans (Le.refl _)).src _ _ hg2
      obtain⟨b0,b',h1,h2,h3⟩:=hN.2 _ _ hg2
      rw[hpp]at h1;cases h1
      simp only at h3;subst h3
      refine⟨⟨Tp,tp,xp,h2⟩,bb,es,clk,by rw[hρs _ _ (hle.src _ _ hg)];exact j1,j2,by rw[hρs _ _ hg2];exact j3⟩
     ·cases k1
    ·cases k1
   ·cases k1
 ·intro i j x y k hx hy hki hkj
  obtain⟨oi,bi,a1,a2,a3,a4⟩:=back hx hki
  obtain⟨oj,bj,b1,b2,b3,b4⟩:=back hy hkj
  have:=hh.inj oi oj bi bj k a2 b2 a4 b4
  subst this
  exact d2.inj i j oi a1 b1
 ·intro b o h
  simp only[F']at h
  split at h
  ·exact h
  ·exact hh.fz b o h
 ·rintro k ⟨id,b,hb,_,hk⟩
  obtain⟨old,b0,a1,a2,a3,a4⟩:=back hb hk
  simp only[F']
  rw[if_neg]
  ·exact hh.apart k ⟨old,b0,a2,a3,a4⟩
  ·rintro⟨z,hz,hkz⟩
   obtain⟨E,t,ver,fz,xs,hrow⟩:=d2.rows z hz
   have:=hh.inj old z b0 _ k a2 hrow a4 hkz
   subst this
   exact notfz _ _ a1 hz
 ·rintro k ⟨id,b,hb,_,hk⟩
  obtain⟨old,b0,a1,a2,a3,a4⟩:=back hb hk
  exact .inl ⟨old,b0,a2,a3,a4⟩
 ·intro k hk
  simp only[F']at hk
  split at hk
  ·rename_i hz
   obtain⟨z,hz,hkz⟩:=hz
   obtain⟨E,t,ver,fz,xs,hrow⟩:=d2.rows z hz
   cases fz with
   |false=>exact .inr (.inl ⟨z,_,hrow,rfl,hkz⟩)
   |true=>
    left
    rcases hh.blocks z _ hrow with ⟨j1,_⟩|⟨bb,rs,fr,j1,j2,_,_,_,_,j7⟩
    ·rw[j1]at hkz;simp at hkz
    ·rw[j1]at hkz;simp at hkz;subst hkz
     rw[j7 rfl];simp
  ·exact .inl hk
 ·intro id hlt blk hblk
  have hm:id∈p.hp.map (·.1):=by
   have:=List.all_eq_true.1 himp id (List.mem_range.2 hlt)
   rw[hblk]at this
   exact Ahf.1 this
  obtain⟨b,hb⟩:=e3 id hm
  obtain⟨o,h1,h2⟩:=hN' id b hb
  have:=d2.low id o hlt h1
  subst this
  obtain⟨b0,b',k1,k2,k3⟩:=hN.2 id id h1
  rw[hblk]at k1;cases k1
  refine⟨b',k2,?_⟩
  rw[hρs id id h1]
  cases blk with
  |cells T cs=>
   cases b' with
   |cells T' cs'=>exact⟨k3.1,k3.2,rfl⟩
   | _=>exact k3.elim
  |row E t v fz xs=>
   obtain⟨rfl,rfl⟩:=k3
   exact⟨rfl,rfl,rfl,fun _=>⟨rfl,rfl⟩⟩
  |amap T kt et m=>
   have:b' = .amap T kt et m:=k3
   subst this
   exact⟨rfl,rfl,rfl,rfl⟩
  |fmap T k m=>
   cases b' with
   |fmap T' k' m'=>exact⟨k3.1,k3.2,rfl⟩
   | _=>exact k3.elim
  |pool T t xs=>
   have:b' = .pool T t xs:=k3
   subst this
   exact⟨rfl,rfl,fun _ _ h=>h⟩
  |pmap T k q m=>
   obtain⟨q',rfl,_,hq⟩:=k3
   exact⟨rfl,rfl,hq hlt,rfl⟩
 ·intro _ id hlt blk hblk
  have hm:id∈p.hp.map (·.1):=by
   have:=List.all_eq_true.1 himp id (List.mem_range.2 hlt)
   rw[hblk]at this
   exact Ahf.1 this
  obtain⟨b,hb⟩:=e3 id hm
  obtain⟨o,h1,h2⟩:=hN' id b hb
  have:=d2.low id o hlt h1
  subst this
  exact⟨hρs id id h1,fun _ _=>rfl⟩
def Bpy(E:TypeId)(t:Ty)(f:Awd):Aau→Awd
 | .cells T cs=>match Csm E t T cs with
  |some xs=>⟨f.bs,xs.length⟩
  |none=>f
 | _=>f
theorem C06(E:TypeId)(t:Ty)(f:Awd)(b:Aau):(Cim E t b=b∧Bpy E t f b=f)∨
  ∃T cs xs n,b = .cells T cs∧Bim t n cs=some xs∧2≤n∧Cim E t b = .row T t 0 false xs∧Bpy E t f b=⟨f.bs,xs.length⟩:=by
 cases b with
 |row=>exact .inl ⟨rfl,rfl⟩
 |amap=>exact .inl ⟨rfl,rfl⟩
 |fmap=>exact .inl ⟨rfl,rfl⟩
 |pool=>exact .inl ⟨rfl,rfl⟩
 |pmap=>exact .inl ⟨rfl,rfl⟩
 |cells T cs=>
  simp only[Cim,Bpy]
  cases h:Csm E t T cs with
  |none=>exact .inl ⟨rfl,rfl⟩
  |some xs=>
   right
   unfold Csm at h
   split at h
   ·rename_i hc
    simp only[Bool.and_eq_true]at hc
    exact⟨T,cs,xs,_,rfl,h,Nat.le_of_ble_eq_true hc.2,rfl,rfl⟩
   ·cases h
theorem C93{n:Nat}{g:List Bool}{E:TypeId}{t:Ty}{st:ASt}{F:Fz}{ρ:Rho}{a:Act}{W:World}(hi:Ax5 n F ρ st a W) :
  Alh n g F ρ st.hp a W ⟨st.env,A9d E t st.hp⟩ a W:=by
 let ρ':Rho:=fun i=>match Nat.ble 32 i,st.hp i with
  |true,some b=>Bpy E t (ρ i) b
  | _,_=>ρ i
 have hh:=hi.heap
 have key:∀i b,st.hp i=some b→∃b',A9d E t st.hp i=some b'∧((b'=b∧ρ' i=ρ i)∨(32≤i∧∃T cs xs n,b = .cells T cs∧Bim t n cs=some xs∧2≤n∧b' = .row T t 0 false xs∧ρ' i=⟨(ρ i).bs,xs.length⟩)):=by
  intro i b hb
  cases hlt:Nat.ble 32 i with
  |false=>exact⟨b,by simp only[A9d,hlt];exact hb,.inl ⟨rfl,by simp only[ρ',hlt]⟩⟩
  |true=>
   refine⟨Cim E t b,by simp only[A9d,hlt,hb],?_⟩
   have hr:ρ' i=Bpy E t (ρ i) b:=by simp only[ρ',hlt,hb]
   rw[hr]
   rcases C06 E t (ρ i) b with ⟨h1,h2⟩|⟨T,cs,xs,n,h1,h2,h3,h4,h5⟩
   ·exact .inl ⟨h1,h2⟩
   ·exact .inr ⟨Nat.le_of_ble_eq_true hlt,T,cs,xs,n,h1,h2,h3,h4,h5⟩
 have back:∀i b',A9d E t st.hp i=some b'→∃b,st.hp i=some b:=by
  intro i b' h
  simp only[A9d]at h
  split at h
  ·split at h
   ·rename_i b hb;exact⟨b,hb⟩
   ·cases h
  ·exact⟨b',h⟩
 have bsame:∀i,(ρ' i).bs=(ρ i).bs:=by
  intro i
  cases hb:st.hp i with
  |none=>
   have:ρ' i=ρ i:=by
    simp only[ρ',hb]
    split
    ·rename_i h;cases h
    ·rfl
   rw[this]
  |some b=>
   obtain⟨b',_,h|⟨_,_,_,_,_,_,_,_,_,h⟩⟩:=key i b hb
   ·rw[h.2]
   ·rw[h]
 have hlen:∀{cs:List Aby} {xs:List t.den} {n:Nat} {rs:List Value},Bim t n cs=some xs→Abs (Abm F ρ st.hp) cs rs→xs.length=n:=fun h k=>(Bpr h k).1
 have keep:∀i x,st.hp i=some x→∃y,A9d E t st.hp i=some y∧Aml (ρ i) x (ρ' i) y:=by
  intro i x hx
  obtain⟨b',hb',h|⟨_,T,cs,xs,n,rfl,h2,h3,h4,h5⟩⟩:=key i x hx
  ·refine⟨b',hb',?_⟩
   rw[h.1,h.2];exact Aml.refl _ _
  ·refine⟨b',hb',?_⟩
   subst h4
   obtain⟨_,rs,_,_,_,_,h6⟩:=hh.blocks i _ hx
   have:=hlen h2 h6
   exact⟨Nat.le_refl _,fun h=>(by cases h),fun _=>⟨by rw[h5],by omega⟩,trivial⟩
 have fzsame:∀i b b',st.hp i=some b→A9d E t st.hp i=some b'→b'.fz=b.fz:=by
  intro i b b' hb hb'
  obtain⟨b2,h1,h|⟨_,T,cs,xs,n,rfl,_,_,h4,_⟩⟩:=key i b hb
  ·rw[h1]at hb';cases hb';rw[h.1]
  ·rw[h1]at hb';cases hb';rw[h4];rfl
 refine⟨rfl,F,ρ',⟨hi.size,fun s=>RV.mono (fun _ _ h=>h) keep (hi.env s),⟨?_,?_,hh.fz,?_⟩⟩,⟨rfl,rfl,rfl,Nat.le_refl _,fun _ _ _=>rfl,?_,fun _ _ h=>h,fun _ h=>.inl h,?_,?_⟩⟩
 ·intro i b' hb'
  replace hb':A9d E t st.hp i=some b':=hb'
  obtain⟨b,hb⟩:=back i b' hb'
  obtain⟨b2,h1,h|⟨_,T,cs,xs,n,rfl,h2,h3,h4,h5⟩⟩:=key i b hb
  ·rw[h1]at hb';cases hb'
   rw[h.1]
   exact BR.mono (fun _ _ h=>h) keep h.2 (fun _ _=>rfl) (hh.blocks i b hb)
  ·rw[h1]at hb';cases hb'
   subst h4
   obtain⟨bb,rs,fr,j1,j2,j3,j4⟩:=hh.blocks i _ hb
   obtain⟨k1,k2,k3⟩:=Bpr h2 j4
   refine .inr ⟨bb,rs,fr,by rw[h5];exact j1,j2,j3,?_,by rw[h5];exact Nat.le_refl _,fun j hj=>?_,fun h=>by cases h⟩
   ·rw[h5]
    show rs.size=xs.length*t.size
    rw[k1]
    simpa using k2
   ·have:=k3 j (by omega)
    simpa [Afk]using this
 ·intro i j x y k hx hy hki hkj
  obtain⟨bx,hbx⟩:=back i x hx
  obtain⟨by_,hby⟩:=back j y hy
  rw[bsame]at hki hkj
  exact hh.inj i j bx by_ k hbx hby hki hkj
 ·rintro k ⟨i,b',hb',hz,hk⟩
  obtain⟨b,hb⟩:=back i b' hb'
  rw[bsame]at hk
  exact hh.apart k ⟨i,b,hb,by rw[←fzsame i b b' hb hb'];exact hz,hk⟩
 ·rintro k ⟨i,b',hb',hz,hk⟩
  obtain⟨b,hb⟩:=back i b' hb'
  rw[bsame]at hk
  exact .inl ⟨i,b,hb,by rw[←fzsame i b b' hb hb'];exact hz,hk⟩
 ·intro i hlt blk hblk
  obtain⟨b2,h1,h|⟨hge,_⟩⟩:=key i blk hblk
  ·refine⟨b2,h1,?_⟩
   rw[h.1,h.2];exact Evo.refl _ _ _
  ·omega
 ·intro _ i hlt blk hblk
  obtain⟨b2,h1,h|⟨hge,_⟩⟩:=key i blk hblk
  ·exact⟨h.2,fun _ _=>rfl⟩
  ·omega
theorem A4t{n:Nat}{g:List Bool}{a:Act}{W:World}:∀{l:List (Nat×Ae7)} {st:ASt} {F:Fz} {ρ:Rho},Ax5 n F ρ st a W→Alh n g F ρ st.hp a W (Cbb l st) a W
 |[],st,F,ρ,hi=>⟨rfl,F,ρ,hi,Ext.refl _ _ _ _ _⟩
 |(id,.row E t)::r,st,F,ρ,hi=>by
  simp only[Cbb]
  split
  ·obtain⟨h0,F1,ρ1,h1,h2⟩:=C93 (g:=g) (E:=E) (t:=t) hi
   obtain⟨k0,F2,ρ2,k1,k2⟩:=A4t (g:=g) (l:=r) h1
   exact⟨k0.trans h0,F2,ρ2,k1,h2.trans k2⟩
  ·exact A4t hi
 |(id,.cells _ _)::r,st,F,ρ,hi=>A4t (l:=r) hi
 |(id,.amap _ _ _)::r,st,F,ρ,hi=>A4t (l:=r) hi
 |(id,.fmap _ _ _ _)::r,st,F,ρ,hi=>A4t (l:=r) hi
 |(id,.pool _ _)::r,st,F,ρ,hi=>A4t (l:=r) hi
 |(id,.pmap _ _ _)::r,st,F,ρ,hi=>A4t (l:=r) hi
theorem Bxd{n:Nat}{g:List Bool}{p:Aac}{st:ASt}{x:p.den}(h:dec p st=some x){F:Fz}{ρ:Rho}{a:Act}{W:World}(hi:Ax5 n F ρ st a W) :
  Alh n g F ρ st.hp a W (Aaf p x) a W:=by
 obtain⟨h0,F1,ρ1,h1,h2⟩:=A4t (g:=g) (l:=p.hp) hi
 obtain⟨k0,F2,ρ2,k1,k2⟩:=C92 (g:=g) h h1
 exact⟨k0.trans h0,F2,ρ2,k1,h2.trans k2⟩
end
end Go.AX
namespace Go.AX
noncomputable section
abbrev Aa7(p:Aac):=(R:Type)→p.den→(Ex→ASt→Option R)→Option R
def Aab(p:Aac)(G:Aa7 p):Aa6:=fun R st K=>match dec p st with
 |some x=>G R x K
 |none=>none
theorem C4e{P:Program}{n:Nat}{g:List Bool}{c:Code}{p:Aac}{G:Aa7 p}(h:∀R x K r,G R x K=some r→∃e st',K e st'=some r∧Cba P n g c (Aaf p x) e st'):Ab1 P n g c (Aab p G):=by
 intro R st K r hF
 unfold Aab at hF
 split at hF
 case h_2=>cases hF
 rename_i x hx
 obtain⟨e,st',h1,h2⟩:=h R x K r hF
 refine⟨e,st',h1,fun F ρ hp a0 W0 a W hl=>?_⟩
 exact h2 F ρ hp a0 W0 a W (Alh.trans hl fun F1 ρ1 hs=>Bxd hx hs)
theorem Cba.out{P:Program}{n:Nat}{g:List Bool}{c:Code}{st st1:ASt}{e:Ex}{p:Aac}{y:p.den}(h:Cba P n g c st e st1)(hy:dec p st1=some y):Cba P n g c st e (Aaf p y):=by
 intro F ρ hp a0 W0 a W hl
 refine wp_mono (h F ρ hp a0 W0 a W hl) ?_
 rintro x a' W' ⟨rfl,hl'⟩
 ·exact⟨rfl,Alh.trans hl' fun F1 ρ1 hs=>Bxd hy hs⟩
section
variable {P:Program} {tt:TT} {Γ:FuncId→Option Aad} {g:List Bool} {n:Nat} {Λ:Nat→Option Aa6} {dom:Nat→Bool}
end
def C81:(p:Acy)→p.den→V1
 | .one c,v=>.one (B0a c v)
 | .agg cs,v=>.agg (Bt3 cs v)
def Bk8:(ps:List (Nat×Acy))→Bpp ps→List V1
 |[],_=>[]
 |(_,p)::r,v=>C81 p v.1::Bk8 r v.2
def A4u:(ps:List (Nat×Ae7))→Ahn ps→List Aau
 |[],_=>[]
 |(_,p)::r,v=>Clk p v.1::A4u r v.2
def Csn(st:ASt)(vs:List AV):ASt:=⟨Csi vs,st.hp⟩
theorem Ced:∀{ps:List (Nat×Ae7)} {y:Ahn ps},(A4u ps y).length=ps.length
 |[],_=>rfl
 | _::r,y=>by simp[A4u,Ced (ps:=r)]
theorem B6i:∀{ps:List (Nat×Ae7)} {y:Ahn ps} {id i:Nat},A0k id (ps.map (·.1)) 0=some i→A91 ps y id=(A4u ps y)[i]?
 |[],_,_,_,h=>by cases h
 |(t,p)::r,y,id,i,h=>by
  simp only[List.map_cons,A0k]at h
  simp only[A91,A4u]
  split at h
  ·rename_i e;cases h;(try rw[e]);rfl
  ·rename_i e
   (try rw[e])
   have shift:∀(l:List Nat) (a b k:Nat),A0k id l (a+1)=some k→A0k id l a=some (k-1)∧a+1≤k:=by
    intro l
    induction l with
    |nil=>intro a b k h;cases h
    |cons x l ih=>
     intro a b k h
     simp only[A0k]at h ⊢
     split at h
     ·cases h;simp
     ·obtain⟨h1,h2⟩:=ih (a+1) b k h
      exact⟨h1,by omega⟩
   obtain⟨h1,h2⟩:=shift _ 0 0 i h
   have:=B6i (y:=y.2) h1
   (try simp only)
   rw[this]
   have:i=(i-1)+1:=by omega
   rw[this];simp
theorem B0i:∀{ps:List (Nat×Ae7)} {y:Ahn ps} {id:Nat},id∉ps.map (·.1)→A91 ps y id=none
 |[],_,_,_=>rfl
 |(t,p)::r,y,id,h=>by
  simp only[List.map_cons,List.mem_cons,not_or]at h
  simp only[A91,A4p h.1]
  exact B0i h.2
theorem C63{ps:List (Nat×Ae7)}{nb m:Nat}(hn:ps.map (·.1)=List.range nb++(List.range m).map (32 + ·))(hnb:nb≤32)(y:Ahn ps):A91 ps y=Af4 ((A4u ps y).take nb) ((A4u ps y).drop nb):=by
 have nd:(ps.map (·.1)).Nodup:=by
  rw[hn,List.nodup_append]
  refine⟨List.nodup_range,?_,?_⟩
  ·rw[List.nodup_iff_pairwise_ne,List.pairwise_map]
   have:=List.nodup_range (n:=m)
   rw[List.nodup_iff_pairwise_ne]at this
   exact this.imp fun {a b} h e=>h (by omega)
  ·intro a ha b hb
   simp only[List.mem_map,List.mem_range]at ha hb
   obtain⟨c,_,rfl⟩:=hb
   omega
 have hlen:ps.length=nb+m:=by
  have:=congrArg List.length hn
  simpa using this
 have bl:=Ced (ps:=ps) (y:=y)
 funext id
 simp only[Af4]
 cases e:Nat.ble 32 id with
 |false=>
  have hlt:id<32:=by
   rcases Nat.lt_or_ge id 32 with h|h
   ·exact h
   ·rw[Nat.ble_eq_true_of_le h]at e;cases e
  simp only
  by_cases h:id<nb
  ·have:(ps.map (·.1))[id]? = some id:=by
    rw[hn,List.getElem?_append_left (by simpa using h)]
    simp[h]
   rw[B6i (Bb7 (i:=0) nd this)]
   simp[h]
  ·rw[B0i,List.getElem?_eq_none]
   ·simp;omega
   ·rw[hn]
    simp only[List.mem_append,List.mem_range,List.mem_map,not_or,not_exists,not_and]
    exact⟨h,fun x _=>by omega⟩
 |true=>
  have hle:=Nat.le_of_ble_eq_true e
  simp only
  by_cases h:id-32<m
  ·have:(ps.map (·.1))[nb+(id-32)]? = some id:=by
    rw[hn,List.getElem?_append_right (by simp)]
    simp[h];omega
   rw[B6i (Bb7 (i:=0) nd this)]
   simp[List.getElem?_drop]
  ·rw[B0i,List.getElem?_eq_none]
   ·simp;omega
   ·rw[hn]
    simp only[List.mem_append,List.mem_range,List.mem_map,not_or,not_exists,not_and]
    exact⟨by omega,fun x hx=>by omega⟩
theorem C94:∀(p:Acy) (v:p.den),C0v p v = .v (C81 p v)
 | .one _,_=>rfl
 | .agg _,_=>rfl
theorem Cty:∀{ps:List (Nat×Acy)} {y:Bpp ps} {k m:Nat},ps.map (·.1)=(List.range m).map (k + ·)→(∀i,i<m→∃v,(Bk8 ps y)[i]? = some v∧Bcs ps y (k+i) = .v v)∧(Bk8 ps y).length=m
 |[],y,k,m,h=>by
  have:m=0:=by have:=congrArg List.length h;simpa using this.symm
  subst this
  exact⟨fun i hi=>by omega,rfl⟩
 |(t,p)::r,y,k,m,h=>by
  cases m with
  |zero=>simp at h
  |succ m=>
   rw[List.range_succ_eq_map,List.map_cons,List.map_cons]at h
   simp only[List.cons.injEq,Nat.add_zero]at h
   obtain⟨rfl,h2⟩:=h
   have h3:r.map (·.1)=(List.range m).map ((t+1) + ·):=by
    rw[h2,List.map_map]
    apply List.map_congr_left
    intro i _;simp[Function.comp];omega
   obtain⟨i1,i2⟩:=Cty (y:=y.2) h3
   refine⟨fun i hi=>?_,by simp[Bk8,i2]⟩
   cases i with
   |zero=>exact⟨_,rfl,by simp[Bcs,C94]⟩
   |succ i=>
    obtain⟨v,v1,v2⟩:=i1 i (by omega)
    refine⟨v,by simpa [Bk8]using v1,?_⟩
    simp only[Bcs]
    rw[A4p (by omega)]
    rw[show t+(i+1)=t+1+i by omega];exact v2
def Ctz(tmps:Array Value):ResultVar→Sem Value:=fun
  | .tmp t=>pure (tmps.getD t undef)
  | .cell a t=>do loadVar t (←asAddr (tmps.getD a undef))
theorem C07(fn:Func)(tmps:Array Value):results fn tmps=(do
 let vs ←fn.results.mapM (Ctz tmps)
 pure (if h:vs.size=1 then vs[0] else .tuple vs)):=rfl
def C64:List Value→Value
 |[v]=>v
 |l=>.tuple l.toArray
theorem Cx0{P:Program}{tt:TT}(htt:Aj1 P tt){n:Nat}{F:Fz}{ρ:Rho}{st:ASt}{a:Act}{W:World}(hs:Ax5 n F ρ st a W){fn:Func}{vs:List AV}(h:A4o tt st fn.results.toList=some vs) :
  ∃rs:List Value,(results fn a.tmps).run P W = .ok (C64 rs) W∧Abs (RV F ρ st.hp) vs rs:=by
 have key:∀(l:List ResultVar) (vs:List AV),A4o tt st l=some vs→∃rs:List Value,(l.mapM (Ctz a.tmps):Sem (List Value)).run P W=Result.ok rs W∧Abs (RV F ρ st.hp) vs rs:=by
  intro l
  induction l with
  |nil=>intro vs h;cases h;exact⟨[],by simp,trivial⟩
  |cons x l ih=>
   intro vs h
   cases x with
   |tmp t=>
    simp only[A4o]at h
    split at h
    ·rename_i l' hl;cases h
     obtain⟨rs,h1,h2⟩:=ih l' hl
     refine⟨a.tmps.getD t undef::rs,?_,hs.env t,h2⟩
     rw[List.mapM_cons]
     simp only[Sem.run_bind,h1,Result.andThen_ok,Ctz,Sem.run_pure]
    ·cases h
   |cell t T=>
    simp only[A4o]at h
    split at h
    ·rename_i v l' hv hl;cases h
     obtain⟨rs,h1,h2⟩:=ih l' hl
     obtain⟨v',hv',hload⟩:=Ctl htt hv
     cases hv'
     obtain⟨r,hr,hrv⟩:=hload F ρ st.hp W (a.tmps.getD t undef) hs.heap (fun _ _ h=>h) (hs.env t)
     refine⟨r::rs,?_,hrv,h2⟩
     rw[List.mapM_cons]
     have hx:(Ctz a.tmps (.cell t T)).run P W = .ok r W:=by
      simp only[Ctz]
      generalize a.tmps.getD t undef=q at hr
      cases q with
      |pointer p=>
       cases p with
       |some ad=>simpa [Instr.loadAt,Instr.sureAddr,asAddr]using hr
       |none=>simp[Instr.loadAt,Instr.sureAddr]at hr
      | _=>simp[Instr.loadAt,Instr.sureAddr]at hr
     simp only[Sem.run_bind,hx,h1,Result.andThen_ok,Sem.run_pure]
    ·cases h
 obtain⟨rs,h1,h2⟩:=key _ _ h
 refine⟨rs,?_,h2⟩
 rw[C07,←Array.toArray_toList (xs:=fn.results)]
 rw[List.mapM_toArray]
 simp only[Sem.run_bind,Sem.run_map,h1,Result.andThen_ok,Sem.run_pure]
 congr 1
 match rs with
 |[]=>rfl
 |[a]=>rfl
 |a::b::r=>simp[C64]
def C3z.fin(P:Program)(F:Fz)(ρ:Rho)(W:World)(bl:List Aau)(g:List Bool)(v:AV)(bl' nw:List Aau)(r:Value)(W':World):Prop :=
 ∃F' ρ',RV F' ρ' (Af4 bl' nw) v r∧Abx F' ρ' (Af4 bl' nw) W'∧Ext g F ρ (Af4 bl []) W F' ρ' (Af4 bl' nw) W'
end
end Go.AX

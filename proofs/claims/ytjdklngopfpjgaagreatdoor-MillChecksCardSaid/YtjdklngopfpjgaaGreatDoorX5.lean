/- A reading of the model's code over typed data,proved sound: patterns,loops,functions. -/
import Derived.Test.YtjdklngopfpjgaaGreatDoorX4
namespace Go.AX
noncomputable section
def Cta(p:Aac)(hp:Aaj):Bool:=(List.range 32).all fun id=>match hp id with|none=>true|some _=>Am4 id (p.hp.map (·.1))
def Cbv(E:TypeId)(t:Ty)(T:TypeId)(cs:List Abt):Option (List t.den):=match Nat.beq T E&&Nat.ble 2 (cs.length/t.size) with
 |true=>A91 t (cs.length/t.size) cs
 |false=>none
def B0r(E:TypeId)(t:Ty):Aav→Aav
 | .cells T cs=>match Cbv E t T cs with
  |some xs=>.row T t 0 false xs
  |none=>.cells T cs
 |b=>b
def A15(E:TypeId)(t:Ty)(hp:Aaj):Aaj:=fun id=>match Nat.ble 32 id with
 |true=>(match hp id with|some b=>some (B0r E t b)|none=>none)
 |false=>hp id
def Btt:List (Nat×Afp)→ASt→ASt
 |[],st=>st
 |(id,.row E t)::r,st=>match Nat.ble 1000 id with
  |true=>Btt r ⟨st.env,A15 E t st.hp⟩
  |false=>Btt r st
 | _::r,st=>Btt r st
def Cml(p:Aac)(st:ASt):Option p.den:=match Crh p st with
 |some x=>match Cta p st.hp with
  |true=>some x
  |false=>none
 |none=>none
def dec(p:Aac)(st:ASt):Option p.den:=Cml p (Btt p.hp st)
theorem B0s:∀{a b:Option Nat},Be1 a b=true ↔ a=b
 |none,none=>by simp[Be1]
 |some a,some b=>by simp[Be1]
 |none,some _=>by simp[Be1]
 |some _,none=>by simp[Be1]
structure Le(a b:DSt):Prop where
 src:∀id o,Afy a.src id=some o→Afy b.src id=some o
 fz:∀z,z∈a.fz→z∈b.fz
theorem Le.refl(a:DSt):Le a a:=⟨fun _ _ h=>h,fun _ h=>h⟩
theorem Le.trans{a b c:DSt}(h:Le a b)(k:Le b c):Le a c:=⟨fun id o x=>k.src id o (h.src id o x),fun z x=>k.fz z (h.fz z x)⟩
structure Amz(hp:Aaj)(σ:DSt):Prop where
 inj:∀i j o,Afy σ.src i=some (some o)→Afy σ.src j=some (some o)→i=j
 low:∀i o,i<32→Afy σ.src i=some o→o=some i
 rows:Be3 hp σ.fz
theorem Aow{k id:Nat}{o:Option Nat}{r:Src}:Afy ((k,o)::r) id=if id=k then some o else Afy r id:=by
 simp only[Afy]
 by_cases e:id=k
 ·subst e;simp
 ·rw[Ayx e];simp[e]
theorem Bef:∀{s:Src} {id:Nat} {o:Option Nat},Afy s id=some o→(id,o)∈s
 |[],_,_,h=>by cases h
 |(k,o')::r,id,o,h=>by
  rw[Aow]at h
  split at h
  ·rename_i e;cases h;subst e;exact List.mem_cons_self ..
  ·exact List.mem_cons_of_mem _ (Bef h)
theorem Al2{hp:Aaj}{σ:DSt}{id:Nat}{o:Option Nat}{s:Src}(h:A50 σ.src id o=some s)(hs:Amz hp σ):Amz hp ⟨s,σ.fz⟩∧Le σ ⟨s,σ.fz⟩∧Afy s id=some o:=by
 unfold A50 at h
 split at h
 ·rename_i o' ho
  split at h
  ·rename_i e
   cases h
   rw[B0s]at e
   exact⟨⟨hs.inj,hs.low,hs.rows⟩,⟨fun _ _ h=>h,fun _ h=>h⟩,by rw[ho,e]⟩
  ·cases h
 ·rename_i hn
  have le:∀o,Le σ ⟨(id,o)::σ.src,σ.fz⟩:=fun o=>⟨fun i o' hx=>by
   rw[Aow]
   split
   ·rename_i e;subst e;rw[hn]at hx;cases hx
   ·exact hx,fun _ h=>h⟩
  split at h
  ·split at h
   ·rename_i hge
    have hge:=Nat.le_of_ble_eq_true hge
    cases h
    refine⟨⟨fun i j o h1 h2=>?_,fun i o hi h1=>?_,hs.rows⟩,le _,by rw[Aow];simp⟩
    ·simp only[Aow]at h1 h2
     split at h1
     ·cases h1
     ·split at h2
      ·cases h2
      ·exact hs.inj i j o h1 h2
    ·simp only[Aow]at h1
     split at h1
     ·rename_i e;omega
     ·exact hs.low i o hi h1
   ·cases h
  ·rename_i old
   split at h
   ·cases h
   ·rename_i hc
    cases h
    simp only[Bool.or_eq_false_iff]at hc
    obtain⟨⟨hc1,hc2⟩,hc3⟩:=hc
    have no:∀i,Afy σ.src i≠some (some old):=by
     intro i hi
     have:=List.any_eq_false.1 hc1 _ (Bef hi)
     rw[B0s]at this
     exact this rfl
    refine⟨⟨fun i j o h1 h2=>?_,fun i o hi h1=>?_,hs.rows⟩,le _,by rw[Aow];simp⟩
    ·simp only[Aow]at h1 h2
     split at h1
     ·rename_i e1
      cases h1
      split at h2
      ·rename_i e2;rw[e1,e2]
      ·exact absurd h2 (no j)
     ·split at h2
      ·cases h2;exact absurd h1 (no i)
      ·exact hs.inj i j o h1 h2
    ·simp only[Aow]at h1
     split at h1
     ·rename_i e
      cases h1
      subst e
      have:Nat.ble 32 i=false:=by
       cases e:Nat.ble 32 i with
       |false=>rfl
       |true=>have:=Nat.le_of_ble_eq_true e;omega
      rw[this]at hc2
      simp only[Bool.not_false,Bool.true_and,Bool.not_eq_false']at hc2
      rw[Aa9 hc2]
     ·exact hs.low i o hi h1
theorem B4c{hp:Aaj}:∀{ids:List Nat} {cs:List An0} {σ σ':DSt},B33 hp ids cs σ=some σ'→Amz hp σ→Amz hp σ'∧Le σ σ'
 |[],[],σ,σ',h,hs=>by cases h;exact⟨hs,Le.refl _⟩
 |[],_::_,_,_,h,_=>by cases h
 |id::r,c::cs,σ,σ',h,hs=>by
  unfold B33 at h
  split at h
  ·rename_i q _;cases q
  ·rename_i e2 e3
   cases e2;cases e3
   split at h
   ·rename_i hp' _
    split at h
    ·obtain⟨a,b,_⟩:=Al2 hp' hs
     obtain⟨c,d⟩:=B4c h a
     exact⟨c,b.trans d⟩
    ·cases h
   ·cases h
  ·cases h
 | _::_,[],_,_,h,_=>by cases h
theorem B4d{hp:Aaj}{p:Am5}{c:Abt}{σ σ':DSt}{v:p.den}(h:B34 hp p c σ=some (v,σ'))(hs:Amz hp σ):Amz hp σ'∧Le σ σ':=by
 unfold B34 at h
 split at h
 ·split at h
  ·rename_i hf
   split at h
   ·cases h
    refine⟨⟨hs.inj,hs.low,fun z hz=>?_⟩,fun _ _ h=>h,fun z hz=>by simp[hz]⟩
    simp only[List.mem_append]at hz
    rcases hz with hz|hz
    ·exact Bo6 hf z hz
    ·exact hs.rows z hz
   ·cases h
  ·cases h
 ·split at h
  ·rename_i hp';cases h;obtain⟨a,b,_⟩:=Al2 hp' hs;exact⟨a,b⟩
  ·cases h
 ·split at h
  ·rename_i hp';cases h;obtain⟨a,b,_⟩:=Al2 hp' hs;exact⟨a,b⟩
  ·cases h
 ·split at h
  ·split at h
   ·rename_i hp';cases h;obtain⟨a,b,_⟩:=Al2 hp' hs;exact⟨a,b⟩
   ·cases h
  ·cases h
 ·split at h
  ·rename_i hp' _
   split at h
   ·cases h;obtain⟨a,b,_⟩:=Al2 hp' hs;exact⟨a,b⟩
   ·cases h
  ·cases h
 ·split at h
  ·rename_i hp';cases h;obtain⟨a,b,_⟩:=Al2 hp' hs;exact⟨a,b⟩
  ·cases h
 ·split at h
  ·split at h
   ·rename_i hp';cases h;obtain⟨a,b,_⟩:=Al2 hp' hs;exact⟨a,b⟩
   ·cases h
  ·cases h
 all_goals first
  |(cases h;exact⟨hs,Le.refl _⟩)
  |(
   split at h
   ·cases h;exact⟨hs,Le.refl _⟩
   ·cases h)
  |(
   split at h
   ·rename_i hp';cases h;exact B4c hp' hs
   ·cases h)
  |cases h
theorem Be7{hp:Aaj}:∀{ps:List Am5} {cs:List Abt} {σ σ':DSt} {v:A92 ps},A94 hp ps cs σ=some (v,σ')→Amz hp σ→Amz hp σ'∧Le σ σ'
 |[],[],σ,σ',v,h,hs=>by cases h;exact⟨hs,Le.refl _⟩
 |[],_::_,_,_,_,h,_=>by cases h
 | _::_,[],_,_,_,h,_=>by cases h
 |p::r,c::cs,σ,σ',v,h,hs=>by
  simp only[A94]at h
  split at h
  ·rename_i h1
   split at h
   ·rename_i h2
    cases h
    obtain⟨a,b⟩:=B4d h1 hs
    obtain⟨c,d⟩:=Be7 h2 a
    exact⟨c,b.trans d⟩
   ·cases h
  ·cases h
theorem Co9{hp:Aaj}{p:Acj}{x:AV}{σ σ':DSt}{v:p.den}(h:B35 hp p x σ=some (v,σ'))(hs:Amz hp σ):Amz hp σ'∧Le σ σ':=by
 unfold B35 at h
 split at h
 ·exact B4d h hs
 ·exact Be7 h hs
 ·cases h
theorem B4e{hp:Aaj}{id:Nat}{p:Afp}{σ σ':DSt}{v:p.den}(h:Bwo hp id p σ=some (v,σ'))(hs:Amz hp σ):Amz hp σ'∧Le σ σ':=by
 unfold Bwo at h
 split at h
 ·split at h
  ·split at h
   ·split at h
    ·exact Be7 h hs
    ·cases h
   ·cases h
  ·cases h
 ·split at h
  ·cases h;exact⟨hs,Le.refl _⟩
  ·split at h
   ·split at h
    ·split at h
     ·cases h;exact⟨hs,Le.refl _⟩
     ·cases h
    ·cases h
   ·cases h
  ·cases h
 ·split at h
  ·split at h
   ·split at h
    ·split at h
     ·split at h
      ·cases h;exact⟨hs,Le.refl _⟩
      ·cases h
     ·cases h
    ·cases h
   ·cases h
  ·cases h
 ·split at h
  ·split at h
   ·split at h
    ·exact Be7 h hs
    ·cases h
   ·cases h
  ·cases h
theorem B73{env:Env}{hp:Aaj}:∀{ps:List (Nat×Acj)} {σ σ':DSt} {x:Be0 ps},B0e env hp ps σ=some (x,σ')→Amz hp σ→Amz hp σ'∧Le σ σ'∧
  ∀s,A5z ps x s = .at .undef∨∃p v σa σb,B35 hp p (env s) σa=some (v,σb)∧Amz hp σa∧Le σb σ'∧A5z ps x s=Cho p v
 |[],σ,σ',x,h,hs=>by cases h;exact⟨hs,Le.refl _,fun s=>.inl rfl⟩
 |(t,p)::r,σ,σ',x,h,hs=>by
  simp only[B0e]at h
  split at h
  ·rename_i v σ1 h1
   split at h
   ·rename_i w σ2 h2
    cases h
    obtain⟨a,b⟩:=Co9 h1 hs
    obtain⟨c,d,e⟩:=B73 h2 a
    refine⟨c,b.trans d,fun s=>?_⟩
    simp only[A5z]
    by_cases hst:s=t
    ·subst hst
     rw[A8u]
     exact .inr ⟨p,v,σ,σ1,h1,hs,d,rfl⟩
    ·rw[Ayx hst]
     rcases e s with e|⟨p',v',σa,σb,e1,e2,e3,e4⟩
     ·exact .inl e
     ·exact .inr ⟨p',v',σa,σb,e1,e2,e3,e4⟩
   ·cases h
  ·cases h
theorem Ccu{hp:Aaj}:∀{ps:List (Nat×Afp)} {σ σ':DSt} {x:A93 ps},Cbq hp ps σ=some (x,σ')→Amz hp σ→Amz hp σ'∧Le σ σ'∧
  (∀id b,A2g ps x id=some b→∃p v σa σb,Bwo hp id p σa=some (v,σb)∧Amz hp σa∧Le σb σ'∧b=B32 p v)∧∀id,id∈ps.map (·.1)→∃b,A2g ps x id=some b
 |[],σ,σ',x,h,hs=>by cases h;exact⟨hs,Le.refl _,(fun id b hb=>by cases hb),(fun id h=>by simp at h)⟩
 |(t,p)::r,σ,σ',x,h,hs=>by
  simp only[Cbq]at h
  split at h
  ·rename_i v σ1 h1
   split at h
   ·rename_i w σ2 h2
    cases h
    obtain⟨a,b⟩:=B4e h1 hs
    obtain⟨c,d,e,f⟩:=Ccu h2 a
    refine⟨c,b.trans d,fun id bl hbl=>?_,fun id hid=>?_⟩
    ·simp only[A2g]at hbl
     by_cases hst:id=t
     ·subst hst
      rw[A8u]at hbl
      cases hbl
      exact⟨p,v,σ,σ1,h1,hs,d,rfl⟩
     ·rw[Ayx hst]at hbl
      exact e id bl hbl
    ·simp only[A2g]
     by_cases hst:id=t
     ·subst hst;rw[A8u];exact⟨_,rfl⟩
     ·rw[Ayx hst]
      simp only[List.map_cons,List.mem_cons,hst,false_or]at hid
      exact f id hid
   ·cases h
  ·cases h
theorem Brk:∀{ps:List Am5} {v:A92 ps},(Bim ps v).length=ps.length
 |[],_=>rfl
 | _::r,v=>by simp[Bim,Brk (ps:=r)]
theorem Brl{hp:Aaj}:∀{ps:List Am5} {cs:List Abt} {σ σ':DSt} {v:A92 ps},A94 hp ps cs σ=some (v,σ')→cs.length=ps.length
 |[],[],_,_,_,_=>rfl
 |[],_::_,_,_,_,h=>by cases h
 | _::_,[],_,_,_,h=>by cases h
 |p::r,c::cs,σ,σ',v,h=>by
  simp only[A94]at h
  split at h
  ·split at h
   ·rename_i h2;simp[Brl h2]
   ·cases h
  ·cases h
def B0t(hp hp':Aaj)(S:Src):Prop:=(∀id,Afy S id=some none→∃E t,hp' id=some (.row E t 0 false []))∧
 ∀id old,Afy S id=some (some old)→∃b b',hp old=some b∧hp' id=some b'∧match b,b' with
  | .cells T cs,.cells T' cs'=>T=T'∧cs.length=cs'.length
  | .row E t _ fz xs,b'=>fz=false∧b' = .row E t 0 false xs
  | .amap T kt et m,b'=>b' = .amap T kt et m
  | .fmap T k m,.fmap T' k' m'=>T=T'∧k=k'
  | _,_=>False
theorem Cmm{hp hp':Aaj}{σ:DSt}(hb:∀id b,hp' id=some b→∃p v σa σb,Bwo hp id p σa=some (v,σb)∧Amz hp σa∧Le σb σ∧b=B32 p v)(hn:∀id o,Afy σ.src id=some o→∃b,hp' id=some b):B0t hp hp' σ.src∧∀id b,hp' id=some b→∃o,Afy σ.src id=some o∧((o=none∧∃E t,b = .row E t 0 false [])∨∃old,o=some old):=by
 have key:∀id b,hp' id=some b→(Afy σ.src id=some none∧∃E t,b = .row E t 0 false [])∨∃old b0,Afy σ.src id=some (some old)∧hp old=some b0∧match b0,b with
  | .cells T cs,.cells T' cs'=>T=T'∧cs.length=cs'.length
  | .row E t _ fz xs,b'=>fz=false∧b' = .row E t 0 false xs
  | .amap T kt et m,b'=>b' = .amap T kt et m
  | .fmap T k m,.fmap T' k' m'=>T=T'∧k=k'
  | _,_=>False:=by
  intro id b h
  obtain⟨p,v,σa,σb,h1,hsa,h3,rfl⟩:=hb id b h
  have hle:=(B4e h1 hsa).2.trans h3
  unfold Bwo at h1
  split at h1
  ·split at h1
   ·rename_i old hg
    split at h1
    ·rename_i T' xs ho
     split at h1
     ·rename_i e
      have e:=Aa9 e;subst e
      refine .inr ⟨old,_,hle.src _ _ hg,ho,?_⟩
      simp only[B32]
      exact⟨trivial,by rw[Brk,Brl h1]⟩
     ·cases h1
    ·cases h1
   ·cases h1
  ·split at h1
   ·rename_i hg
    cases h1
    exact .inl ⟨hle.src _ _ hg,_,_,rfl⟩
   ·rename_i old hg
    split at h1
    ·rename_i E' t' ver xs ho
     split at h1
     ·rename_i e _
      split at h1
      ·rename_i et
       have e:=Aa9 e;subst e
       subst et
       cases h1
       refine .inr ⟨old,_,hle.src _ _ hg,ho,?_⟩
       exact⟨rfl,rfl⟩
      ·cases h1
     ·cases h1
    ·cases h1
   ·cases h1
  ·split at h1
   ·rename_i old hg
    split at h1
    ·rename_i T' kt' et' m ho
     split at h1
     ·rename_i e
      split at h1
      ·rename_i ek
       split at h1
       ·rename_i ee
        have e:=Aa9 e;subst e
        subst ek;subst ee
        cases h1
        exact .inr ⟨old,_,hle.src _ _ hg,ho,rfl⟩
       ·cases h1
      ·cases h1
     ·cases h1
    ·cases h1
   ·cases h1
  ·split at h1
   ·rename_i old hg
    split at h1
    ·rename_i T' k' m ho
     split at h1
     ·rename_i e _
      simp only[Bool.and_eq_true,decide_eq_true_eq]at e
      refine .inr ⟨old,_,hle.src _ _ hg,ho,?_⟩
      simp only[B32]
      exact⟨(Aa9 e.1).symm,e.2.symm⟩
     ·cases h1
    ·cases h1
   ·cases h1
 refine⟨⟨fun id hid=>?_,fun id old hid=>?_⟩,fun id b h=>?_⟩
 ·obtain⟨b,h⟩:=hn id _ hid
  rcases key id b h with ⟨_,E,t,rfl⟩|⟨old,b0,h1,_⟩
  ·exact⟨E,t,h⟩
  ·rw[hid]at h1;cases h1
 ·obtain⟨b,h⟩:=hn id _ hid
  rcases key id b h with ⟨h1,_⟩|⟨old',b0,h1,h2,h3⟩
  ·rw[hid]at h1;cases h1
  ·rw[hid]at h1;cases h1
   exact⟨b0,b,h2,h,h3⟩
 ·rcases key id b h with ⟨h1,h2⟩|⟨old,b0,h1,_⟩
  ·exact⟨_,h1,.inl ⟨rfl,h2⟩⟩
  ·exact⟨_,h1,.inr ⟨old,rfl⟩⟩
end
end Go.AX
namespace Go.AX
noncomputable section
section
variable {F F':Fz} {ρ ρ':Rho} {hp hp':Aaj} {W:World} {S:DSt}
theorem Cg1(hh:Acf F ρ hp W)(hN:B0t hp hp' S.src)(hρs:∀id old,Afy S.src id=some (some old)→ρ' id=ρ old) :
  ∀{ids:List Nat} {cs:List An0} {σ σ':DSt} {rs:List Value},B33 hp ids cs σ=some σ'→Amz hp σ→Le σ' S→Ab5 (RA F ρ hp) cs rs→
   Ab5 (RA F' ρ' hp') (ids.map fun id=>.ptr id 0 0 0) rs
 |[],[],_,_,rs,_,_,_,hr=>by have:=hr.nil_left;subst this;trivial
 |[],_::_,_,_,_,h,_,_,_=>by cases h
 | _::_,[],_,_,_,h,_,_,_=>by cases h
 |id::ids,c::cs,σ,σ',rs,h,hs,hle,hr=>by
  unfold B33 at h
  split at h
  ·rename_i q _;cases q
  ·rename_i e2 e3
   cases e2;cases e3
   obtain⟨b',rs',rfl,hr,hrs⟩:=hr.cons_left
   split at h
   ·rename_i hv hi hf hp' hb
    split at h
    ·rename_i hbv
     obtain⟨a1,a2,hg⟩:=Al2 hp' hs
     have ih:=Cg1 hh hN hρs h a1 hle hrs
     refine⟨?_,ih⟩
     have hle1:=(B4c h a1).2.trans hle
     have hv:=Aa9 hv;have hi:=Aa9 hi;have hf:=Aa9 hf;have hbv:=Aa9 hbv
     subst hv;subst hi;subst hf
     have hg:=hle1.src _ _ hg
     obtain⟨b0,b',h1,h2,h3⟩:=hN.2 _ _ hg
     simp only[RA]at hr
     obtain⟨b1,e1,_,ad,rfl,hc⟩:=hr
     have q0:b0=b1:=Option.some.inj (h1.symm.trans e1)
     subst q0
     have q1:=Option.some.inj (hb.symm.trans h1)
     rw[q1]at hbv
     replace hc:=hc hbv
     simp only[RA]
     cases b0<;>simp only at hc
     ·cases b'<;>simp only at h3
      refine⟨_,h2,Nat.le_refl _,ad,rfl,fun _=>?_⟩
      simp only[hρs _ _ hg]
      exact hc
     ·simp only at h3
      obtain⟨rfl,rfl⟩:=h3
      refine⟨_,h2,Nat.le_refl _,ad,rfl,fun _=>?_⟩
      simp only[hρs _ _ hg]
      exact hc
    ·cases h
   ·cases h
  ·cases h
theorem Cg2(hh:Acf F ρ hp W)(hF:∀b o,F b=some o→F' b=some o)(hl:∀id,id∈S.fz→∀k,k∈(ρ id).bs→F' k=W.heap[k]?)(hN:B0t hp hp' S.src)(hρn:∀id,Afy S.src id=some none→ρ' id=⟨[],0⟩)(hρs:∀id old,Afy S.src id=some (some old)→ρ' id=ρ old){p:Am5}{c:Abt}{σ σ':DSt}{v:p.den}{r:Value}(h:B34 hp p c σ=some (v,σ'))(hs:Amz hp σ)(hle:Le σ' S)(hr:Abo F ρ hp c r):Abo F' ρ' hp' (Bnw p v) r:=by
 unfold B34 at h
 split at h
 ·split at h
  ·rename_i x y l hf
   split at h
   ·rename_i w hg
    cases h
    have:=An0.frz_ok hh (fun _ _ h=>h) hf hr F' hF (fun id hid=>hl id (hle.fz id (by simp[hid])))
    exact An0.get_ok hg this
   ·cases h
  ·cases h
 ·split at h
  ·rename_i hp'
   cases h
   obtain⟨_,_,hg⟩:=Al2 hp' hs
   have hg:=hle.src _ _ hg
   obtain⟨E,t,hb⟩:=hN.1 _ hg
   simp only[Abo,RA]at hr
   simp only[Bnw,Abo,RA]
   refine⟨_,hb,Nat.le_refl _,none,0,0,hr,fun _=>?_⟩
   simp[hρn _ hg]
  ·cases h
 ·split at h
  ·rename_i hp'
   cases h
   obtain⟨_,_,hg⟩:=Al2 hp' hs
   have hg:=hle.src _ _ hg
   obtain⟨E,t,hb⟩:=hN.1 _ hg
   simp only[Abo,RA]at hr
   obtain⟨A,hr⟩:=hr
   simp only[Bnw,Abo,RA]
   refine⟨_,hb,Nat.le_refl _,A,0,0,hr,fun _=>?_⟩
   simp[hρn _ hg]
  ·cases h
 ·split at h
  ·rename_i b hb
   split at h
   ·rename_i hv hp'
    cases h
    have hv:=Aa9 hv
    subst hv
    obtain⟨_,_,hg⟩:=Al2 hp' hs
    have hg:=hle.src _ _ hg
    obtain⟨b0,b',h1,h2,h3⟩:=hN.2 _ _ hg
    rw[hb]at h1;cases h1
    simp only[Abo,RA]at hr
    obtain⟨b1,e1,_,A,l,c,rfl,hc⟩:=hr
    rw[hb]at e1;cases e1
    replace hc:=hc rfl
    cases b<;>simp only at hc
    simp only at h3
    obtain⟨rfl,rfl⟩:=h3
    simp only[Bnw,Abo,RA]
    refine⟨_,h2,Nat.le_refl _,A,l,c,rfl,fun _=>?_⟩
    simp only[hρs _ _ hg]
    exact hc
   ·cases h
  ·cases h
 ·split at h
  ·rename_i hv hi hf hp' hb
   split at h
   ·rename_i hbv
    cases h
    have hv:=Aa9 hv;have hi:=Aa9 hi;have hf:=Aa9 hf;have hbv:=Aa9 hbv
    subst hv;subst hi;subst hf
    obtain⟨_,_,hg⟩:=Al2 hp' hs
    have hg:=hle.src _ _ hg
    obtain⟨b0,b',h1,h2,h3⟩:=hN.2 _ _ hg
    rw[hb]at h1;cases h1
    simp only[Abo,RA]at hr
    obtain⟨b1,e1,_,ad,rfl,hc⟩:=hr
    rw[hb]at e1;cases e1
    replace hc:=hc hbv
    simp only[Bnw,Abo,RA]
    rename_i bq _ hbq _ _ _ _
    clear hb hbv hbq
    cases bq<;>simp only at hc
    ·cases b'<;>simp only at h3
     refine⟨_,h2,Nat.le_refl _,ad,rfl,fun _=>?_⟩
     simp only[hρs _ _ hg]
     exact hc
    ·simp only at h3
     obtain⟨rfl,rfl⟩:=h3
     refine⟨_,h2,Nat.le_refl _,ad,rfl,fun _=>?_⟩
     simp only[hρs _ _ hg]
     exact hc
   ·cases h
  ·cases h
 ·split at h
  ·rename_i hp'
   cases h
   obtain⟨_,_,hg⟩:=Al2 hp' hs
   have hg:=hle.src _ _ hg
   obtain⟨b0,b',h1,h2,h3⟩:=hN.2 _ _ hg
   simp only[Abo,RA]at hr
   obtain⟨b1,bb,e1,him,e2,rfl⟩:=hr
   rw[e1]at h1;cases h1
   refine⟨b',bb,h2,?_,by rw[hρs _ _ hg];exact e2,rfl⟩
   cases b0 with
   |cells=>cases him
   |row=>cases him
   |amap=>rw[h3];rfl
   |fmap=>cases b' with
    |fmap=>rfl
    | _=>exact h3.elim
  ·cases h
 ·split at h
  ·rename_i T0 cs0 hb
   split at h
   ·rename_i hn' hp'
    cases h
    have hn':=Aa9 hn'
    subst hn'
    obtain⟨_,_,hg⟩:=Al2 hp' hs
    have hg:=hle.src _ _ hg
    obtain⟨b0,b',h1,h2,h3⟩:=hN.2 _ _ hg
    simp only[Abo,RA]at hr
    obtain⟨b1,e1,A,l,c,rfl,hc⟩:=hr
    rw[hb]at h1 e1;cases h1;cases e1
    simp only[Bnw,Abo,RA]
    refine⟨b',h2,A,l,c,rfl,?_⟩
    cases b' with
    |cells=>
     simp only[hρs _ _ hg]
     exact hc
    | _=>trivial
   ·cases h
  ·cases h
 all_goals first
  |(cases h;exact hr)
  |(
   split at h
   ·rename_i e
    cases h
    have e:=Aa9 e
    subst e
    obtain⟨cs,rfl,h2⟩:=hr
    have:=h2.nil_left
    exact⟨cs,rfl,by rw[this];trivial⟩
   ·cases h)
  |(cases h;exact trivial)
  |(
   split at h
   ·rename_i e hp'
    cases h
    have e:=Aa9 e
    subst e
    obtain⟨cs,rfl,h2⟩:=hr
    exact⟨cs,rfl,Cg1 hh hN hρs hp' hs hle h2⟩
   ·cases h)
  |cases h
theorem Bn4(hh:Acf F ρ hp W)(hF:∀b o,F b=some o→F' b=some o)(hl:∀id,id∈S.fz→∀k,k∈(ρ id).bs→F' k=W.heap[k]?)(hN:B0t hp hp' S.src)(hρn:∀id,Afy S.src id=some none→ρ' id=⟨[],0⟩)(hρs:∀id old,Afy S.src id=some (some old)→ρ' id=ρ old) :
  ∀{ps:List Am5} {cs:List Abt} {σ σ':DSt} {v:A92 ps} {rs:List Value},A94 hp ps cs σ=some (v,σ')→Amz hp σ→Le σ' S→Ab5 (Abo F ρ hp) cs rs→Ab5 (Abo F' ρ' hp') (Bim ps v) rs
 |[],[],_,_,_,rs,_,_,_,hr=>by have:=hr.nil_left;subst this;trivial
 |[],_::_,_,_,_,_,h,_,_,_=>by cases h
 | _::_,[],_,_,_,_,h,_,_,_=>by cases h
 |p::r,c::cs,σ,σ',v,rs,h,hs,hle,hr=>by
  simp only[A94]at h
  split at h
  ·rename_i h1
   split at h
   ·rename_i h2
    cases h
    obtain⟨b,rs',rfl,hr1,hr2⟩:=hr.cons_left
    obtain⟨a,_⟩:=B4d h1 hs
    obtain⟨_,d⟩:=Be7 h2 a
    exact⟨Cg2 hh hF hl hN hρn hρs h1 hs (d.trans hle) hr1,Bn4 hh hF hl hN hρn hρs h2 a hle hr2⟩
   ·cases h
  ·cases h
theorem Cpa(hh:Acf F ρ hp W)(hF:∀b o,F b=some o→F' b=some o)(hl:∀id,id∈S.fz→∀k,k∈(ρ id).bs→F' k=W.heap[k]?)(hN:B0t hp hp' S.src)(hρn:∀id,Afy S.src id=some none→ρ' id=⟨[],0⟩)(hρs:∀id old,Afy S.src id=some (some old)→ρ' id=ρ old){p:Acj}{x:AV}{σ σ':DSt}{v:p.den}{r:Value}(h:B35 hp p x σ=some (v,σ'))(hs:Amz hp σ)(hle:Le σ' S)(hr:RV F ρ hp x r):RV F' ρ' hp' (Cho p v) r:=by
 unfold B35 at h
 split at h
 ·exact Cg2 hh hF hl hN hρn hρs h hs hle hr
 ·obtain⟨rs,rfl,h2⟩:=hr
  exact⟨rs,rfl,Bn4 hh hF hl hN hρn hρs h hs hle h2⟩
 ·cases h
end
theorem Ccv{F:Fz}{ρ:Rho}{hp:Aaj}{k:IntKind}:∀{m:List (Int×Abt)} {es:List MapEntry},Ab5 (Btr F ρ hp k) m es→Ab5 (Abo F ρ hp) (Chp m) (es.map (·.val))
 |[],es,h=>by have:=h.nil_left;subst this;trivial
 |p::m,es,h=>by
  obtain⟨e,es,rfl,⟨h1,h2⟩,h3⟩:=h.cons_left
  exact⟨h2,Ccv h3⟩
theorem Cg3{F F':Fz}{ρ ρ':Rho}{hp hp':Aaj}{k:IntKind}:∀{m:List (Int×Abt)} {es:List MapEntry} {ks:List Int} {cs:List Abt},Cbp m ks=true→Ab5 (Btr F ρ hp k) m es→Ab5 (Abo F' ρ' hp') cs (es.map (·.val))→
  Ab5 (Btr F' ρ' hp' k) (Cme ks cs) es
 |[],es,ks,cs,hk,h,hc=>by
  have:=h.nil_left;subst this
  cases ks with
  |nil=>trivial
  |cons=>cases hk
 |p::m,es,ks,cs,hk,h,hc=>by
  obtain⟨e,es,rfl,⟨h1,h2⟩,h3⟩:=h.cons_left
  cases ks with
  |nil=>cases hk
  |cons q ks=>
   simp only[Cbp]at hk
   split at hk
   ·rename_i hd
    simp only[decide_eq_true_eq]at hd
    cases cs with
    |nil=>exact hc.elim
    |cons c cs=>exact⟨⟨by rw[←hd];exact h1,hc.1⟩,Cg3 hk h3 hc.2⟩
   ·cases hk
theorem Cpb{n:Nat}{g:List Bool}{p:Aac}{st:ASt}{x:p.den}(h:Cml p st=some x){F:Fz}{ρ:Rho}{a:Act}{W:World}(hi:Atb n F ρ st a W) :
  Akr n g F ρ st.hp a W (Aab p x) a W:=by
 unfold Cml at h
 split at h
 case h_2=>cases h
 rename_i x' hdec
 split at h
 case h_2=>cases h
 rename_i himp
 cases h
 unfold Crh at hdec
 split at hdec
 case h_2=>cases hdec
 rename_i xe σ1 h1
 split at hdec
 case h_2=>cases hdec
 rename_i xh σ2 h2
 split at hdec
 case h_2=>cases hdec
 rename_i hn
 cases hdec
 have himps:∀(l:List (Nat×Afp)) i o,Afy (Beq l) i=some o→o=some i:=by
  intro l
  induction l with
  |nil=>intro i o h;cases h
  |cons q r ih=>
   obtain⟨id,b⟩:=q
   intro i o h
   simp only[Beq]at h
   split at h
   ·exact ih i o h
   ·rw[Aow]at h
    split at h
    ·rename_i e;cases h;rw[e]
    ·exact ih i o h
 have s0:Amz st.hp ⟨Beq p.hp,[]⟩:=⟨fun i j o h k=>(by have a:=himps _ _ _ h;have b:=himps _ _ _ k;cases a;cases b;rfl),fun i o _ h=>himps _ _ _ h,fun z hz=>(by simp at hz)⟩
 obtain⟨d1,l1,e1⟩:=B73 h1 s0
 obtain⟨d2,l2,e2,e3⟩:=Ccu h2 d1
 simp only[Cgr,Bool.and_eq_true,List.all_eq_true]at hn
 obtain⟨⟨n1,n2⟩,n3⟩:=hn
 have hh:=hi.heap
 let hp':Aaj:=A2g p.hp xh
 have nm:∀id o,Afy σ2.src id=some o→∃b,hp' id=some b:=fun id o h=>e3 id (Ag8.1 (n1 _ (Bef h)))
 obtain⟨hN,hN'⟩:=Cmm e2 nm
 have notfz:∀id old,Afy σ2.src id=some (some old)→old∉σ2.fz:=by
  intro id old h hm
  have:=n2 _ (Bef h)
  simp only[Ag8.2 hm,Bool.not_true,Bool.false_eq_true]at this
 let ρ':Rho:=fun id=>match Afy σ2.src id with|some (some old)=>ρ old | _=>⟨[],0⟩
 have hρs:∀id old,Afy σ2.src id=some (some old)→ρ' id=ρ old:=fun id old h=>by simp only[ρ',h]
 have hρn:∀id,Afy σ2.src id=some none→ρ' id=⟨[],0⟩:=fun id h=>by simp only[ρ',h]
 have hF:∀b o,F b=some o→(if ∃id,id∈σ2.fz∧b∈(ρ id).bs then W.heap[b]? else F b)=some o:=by
  intro b o h
  split
  ·exact hh.fz b o h
  ·exact h
 let F':Fz:=⟨fun k=>if ∃id,id∈σ2.fz∧k∈(ρ id).bs then W.heap[k]? else F k,F.2.up hF⟩
 have hl:∀id,id∈σ2.fz→∀k,k∈(ρ id).bs→F' k=W.heap[k]?:=fun id hid k hk=>if_pos ⟨id,hid,hk⟩
 have back:∀{id b k},hp' id=some b→k∈(ρ' id).bs→∃old b0,Afy σ2.src id=some (some old)∧st.hp old=some b0∧b0.fz=false∧k∈(ρ old).bs:=by
  intro id b k hb hk
  obtain⟨o,h1,h2⟩:=hN' id b hb
  rcases h2 with ⟨rfl,_⟩|⟨old,rfl⟩
  ·rw[hρn id h1]at hk;simp at hk
  ·rw[hρs id old h1]at hk
   obtain⟨b0,b',k1,k2,k3⟩:=hN.2 id old h1
   refine⟨old,b0,h1,k1,?_,hk⟩
   cases b0 with
   |cells=>rfl
   |amap=>rfl
   |fmap=>rfl
   |row E t v fz xs=>exact k3.1
 refine⟨rfl,F',ρ',⟨hi.size,fun s=>?_,⟨?_,?_,?_,?_⟩⟩,⟨rfl,rfl,rfl,Nat.le_refl _,fun _ _ _=>rfl,?_,hF,?_,?_⟩⟩
 ·show RV F' ρ' hp' (A5z p.env xe s) _
  rcases e1 s with e|⟨q,v,σa,σb,k1,k2,k3,k4⟩
  ·rw[e];exact RV.undef
  ·rw[k4]
   exact Cpa hh hF hl hN hρn hρs k1 k2 (k3.trans l2) (hi.env s)
 ·intro id b hb
  obtain⟨q,v,σa,σb,k1,k2,k3,rfl⟩:=e2 id b hb
  have hle:=(B4e k1 k2).2.trans k3
  have k1':=k1
  unfold Bwo at k1
  split at k1
  ·split at k1
   ·rename_i old hg
    split at k1
    ·rename_i T' xs ho
     split at k1
     ·rename_i e
      have e:=Aa9 e;subst e
      obtain⟨bb,rs,fr,j1,j2,j3,j4⟩:=hh.blocks _ _ ho
      exact⟨bb,rs,fr,by rw[hρs _ _ (hle.src _ _ hg)];exact j1,j2,j3,Bn4 hh hF hl hN hρn hρs k1 k2 k3 j4⟩
     ·cases k1
    ·cases k1
   ·cases k1
  ·split at k1
   ·rename_i hg
    cases k1
    exact .inl ⟨by rw[hρn _ (hle.src _ _ hg)],rfl,by rw[hρn _ (hle.src _ _ hg)]⟩
   ·rename_i old hg
    split at k1
    ·rename_i E' t' ver xs ho
     split at k1
     ·split at k1
      ·rename_i e _ et
       have e:=Aa9 e;subst e
       subst et
       cases k1
       have er:=hρs _ _ (hle.src _ _ hg)
       rcases hh.blocks _ _ ho with ⟨j1,j2,j3⟩|⟨bb,rs,fr,j1,j2,j3,j4,j5,j6,j7⟩
       ·exact .inl ⟨by rw[er];exact j1,j2,by rw[er];exact j3⟩
       ·exact .inr ⟨bb,rs,fr,by rw[er];exact j1,j2,j3,by rw[er];exact j4,by rw[er];exact j5,fun i hi=>(j6 i hi).mono hF,fun h=>by cases h⟩
      ·cases k1
     ·cases k1
    ·cases k1
   ·cases k1
  ·split at k1
   ·rename_i old hg
    split at k1
    ·rename_i T' kt' et' m ho
     split at k1
     ·split at k1
      ·split at k1
       ·rename_i e ek ee
        have e:=Aa9 e;subst e
        subst ek;subst ee
        cases k1
        obtain⟨bb,es,clk,j1,j2,j3⟩:=hh.blocks _ _ ho
        exact⟨bb,es,clk,by rw[hρs _ _ (hle.src _ _ hg)];exact j1,j2,j3.mono fun _ _ ⟨p,q⟩=>⟨p.mono hF,q.mono hF⟩⟩
       ·cases k1
      ·cases k1
     ·cases k1
    ·cases k1
   ·cases k1
  ·split at k1
   ·rename_i old hg
    split at k1
    ·rename_i T' k' m ho
     split at k1
     ·rename_i e ek
      simp only[Bool.and_eq_true,decide_eq_true_eq]at e ek
      obtain⟨e,e'⟩:=e
      have e:=Aa9 e;subst e;subst e'
      obtain⟨bb,es,clk,j1,j2,j3⟩:=hh.blocks _ _ ho
      have hv:=Bn4 hh hF hl hN hρn hρs k1 k2 k3 (Ccv j3)
      exact⟨bb,es,clk,by rw[hρs _ _ (hle.src _ _ hg)];exact j1,j2,Cg3 ek.1 j3 hv⟩
     ·cases k1
    ·cases k1
   ·cases k1
 ·intro i j x y k hx hy hki hkj
  obtain⟨oi,bi,a1,a2,a3,a4⟩:=back hx hki
  obtain⟨oj,bj,b1,b2,b3,b4⟩:=back hy hkj
  have:=hh.inj oi oj bi bj k a2 b2 a4 b4
  subst this
  exact d2.inj i j oi a1 b1
 ·intro b o h
  simp only[F']at h
  split at h
  ·exact h
  ·exact hh.fz b o h
 ·rintro k ⟨id,b,hb,_,hk⟩
  obtain⟨old,b0,a1,a2,a3,a4⟩:=back hb hk
  simp only[F']
  rw[if_neg]
  ·exact hh.apart k ⟨old,b0,a2,a3,a4⟩
  ·rintro⟨z,hz,hkz⟩
   obtain⟨E,t,ver,fz,xs,hrow⟩:=d2.rows z hz
   have:=hh.inj old z b0 _ k a2 hrow a4 hkz
   subst this
   exact notfz _ _ a1 hz
 ·rintro k ⟨id,b,hb,_,hk⟩
  obtain⟨old,b0,a1,a2,a3,a4⟩:=back hb hk
  exact .inl ⟨old,b0,a2,a3,a4⟩
 ·intro k hk
  simp only[F']at hk
  split at hk
  ·rename_i hz
   obtain⟨z,hz,hkz⟩:=hz
   obtain⟨E,t,ver,fz,xs,hrow⟩:=d2.rows z hz
   cases fz with
   |false=>exact .inr (.inl ⟨z,_,hrow,rfl,hkz⟩)
   |true=>
    left
    rcases hh.blocks z _ hrow with ⟨j1,_⟩|⟨bb,rs,fr,j1,j2,_,_,_,_,j7⟩
    ·rw[j1]at hkz;simp at hkz
    ·rw[j1]at hkz;simp at hkz;subst hkz
     rw[j7 rfl];simp
  ·exact .inl hk
 ·intro id hlt blk hblk
  have hm:id∈p.hp.map (·.1):=by
   have:=List.all_eq_true.1 himp id (List.mem_range.2 hlt)
   rw[hblk]at this
   exact Ag8.1 this
  obtain⟨b,hb⟩:=e3 id hm
  obtain⟨o,h1,h2⟩:=hN' id b hb
  have:=d2.low id o hlt h1
  subst this
  obtain⟨b0,b',k1,k2,k3⟩:=hN.2 id id h1
  rw[hblk]at k1;cases k1
  refine⟨b',k2,?_⟩
  rw[hρs id id h1]
  cases blk with
  |cells T cs=>
   cases b' with
   |cells T' cs'=>exact⟨k3.1,k3.2,rfl⟩
   |row=>exact k3.elim
   |amap=>exact k3.elim
   |fmap=>exact k3.elim
  |row E t v fz xs=>
   obtain⟨rfl,rfl⟩:=k3
   exact⟨rfl,rfl,rfl,fun _=>⟨rfl,rfl⟩⟩
  |amap T kt et m=>
   have:b' = .amap T kt et m:=k3
   subst this
   exact⟨rfl,rfl,rfl,rfl⟩
  |fmap T k m=>
   cases b' with
   |fmap T' k' m'=>exact⟨k3.1,k3.2,rfl⟩
   |cells=>exact k3.elim
   |row=>exact k3.elim
   |amap=>exact k3.elim
def Be8(E:TypeId)(t:Ty)(f:Aw9):Aav→Aw9
 | .cells T cs=>match Cbv E t T cs with
  |some xs=>⟨f.bs,xs.length⟩
  |none=>f
 | _=>f
theorem Ch1(E:TypeId)(t:Ty)(f:Aw9)(b:Aav):(B0r E t b=b∧Be8 E t f b=f)∨
  ∃T cs xs n,b = .cells T cs∧A91 t n cs=some xs∧2≤n∧B0r E t b = .row T t 0 false xs∧Be8 E t f b=⟨f.bs,xs.length⟩:=by
 cases b with
 |row=>exact .inl ⟨rfl,rfl⟩
 |amap=>exact .inl ⟨rfl,rfl⟩
 |fmap=>exact .inl ⟨rfl,rfl⟩
 |cells T cs=>
  simp only[B0r,Be8]
  cases h:Cbv E t T cs with
  |none=>exact .inl ⟨rfl,rfl⟩
  |some xs=>
   right
   unfold Cbv at h
   split at h
   ·rename_i hc
    simp only[Bool.and_eq_true]at hc
    exact⟨T,cs,xs,_,rfl,h,Nat.le_of_ble_eq_true hc.2,rfl,rfl⟩
   ·cases h
theorem Cpc{n:Nat}{g:List Bool}{E:TypeId}{t:Ty}{st:ASt}{F:Fz}{ρ:Rho}{a:Act}{W:World}(hi:Atb n F ρ st a W) :
  Akr n g F ρ st.hp a W ⟨st.env,A15 E t st.hp⟩ a W:=by
 let ρ':Rho:=fun i=>match Nat.ble 32 i,st.hp i with
  |true,some b=>Be8 E t (ρ i) b
  | _,_=>ρ i
 have hh:=hi.heap
 have key:∀i b,st.hp i=some b→∃b',A15 E t st.hp i=some b'∧((b'=b∧ρ' i=ρ i)∨(32≤i∧∃T cs xs n,b = .cells T cs∧A91 t n cs=some xs∧2≤n∧b' = .row T t 0 false xs∧ρ' i=⟨(ρ i).bs,xs.length⟩)):=by
  intro i b hb
  cases hlt:Nat.ble 32 i with
  |false=>exact⟨b,by simp only[A15,hlt];exact hb,.inl ⟨rfl,by simp only[ρ',hlt]⟩⟩
  |true=>
   refine⟨B0r E t b,by simp only[A15,hlt,hb],?_⟩
   have hr:ρ' i=Be8 E t (ρ i) b:=by simp only[ρ',hlt,hb]
   rw[hr]
   rcases Ch1 E t (ρ i) b with ⟨h1,h2⟩|⟨T,cs,xs,n,h1,h2,h3,h4,h5⟩
   ·exact .inl ⟨h1,h2⟩
   ·exact .inr ⟨Nat.le_of_ble_eq_true hlt,T,cs,xs,n,h1,h2,h3,h4,h5⟩
 have back:∀i b',A15 E t st.hp i=some b'→∃b,st.hp i=some b:=by
  intro i b' h
  simp only[A15]at h
  split at h
  ·split at h
   ·rename_i b hb;exact⟨b,hb⟩
   ·cases h
  ·exact⟨b',h⟩
 have bsame:∀i,(ρ' i).bs=(ρ i).bs:=by
  intro i
  cases hb:st.hp i with
  |none=>
   have:ρ' i=ρ i:=by
    simp only[ρ',hb]
    split
    ·rename_i h;cases h
    ·rfl
   rw[this]
  |some b=>
   obtain⟨b',_,h|⟨_,_,_,_,_,_,_,_,_,h⟩⟩:=key i b hb
   ·rw[h.2]
   ·rw[h]
 have hlen:∀{cs:List Abt} {xs:List t.den} {n:Nat} {rs:List Value},A91 t n cs=some xs→Ab5 (Abo F ρ st.hp) cs rs→xs.length=n:=fun h k=>(Be2 h k).1
 have keep:∀i x,st.hp i=some x→∃y,A15 E t st.hp i=some y∧Apz (ρ i) x (ρ' i) y:=by
  intro i x hx
  obtain⟨b',hb',h|⟨_,T,cs,xs,n,rfl,h2,h3,h4,h5⟩⟩:=key i x hx
  ·refine⟨b',hb',?_⟩
   rw[h.1,h.2];exact Apz.refl _ _
  ·refine⟨b',hb',?_⟩
   subst h4
   obtain⟨_,rs,_,_,_,_,h6⟩:=hh.blocks i _ hx
   have:=hlen h2 h6
   exact⟨Nat.le_refl _,fun h=>(by cases h),fun _=>⟨by rw[h5],by omega⟩⟩
 have fzsame:∀i b b',st.hp i=some b→A15 E t st.hp i=some b'→b'.fz=b.fz:=by
  intro i b b' hb hb'
  obtain⟨b2,h1,h|⟨_,T,cs,xs,n,rfl,_,_,h4,_⟩⟩:=key i b hb
  ·rw[h1]at hb';cases hb';rw[h.1]
  ·rw[h1]at hb';cases hb';rw[h4];rfl
 refine⟨rfl,F,ρ',⟨hi.size,fun s=>RV.mono (fun _ _ h=>h) keep (hi.env s),⟨?_,?_,hh.fz,?_⟩⟩,⟨rfl,rfl,rfl,Nat.le_refl _,fun _ _ _=>rfl,?_,fun _ _ h=>h,fun _ h=>.inl h,?_⟩⟩
 ·intro i b' hb'
  replace hb':A15 E t st.hp i=some b':=hb'
  obtain⟨b,hb⟩:=back i b' hb'
  obtain⟨b2,h1,h|⟨_,T,cs,xs,n,rfl,h2,h3,h4,h5⟩⟩:=key i b hb
  ·rw[h1]at hb';cases hb'
   rw[h.1]
   exact BR.mono (fun _ _ h=>h) keep h.2 (fun _ _=>rfl) (hh.blocks i b hb)
  ·rw[h1]at hb';cases hb'
   subst h4
   obtain⟨bb,rs,fr,j1,j2,j3,j4⟩:=hh.blocks i _ hb
   obtain⟨k1,k2,k3⟩:=Be2 h2 j4
   refine .inr ⟨bb,rs,fr,by rw[h5];exact j1,j2,j3,?_,by rw[h5];exact Nat.le_refl _,fun j hj=>?_,fun h=>by cases h⟩
   ·rw[h5]
    show rs.size=xs.length*t.size
    rw[k1]
    simpa using k2
   ·have:=k3 j (by omega)
    simpa [Afr]using this
 ·intro i j x y k hx hy hki hkj
  obtain⟨bx,hbx⟩:=back i x hx
  obtain⟨by_,hby⟩:=back j y hy
  rw[bsame]at hki hkj
  exact hh.inj i j bx by_ k hbx hby hki hkj
 ·rintro k ⟨i,b',hb',hz,hk⟩
  obtain⟨b,hb⟩:=back i b' hb'
  rw[bsame]at hk
  exact hh.apart k ⟨i,b,hb,by rw[←fzsame i b b' hb hb'];exact hz,hk⟩
 ·rintro k ⟨i,b',hb',hz,hk⟩
  obtain⟨b,hb⟩:=back i b' hb'
  rw[bsame]at hk
  exact .inl ⟨i,b,hb,by rw[←fzsame i b b' hb hb'];exact hz,hk⟩
 ·intro i hlt blk hblk
  obtain⟨b2,h1,h|⟨hge,_⟩⟩:=key i blk hblk
  ·refine⟨b2,h1,?_⟩
   rw[h.1,h.2];exact Evo.refl _ _ _
  ·omega
theorem A8y{n:Nat}{g:List Bool}{a:Act}{W:World}:∀{l:List (Nat×Afp)} {st:ASt} {F:Fz} {ρ:Rho},Atb n F ρ st a W→Akr n g F ρ st.hp a W (Btt l st) a W
 |[],st,F,ρ,hi=>⟨rfl,F,ρ,hi,Ext.refl _ _ _ _ _⟩
 |(id,.row E t)::r,st,F,ρ,hi=>by
  simp only[Btt]
  split
  ·obtain⟨h0,F1,ρ1,h1,h2⟩:=Cpc (g:=g) (E:=E) (t:=t) hi
   obtain⟨k0,F2,ρ2,k1,k2⟩:=A8y (g:=g) (l:=r) h1
   exact⟨k0.trans h0,F2,ρ2,k1,h2.trans k2⟩
  ·exact A8y hi
 |(id,.cells _ _)::r,st,F,ρ,hi=>A8y (l:=r) hi
 |(id,.amap _ _ _)::r,st,F,ρ,hi=>A8y (l:=r) hi
 |(id,.fmap _ _ _ _)::r,st,F,ρ,hi=>A8y (l:=r) hi
theorem Bll{n:Nat}{g:List Bool}{p:Aac}{st:ASt}{x:p.den}(h:dec p st=some x){F:Fz}{ρ:Rho}{a:Act}{W:World}(hi:Atb n F ρ st a W) :
  Akr n g F ρ st.hp a W (Aab p x) a W:=by
 obtain⟨h0,F1,ρ1,h1,h2⟩:=A8y (g:=g) (l:=p.hp) hi
 obtain⟨k0,F2,ρ2,k1,k2⟩:=Cpb (g:=g) h h1
 exact⟨k0.trans h0,F2,ρ2,k1,h2.trans k2⟩
end
end Go.AX
namespace Go.AX
noncomputable section
abbrev Aao(p:Aac):=(R:Type)→p.den→(Ex→ASt→Option R)→Option R
def Aaa(p:Aac)(G:Aao p):Ac4:=fun R st K=>match dec p st with
 |some x=>G R x K
 |none=>none
theorem Cks{P:Program}{n:Nat}{g:List Bool}{c:Code}{p:Aac}{G:Aao p}(h:∀R x K r,G R x K=some r→∃e st',K e st'=some r∧Bts P n g c (Aab p x) e st'):Aa1 P n g c (Aaa p G):=by
 intro R st K r hF
 unfold Aaa at hF
 split at hF
 case h_2=>cases hF
 rename_i x hx
 obtain⟨e,st',h1,h2⟩:=h R x K r hF
 refine⟨e,st',h1,fun F ρ hp a0 W0 a W hl=>?_⟩
 exact h2 F ρ hp a0 W0 a W (Akr.trans hl fun F1 ρ1 hs=>Bll hx hs)
theorem Bts.out{P:Program}{n:Nat}{g:List Bool}{c:Code}{st st1:ASt}{e:Ex}{p:Aac}{y:p.den}(h:Bts P n g c st e st1)(hy:dec p st1=some y):Bts P n g c st e (Aab p y):=by
 intro F ρ hp a0 W0 a W hl
 refine wp_mono (h F ρ hp a0 W0 a W hl) ?_
 rintro x a' W' ⟨rfl,hl'⟩
 ·exact⟨rfl,Akr.trans hl' fun F1 ρ1 hs=>Bll hy hs⟩
section
variable {P:Program} {tt:TT} {Γ:FuncId→Option Aak} {g:List Bool} {n:Nat} {Λ:Nat→Option Ac4} {dom:Nat→Bool}
end
def Coc:(p:Acj)→p.den→V1
 | .one c,v=>.one (Bnw c v)
 | .agg cs,v=>.agg (Bim cs v)
def Bbn:(ps:List (Nat×Acj))→Be0 ps→List V1
 |[],_=>[]
 |(_,p)::r,v=>Coc p v.1::Bbn r v.2
def Ay0:(ps:List (Nat×Afp))→A93 ps→List Aav
 |[],_=>[]
 |(_,p)::r,v=>B32 p v.1::Ay0 r v.2
def Cbw(st:ASt)(vs:List AV):ASt:=⟨Cbr vs,st.hp⟩
theorem Bv1:∀{ps:List (Nat×Afp)} {y:A93 ps},(Ay0 ps y).length=ps.length
 |[],_=>rfl
 | _::r,y=>by simp[Ay0,Bv1 (ps:=r)]
theorem Brm:∀{ps:List (Nat×Afp)} {y:A93 ps} {id i:Nat},Au6 id (ps.map (·.1)) 0=some i→A2g ps y id=(Ay0 ps y)[i]?
 |[],_,_,_,h=>by cases h
 |(t,p)::r,y,id,i,h=>by
  simp only[List.map_cons,Au6]at h
  simp only[A2g,Ay0]
  split at h
  ·rename_i e;cases h;(try rw[e]);rfl
  ·rename_i e
   (try rw[e])
   have shift:∀(l:List Nat) (a b k:Nat),Au6 id l (a+1)=some k→Au6 id l a=some (k-1)∧a+1≤k:=by
    intro l
    induction l with
    |nil=>intro a b k h;cases h
    |cons x l ih=>
     intro a b k h
     simp only[Au6]at h ⊢
     split at h
     ·cases h;simp
     ·obtain⟨h1,h2⟩:=ih (a+1) b k h
      exact⟨h1,by omega⟩
   obtain⟨h1,h2⟩:=shift _ 0 0 i h
   have:=Brm (y:=y.2) h1
   (try simp only)
   rw[this]
   have:i=(i-1)+1:=by omega
   rw[this];simp
theorem Bn5:∀{ps:List (Nat×Afp)} {y:A93 ps} {id:Nat},id∉ps.map (·.1)→A2g ps y id=none
 |[],_,_,_=>rfl
 |(t,p)::r,y,id,h=>by
  simp only[List.map_cons,List.mem_cons,not_or]at h
  simp only[A2g,Ayx h.1]
  exact Bn5 h.2
theorem Cmn{ps:List (Nat×Afp)}{nb m:Nat}(hn:ps.map (·.1)=List.range nb++(List.range m).map (32 + ·))(hnb:nb≤32)(y:A93 ps):A2g ps y=Afq ((Ay0 ps y).take nb) ((Ay0 ps y).drop nb):=by
 have nd:(ps.map (·.1)).Nodup:=by
  rw[hn,List.nodup_append]
  refine⟨List.nodup_range,?_,?_⟩
  ·rw[List.nodup_iff_pairwise_ne,List.pairwise_map]
   have:=List.nodup_range (n:=m)
   rw[List.nodup_iff_pairwise_ne]at this
   exact this.imp fun {a b} h e=>h (by omega)
  ·intro a ha b hb
   simp only[List.mem_map,List.mem_range]at ha hb
   obtain⟨c,_,rfl⟩:=hb
   omega
 have hlen:ps.length=nb+m:=by
  have:=congrArg List.length hn
  simpa using this
 have bl:=Bv1 (ps:=ps) (y:=y)
 funext id
 simp only[Afq]
 cases e:Nat.ble 32 id with
 |false=>
  have hlt:id<32:=by
   rcases Nat.lt_or_ge id 32 with h|h
   ·exact h
   ·rw[Nat.ble_eq_true_of_le h]at e;cases e
  simp only
  by_cases h:id<nb
  ·have:(ps.map (·.1))[id]? = some id:=by
    rw[hn,List.getElem?_append_left (by simpa using h)]
    simp[h]
   rw[Brm (A5s (i:=0) nd this)]
   simp[h]
  ·rw[Bn5,List.getElem?_eq_none]
   ·simp;omega
   ·rw[hn]
    simp only[List.mem_append,List.mem_range,List.mem_map,not_or,not_exists,not_and]
    exact⟨h,fun x _=>by omega⟩
 |true=>
  have hle:=Nat.le_of_ble_eq_true e
  simp only
  by_cases h:id-32<m
  ·have:(ps.map (·.1))[nb+(id-32)]? = some id:=by
    rw[hn,List.getElem?_append_right (by simp)]
    simp[h];omega
   rw[Brm (A5s (i:=0) nd this)]
   simp[List.getElem?_drop]
  ·rw[Bn5,List.getElem?_eq_none]
   ·simp;omega
   ·rw[hn]
    simp only[List.mem_append,List.mem_range,List.mem_map,not_or,not_exists,not_and]
    exact⟨by omega,fun x hx=>by omega⟩
theorem Cpd:∀(p:Acj) (v:p.den),Cho p v = .v (Coc p v)
 | .one _,_=>rfl
 | .agg _,_=>rfl
theorem Ccw:∀{ps:List (Nat×Acj)} {y:Be0 ps} {k m:Nat},ps.map (·.1)=(List.range m).map (k + ·)→(∀i,i<m→∃v,(Bbn ps y)[i]? = some v∧A5z ps y (k+i) = .v v)∧(Bbn ps y).length=m
 |[],y,k,m,h=>by
  have:m=0:=by have:=congrArg List.length h;simpa using this.symm
  subst this
  exact⟨fun i hi=>by omega,rfl⟩
 |(t,p)::r,y,k,m,h=>by
  cases m with
  |zero=>simp at h
  |succ m=>
   rw[List.range_succ_eq_map,List.map_cons,List.map_cons]at h
   simp only[List.cons.injEq,Nat.add_zero]at h
   obtain⟨rfl,h2⟩:=h
   have h3:r.map (·.1)=(List.range m).map ((t+1) + ·):=by
    rw[h2,List.map_map]
    apply List.map_congr_left
    intro i _;simp[Function.comp];omega
   obtain⟨i1,i2⟩:=Ccw (y:=y.2) h3
   refine⟨fun i hi=>?_,by simp[Bbn,i2]⟩
   cases i with
   |zero=>exact⟨_,rfl,by simp[A5z,Cpd]⟩
   |succ i=>
    obtain⟨v,v1,v2⟩:=i1 i (by omega)
    refine⟨v,by simpa [Bbn]using v1,?_⟩
    simp only[A5z]
    rw[Ayx (by omega)]
    rw[show t+(i+1)=t+1+i by omega];exact v2
def Ccx(tmps:Array Value):ResultVar→Sem Value:=fun
  | .tmp t=>pure (tmps.getD t undef)
  | .cell a t=>do loadVar t (←asAddr (tmps.getD a undef))
theorem Ch2(fn:Func)(tmps:Array Value):results fn tmps=(do
 let vs ←fn.results.mapM (Ccx tmps)
 pure (if h:vs.size=1 then vs[0] else .tuple vs)):=rfl
def Cmo:List Value→Value
 |[v]=>v
 |l=>.tuple l.toArray
theorem Cfi{P:Program}{tt:TT}(htt:Akq P tt){n:Nat}{F:Fz}{ρ:Rho}{st:ASt}{a:Act}{W:World}(hs:Atb n F ρ st a W){fn:Func}{vs:List AV}(h:Ayw tt st fn.results.toList=some vs) :
  ∃rs:List Value,(results fn a.tmps).run P W = .ok (Cmo rs) W∧Ab5 (RV F ρ st.hp) vs rs:=by
 have key:∀(l:List ResultVar) (vs:List AV),Ayw tt st l=some vs→∃rs:List Value,(l.mapM (Ccx a.tmps):Sem (List Value)).run P W=Result.ok rs W∧Ab5 (RV F ρ st.hp) vs rs:=by
  intro l
  induction l with
  |nil=>intro vs h;cases h;exact⟨[],by simp,trivial⟩
  |cons x l ih=>
   intro vs h
   cases x with
   |tmp t=>
    simp only[Ayw]at h
    split at h
    ·rename_i l' hl;cases h
     obtain⟨rs,h1,h2⟩:=ih l' hl
     refine⟨a.tmps.getD t undef::rs,?_,hs.env t,h2⟩
     rw[List.mapM_cons]
     simp only[Sem.run_bind,h1,Result.andThen_ok,Ccx,Sem.run_pure]
    ·cases h
   |cell t T=>
    simp only[Ayw]at h
    split at h
    ·rename_i v l' hv hl;cases h
     obtain⟨rs,h1,h2⟩:=ih l' hl
     obtain⟨v',hv',hload⟩:=Cch htt hv
     cases hv'
     obtain⟨r,hr,hrv⟩:=hload F ρ st.hp W (a.tmps.getD t undef) hs.heap (fun _ _ h=>h) (hs.env t)
     refine⟨r::rs,?_,hrv,h2⟩
     rw[List.mapM_cons]
     have hx:(Ccx a.tmps (.cell t T)).run P W = .ok r W:=by
      simp only[Ccx]
      generalize a.tmps.getD t undef=q at hr
      cases q with
      |pointer p=>
       cases p with
       |some ad=>simpa [Instr.loadAt,Instr.sureAddr,asAddr]using hr
       |none=>simp[Instr.loadAt,Instr.sureAddr]at hr
      | _=>simp[Instr.loadAt,Instr.sureAddr]at hr
     simp only[Sem.run_bind,hx,h1,Result.andThen_ok,Sem.run_pure]
    ·cases h
 obtain⟨rs,h1,h2⟩:=key _ _ h
 refine⟨rs,?_,h2⟩
 rw[Ch2,←Array.toArray_toList (xs:=fn.results)]
 rw[List.mapM_toArray]
 simp only[Sem.run_bind,Sem.run_map,h1,Result.andThen_ok,Sem.run_pure]
 congr 1
 match rs with
 |[]=>rfl
 |[a]=>rfl
 |a::b::r=>simp[Cmo]
def Cke.fin(P:Program)(F:Fz)(ρ:Rho)(W:World)(bl:List Aav)(g:List Bool)(v:AV)(bl' nw:List Aav)(r:Value)(W':World):Prop :=
 ∃F' ρ',RV F' ρ' (Afq bl' nw) v r∧Acf F' ρ' (Afq bl' nw) W'∧Ext g F ρ (Afq bl []) W F' ρ' (Afq bl' nw) W'
end
end Go.AX

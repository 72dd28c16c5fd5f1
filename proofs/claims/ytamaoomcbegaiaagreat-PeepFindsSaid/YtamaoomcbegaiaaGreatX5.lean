/- A reading of the model's code over typed data,proved sound: patterns,loops,functions. -/
import Derived.Test.YtamaoomcbegaiaaGreatX4
namespace Go.AX
noncomputable section
def Dlr(p:Aac)(hp:Aaq):Bool:=(List.range 32).all fun id=>match hp id with|none=>true|some _=>Arg id (p.hp.map (·.1))
def Czr(E:TypeId)(t:Ty)(T:TypeId)(cs:List Acw):Option (List t.den):=match Nat.beq T E&&Nat.ble 2 (cs.length/t.size) with
 |true=>Bmx t (cs.length/t.size) cs
 |false=>none
def Cm9(E:TypeId)(t:Ty):Aa1→Aa1
 | .cells T cs=>match Czr E t T cs with
  |some xs=>.row T t 0 false xs
  |none=>.cells T cs
 |b=>b
def Bc6(E:TypeId)(t:Ty)(hp:Aaq):Aaq:=fun id=>match Nat.ble 32 id with
 |true=>(match hp id with|some b=>some (Cm9 E t b)|none=>none)
 |false=>hp id
def Cd3:List (Nat×Afi)→ASt→ASt
 |[],st=>st
 |(id,.row E t)::r,st=>match Nat.ble 1000 id with
  |true=>Cd3 r ⟨st.env,Bc6 E t st.hp⟩
  |false=>Cd3 r st
 | _::r,st=>Cd3 r st
def Ddg(p:Aac)(st:ASt):Option p.den:=match Djy p st with
 |some x=>match Dlr p st.hp with
  |true=>some x
  |false=>none
 |none=>none
def dec(p:Aac)(st:ASt):Option p.den:=Ddg p (Cd3 p.hp st)
theorem Cna:∀{a b:Option Nat},Btl a b=true ↔ a=b
 |none,none=>by simp[Btl]
 |some a,some b=>by simp[Btl]
 |none,some _=>by simp[Btl]
 |some _,none=>by simp[Btl]
structure Le(a b:DSt):Prop where
 src:∀id o,Ahi a.src id=some o→Ahi b.src id=some o
 fz:∀z,z∈a.fz→z∈b.fz
theorem Le.refl(a:DSt):Le a a:=⟨fun _ _ h=>h,fun _ h=>h⟩
theorem Le.trans{a b c:DSt}(h:Le a b)(k:Le b c):Le a c:=⟨fun id o x=>k.src id o (h.src id o x),fun z x=>k.fz z (h.fz z x)⟩
structure Arb(hp:Aaq)(σ:DSt):Prop where
 inj:∀i j o,Ahi σ.src i=some (some o)→Ahi σ.src j=some (some o)→i=j
 low:∀i o,i<32→Ahi σ.src i=some o→o=some i
 rows:Btn hp σ.fz
theorem Atk{k id:Nat}{o:Option Nat}{r:Src}:Ahi ((k,o)::r) id=if id=k then some o else Ahi r id:=by
 simp only[Ahi]
 by_cases e:id=k
 ·subst e;simp
 ·rw[A7x e];simp[e]
theorem Bsv:∀{s:Src} {id:Nat} {o:Option Nat},Ahi s id=some o→(id,o)∈s
 |[],_,_,h=>by cases h
 |(k,o')::r,id,o,h=>by
  rw[Atk]at h
  split at h
  ·rename_i e;cases h;subst e;exact List.mem_cons_self ..
  ·exact List.mem_cons_of_mem _ (Bsv h)
theorem Aqa{hp:Aaq}{σ:DSt}{id:Nat}{o:Option Nat}{s:Src}(h:Bgy σ.src id o=some s)(hs:Arb hp σ):Arb hp ⟨s,σ.fz⟩∧Le σ ⟨s,σ.fz⟩∧Ahi s id=some o:=by
 unfold Bgy at h
 split at h
 ·rename_i o' ho
  split at h
  ·rename_i e
   cases h
   rw[Cna]at e
   exact⟨⟨hs.inj,hs.low,hs.rows⟩,⟨fun _ _ h=>h,fun _ h=>h⟩,by rw[ho,e]⟩
  ·cases h
 ·rename_i hn
  have le:∀o,Le σ ⟨(id,o)::σ.src,σ.fz⟩:=fun o=>⟨fun i o' hx=>by
   rw[Atk]
   split
   ·rename_i e;subst e;rw[hn]at hx;cases hx
   ·exact hx,fun _ h=>h⟩
  split at h
  ·split at h
   ·rename_i hge
    have hge:=Nat.le_of_ble_eq_true hge
    cases h
    refine⟨⟨fun i j o h1 h2=>?_,fun i o hi h1=>?_,hs.rows⟩,le _,by rw[Atk];simp⟩
    ·simp only[Atk]at h1 h2
     split at h1
     ·cases h1
     ·split at h2
      ·cases h2
      ·exact hs.inj i j o h1 h2
    ·simp only[Atk]at h1
     split at h1
     ·rename_i e;omega
     ·exact hs.low i o hi h1
   ·cases h
  ·rename_i old
   split at h
   ·cases h
   ·rename_i hc
    cases h
    simp only[Bool.or_eq_false_iff]at hc
    obtain⟨⟨hc1,hc2⟩,hc3⟩:=hc
    have no:∀i,Ahi σ.src i≠some (some old):=by
     intro i hi
     have:=List.any_eq_false.1 hc1 _ (Bsv hi)
     rw[Cna]at this
     exact this rfl
    refine⟨⟨fun i j o h1 h2=>?_,fun i o hi h1=>?_,hs.rows⟩,le _,by rw[Atk];simp⟩
    ·simp only[Atk]at h1 h2
     split at h1
     ·rename_i e1
      cases h1
      split at h2
      ·rename_i e2;rw[e1,e2]
      ·exact absurd h2 (no j)
     ·split at h2
      ·cases h2;exact absurd h1 (no i)
      ·exact hs.inj i j o h1 h2
    ·simp only[Atk]at h1
     split at h1
     ·rename_i e
      cases h1
      subst e
      have:Nat.ble 32 i=false:=by
       cases e:Nat.ble 32 i with
       |false=>rfl
       |true=>have:=Nat.le_of_ble_eq_true e;omega
      rw[this]at hc2
      simp only[Bool.not_false,Bool.true_and,Bool.not_eq_false']at hc2
      rw[Ab4 hc2]
     ·exact hs.low i o hi h1
theorem Crw{hp:Aaq}:∀{ids:List Nat} {cs:List Asf} {σ σ':DSt},Crn hp ids cs σ=some σ'→Arb hp σ→Arb hp σ'∧Le σ σ'
 |[],[],σ,σ',h,hs=>by cases h;exact⟨hs,Le.refl _⟩
 |[],_::_,_,_,h,_=>by cases h
 |id::r,c::cs,σ,σ',h,hs=>by
  unfold Crn at h
  split at h
  ·rename_i q _;cases q
  ·rename_i e2 e3
   cases e2;cases e3
   split at h
   ·rename_i hp' _
    split at h
    ·obtain⟨a,b,_⟩:=Aqa hp' hs
     obtain⟨c,d⟩:=Crw h a
     exact⟨c,b.trans d⟩
    ·cases h
   ·cases h
  ·cases h
 | _::_,[],_,_,h,_=>by cases h
theorem Crx{hp:Aaq}{p:Are}{c:Acw}{σ σ':DSt}{v:p.den}(h:Cro hp p c σ=some (v,σ'))(hs:Arb hp σ):Arb hp σ'∧Le σ σ':=by
 unfold Cro at h
 split at h
 ·split at h
  ·rename_i hf
   split at h
   ·cases h
    refine⟨⟨hs.inj,hs.low,fun z hz=>?_⟩,fun _ _ h=>h,fun z hz=>by simp[hz]⟩
    simp only[List.mem_append]at hz
    rcases hz with hz|hz
    ·exact B4t hf z hz
    ·exact hs.rows z hz
   ·cases h
  ·cases h
 ·split at h
  ·rename_i hp';cases h;obtain⟨a,b,_⟩:=Aqa hp' hs;exact⟨a,b⟩
  ·cases h
 ·split at h
  ·rename_i hp';cases h;obtain⟨a,b,_⟩:=Aqa hp' hs;exact⟨a,b⟩
  ·cases h
 ·split at h
  ·split at h
   ·rename_i hp';cases h;obtain⟨a,b,_⟩:=Aqa hp' hs;exact⟨a,b⟩
   ·cases h
  ·cases h
 ·split at h
  ·rename_i hp' _
   split at h
   ·cases h;obtain⟨a,b,_⟩:=Aqa hp' hs;exact⟨a,b⟩
   ·cases h
  ·cases h
 ·split at h
  ·rename_i hp';cases h;obtain⟨a,b,_⟩:=Aqa hp' hs;exact⟨a,b⟩
  ·cases h
 ·split at h
  ·split at h
   ·rename_i hp';cases h;obtain⟨a,b,_⟩:=Aqa hp' hs;exact⟨a,b⟩
   ·cases h
  ·cases h
 all_goals first
  |(cases h;exact⟨hs,Le.refl _⟩)
  |(
   split at h
   ·cases h;exact⟨hs,Le.refl _⟩
   ·cases h)
  |(
   split at h
   ·rename_i hp';cases h;exact Crw hp' hs
   ·cases h)
  |cases h
theorem Btr{hp:Aaq}:∀{ps:List Are} {cs:List Acw} {σ σ':DSt} {v:Bmy ps},Bm0 hp ps cs σ=some (v,σ')→Arb hp σ→Arb hp σ'∧Le σ σ'
 |[],[],σ,σ',v,h,hs=>by cases h;exact⟨hs,Le.refl _⟩
 |[],_::_,_,_,_,h,_=>by cases h
 | _::_,[],_,_,_,h,_=>by cases h
 |p::r,c::cs,σ,σ',v,h,hs=>by
  simp only[Bm0]at h
  split at h
  ·rename_i h1
   split at h
   ·rename_i h2
    cases h
    obtain⟨a,b⟩:=Crx h1 hs
    obtain⟨c,d⟩:=Btr h2 a
    exact⟨c,b.trans d⟩
   ·cases h
  ·cases h
theorem Dg8{hp:Aaq}{p:Ac4}{x:AV}{σ σ':DSt}{v:p.den}(h:Crp hp p x σ=some (v,σ'))(hs:Arb hp σ):Arb hp σ'∧Le σ σ':=by
 unfold Crp at h
 split at h
 ·exact Crx h hs
 ·exact Btr h hs
 ·cases h
theorem Cry{hp:Aaq}{id:Nat}{p:Afi}{σ σ':DSt}{v:p.den}(h:Bo5 hp id p σ=some (v,σ'))(hs:Arb hp σ):Arb hp σ'∧Le σ σ':=by
 unfold Bo5 at h
 split at h
 ·split at h
  ·split at h
   ·split at h
    ·exact Btr h hs
    ·cases h
   ·cases h
  ·cases h
 ·split at h
  ·cases h;exact⟨hs,Le.refl _⟩
  ·split at h
   ·split at h
    ·split at h
     ·cases h;exact⟨hs,Le.refl _⟩
     ·cases h
    ·cases h
   ·cases h
  ·cases h
 ·split at h
  ·split at h
   ·split at h
    ·split at h
     ·split at h
      ·cases h;exact⟨hs,Le.refl _⟩
      ·cases h
     ·cases h
    ·cases h
   ·cases h
  ·cases h
 ·split at h
  ·split at h
   ·split at h
    ·exact Btr h hs
    ·cases h
   ·cases h
  ·cases h
theorem Cu5{env:Env}{hp:Aaq}:∀{ps:List (Nat×Ac4)} {σ σ':DSt} {x:Btk ps},Cmw env hp ps σ=some (x,σ')→Arb hp σ→Arb hp σ'∧Le σ σ'∧
  ∀s,Bgx ps x s = .at .undef∨∃p v σa σb,Crp hp p (env s) σa=some (v,σb)∧Arb hp σa∧Le σb σ'∧Bgx ps x s=C61 p v
 |[],σ,σ',x,h,hs=>by cases h;exact⟨hs,Le.refl _,fun s=>.inl rfl⟩
 |(t,p)::r,σ,σ',x,h,hs=>by
  simp only[Cmw]at h
  split at h
  ·rename_i v σ1 h1
   split at h
   ·rename_i w σ2 h2
    cases h
    obtain⟨a,b⟩:=Dg8 h1 hs
    obtain⟨c,d,e⟩:=Cu5 h2 a
    refine⟨c,b.trans d,fun s=>?_⟩
    simp only[Bgx]
    by_cases hst:s=t
    ·subst hst
     rw[Bk9]
     exact .inr ⟨p,v,σ,σ1,h1,hs,d,rfl⟩
    ·rw[A7x hst]
     rcases e s with e|⟨p',v',σa,σb,e1,e2,e3,e4⟩
     ·exact .inl e
     ·exact .inr ⟨p',v',σa,σb,e1,e2,e3,e4⟩
   ·cases h
  ·cases h
theorem C0w{hp:Aaq}:∀{ps:List (Nat×Afi)} {σ σ':DSt} {x:Bmz ps},Czm hp ps σ=some (x,σ')→Arb hp σ→Arb hp σ'∧Le σ σ'∧
  (∀id b,Bde ps x id=some b→∃p v σa σb,Bo5 hp id p σa=some (v,σb)∧Arb hp σa∧Le σb σ'∧b=Crm p v)∧∀id,id∈ps.map (·.1)→∃b,Bde ps x id=some b
 |[],σ,σ',x,h,hs=>by cases h;exact⟨hs,Le.refl _,(fun id b hb=>by cases hb),(fun id h=>by simp at h)⟩
 |(t,p)::r,σ,σ',x,h,hs=>by
  simp only[Czm]at h
  split at h
  ·rename_i v σ1 h1
   split at h
   ·rename_i w σ2 h2
    cases h
    obtain⟨a,b⟩:=Cry h1 hs
    obtain⟨c,d,e,f⟩:=C0w h2 a
    refine⟨c,b.trans d,fun id bl hbl=>?_,fun id hid=>?_⟩
    ·simp only[Bde]at hbl
     by_cases hst:id=t
     ·subst hst
      rw[Bk9]at hbl
      cases hbl
      exact⟨p,v,σ,σ1,h1,hs,d,rfl⟩
     ·rw[A7x hst]at hbl
      exact e id bl hbl
    ·simp only[Bde]
     by_cases hst:id=t
     ·subst hst;rw[Bk9];exact⟨_,rfl⟩
     ·rw[A7x hst]
      simp only[List.map_cons,List.mem_cons,hst,false_or]at hid
      exact f id hid
   ·cases h
  ·cases h
theorem B8v:∀{ps:List Are} {v:Bmy ps},(Bxr ps v).length=ps.length
 |[],_=>rfl
 | _::r,v=>by simp[Bxr,B8v (ps:=r)]
theorem B8w{hp:Aaq}:∀{ps:List Are} {cs:List Acw} {σ σ':DSt} {v:Bmy ps},Bm0 hp ps cs σ=some (v,σ')→cs.length=ps.length
 |[],[],_,_,_,_=>rfl
 |[],_::_,_,_,_,h=>by cases h
 | _::_,[],_,_,_,h=>by cases h
 |p::r,c::cs,σ,σ',v,h=>by
  simp only[Bm0]at h
  split at h
  ·split at h
   ·rename_i h2;simp[B8w h2]
   ·cases h
  ·cases h
def Cnb(hp hp':Aaq)(S:Src):Prop:=(∀id,Ahi S id=some none→∃E t,hp' id=some (.row E t 0 false []))∧
 ∀id old,Ahi S id=some (some old)→∃b b',hp old=some b∧hp' id=some b'∧match b,b' with
  | .cells T cs,.cells T' cs'=>T=T'∧cs.length=cs'.length
  | .row E t _ fz xs,b'=>fz=false∧b' = .row E t 0 false xs
  | .amap T kt et m,b'=>b' = .amap T kt et m
  | .fmap T k m,.fmap T' k' m'=>T=T'∧k=k'
  | _,_=>False
theorem Ddh{hp hp':Aaq}{σ:DSt}(hb:∀id b,hp' id=some b→∃p v σa σb,Bo5 hp id p σa=some (v,σb)∧Arb hp σa∧Le σb σ∧b=Crm p v)(hn:∀id o,Ahi σ.src id=some o→∃b,hp' id=some b):Cnb hp hp' σ.src∧∀id b,hp' id=some b→∃o,Ahi σ.src id=some o∧((o=none∧∃E t,b = .row E t 0 false [])∨∃old,o=some old):=by
 have key:∀id b,hp' id=some b→(Ahi σ.src id=some none∧∃E t,b = .row E t 0 false [])∨∃old b0,Ahi σ.src id=some (some old)∧hp old=some b0∧match b0,b with
  | .cells T cs,.cells T' cs'=>T=T'∧cs.length=cs'.length
  | .row E t _ fz xs,b'=>fz=false∧b' = .row E t 0 false xs
  | .amap T kt et m,b'=>b' = .amap T kt et m
  | .fmap T k m,.fmap T' k' m'=>T=T'∧k=k'
  | _,_=>False:=by
  intro id b h
  obtain⟨p,v,σa,σb,h1,hsa,h3,rfl⟩:=hb id b h
  have hle:=(Cry h1 hsa).2.trans h3
  unfold Bo5 at h1
  split at h1
  ·split at h1
   ·rename_i old hg
    split at h1
    ·rename_i T' xs ho
     split at h1
     ·rename_i e
      have e:=Ab4 e;subst e
      refine .inr ⟨old,_,hle.src _ _ hg,ho,?_⟩
      simp only[Crm]
      exact⟨trivial,by rw[B8v,B8w h1]⟩
     ·cases h1
    ·cases h1
   ·cases h1
  ·split at h1
   ·rename_i hg
    cases h1
    exact .inl ⟨hle.src _ _ hg,_,_,rfl⟩
   ·rename_i old hg
    split at h1
    ·rename_i E' t' ver xs ho
     split at h1
     ·rename_i e _
      split at h1
      ·rename_i et
       have e:=Ab4 e;subst e
       subst et
       cases h1
       refine .inr ⟨old,_,hle.src _ _ hg,ho,?_⟩
       exact⟨rfl,rfl⟩
      ·cases h1
     ·cases h1
    ·cases h1
   ·cases h1
  ·split at h1
   ·rename_i old hg
    split at h1
    ·rename_i T' kt' et' m ho
     split at h1
     ·rename_i e
      split at h1
      ·rename_i ek
       split at h1
       ·rename_i ee
        have e:=Ab4 e;subst e
        subst ek;subst ee
        cases h1
        exact .inr ⟨old,_,hle.src _ _ hg,ho,rfl⟩
       ·cases h1
      ·cases h1
     ·cases h1
    ·cases h1
   ·cases h1
  ·split at h1
   ·rename_i old hg
    split at h1
    ·rename_i T' k' m ho
     split at h1
     ·rename_i e _
      simp only[Bool.and_eq_true,decide_eq_true_eq]at e
      refine .inr ⟨old,_,hle.src _ _ hg,ho,?_⟩
      simp only[Crm]
      exact⟨(Ab4 e.1).symm,e.2.symm⟩
     ·cases h1
    ·cases h1
   ·cases h1
 refine⟨⟨fun id hid=>?_,fun id old hid=>?_⟩,fun id b h=>?_⟩
 ·obtain⟨b,h⟩:=hn id _ hid
  rcases key id b h with ⟨_,E,t,rfl⟩|⟨old,b0,h1,_⟩
  ·exact⟨E,t,h⟩
  ·rw[hid]at h1;cases h1
 ·obtain⟨b,h⟩:=hn id _ hid
  rcases key id b h with ⟨h1,_⟩|⟨old',b0,h1,h2,h3⟩
  ·rw[hid]at h1;cases h1
  ·rw[hid]at h1;cases h1
   exact⟨b0,b,h2,h,h3⟩
 ·rcases key id b h with ⟨h1,h2⟩|⟨old,b0,h1,_⟩
  ·exact⟨_,h1,.inl ⟨rfl,h2⟩⟩
  ·exact⟨_,h1,.inr ⟨old,rfl⟩⟩
end
end Go.AX
namespace Go.AX
noncomputable section
section
variable {F F':Fz} {ρ ρ':Rho} {hp hp':Aaq} {W:World} {S:DSt}
theorem C58(hh:Adn F ρ hp W)(hN:Cnb hp hp' S.src)(hρs:∀id old,Ahi S.src id=some (some old)→ρ' id=ρ old) :
  ∀{ids:List Nat} {cs:List Asf} {σ σ':DSt} {rs:List Value},Crn hp ids cs σ=some σ'→Arb hp σ→Le σ' S→Ac9 (RA F ρ hp) cs rs→
   Ac9 (RA F' ρ' hp') (ids.map fun id=>.ptr id 0 0 0) rs
 |[],[],_,_,rs,_,_,_,hr=>by have:=hr.nil_left;subst this;trivial
 |[],_::_,_,_,_,h,_,_,_=>by cases h
 | _::_,[],_,_,_,h,_,_,_=>by cases h
 |id::ids,c::cs,σ,σ',rs,h,hs,hle,hr=>by
  unfold Crn at h
  split at h
  ·rename_i q _;cases q
  ·rename_i e2 e3
   cases e2;cases e3
   obtain⟨b',rs',rfl,hr,hrs⟩:=hr.cons_left
   split at h
   ·rename_i hv hi hf hp' hb
    split at h
    ·rename_i hbv
     obtain⟨a1,a2,hg⟩:=Aqa hp' hs
     have ih:=C58 hh hN hρs h a1 hle hrs
     refine⟨?_,ih⟩
     have hle1:=(Crw h a1).2.trans hle
     have hv:=Ab4 hv;have hi:=Ab4 hi;have hf:=Ab4 hf;have hbv:=Ab4 hbv
     subst hv;subst hi;subst hf
     have hg:=hle1.src _ _ hg
     obtain⟨b0,b',h1,h2,h3⟩:=hN.2 _ _ hg
     simp only[RA]at hr
     obtain⟨b1,e1,_,ad,rfl,hc⟩:=hr
     have q0:b0=b1:=Option.some.inj (h1.symm.trans e1)
     subst q0
     have q1:=Option.some.inj (hb.symm.trans h1)
     rw[q1]at hbv
     replace hc:=hc hbv
     simp only[RA]
     cases b0<;>simp only at hc
     ·cases b'<;>simp only at h3
      refine⟨_,h2,Nat.le_refl _,ad,rfl,fun _=>?_⟩
      simp only[hρs _ _ hg]
      exact hc
     ·simp only at h3
      obtain⟨rfl,rfl⟩:=h3
      refine⟨_,h2,Nat.le_refl _,ad,rfl,fun _=>?_⟩
      simp only[hρs _ _ hg]
      exact hc
    ·cases h
   ·cases h
  ·cases h
theorem C59(hh:Adn F ρ hp W)(hF:∀b o,F b=some o→F' b=some o)(hl:∀id,id∈S.fz→∀k,k∈(ρ id).bs→F' k=W.heap[k]?)(hN:Cnb hp hp' S.src)(hρn:∀id,Ahi S.src id=some none→ρ' id=⟨[],0⟩)(hρs:∀id old,Ahi S.src id=some (some old)→ρ' id=ρ old){p:Are}{c:Acw}{σ σ':DSt}{v:p.den}{r:Value}(h:Cro hp p c σ=some (v,σ'))(hs:Arb hp σ)(hle:Le σ' S)(hr:Acp F ρ hp c r):Acp F' ρ' hp' (B3c p v) r:=by
 unfold Cro at h
 split at h
 ·split at h
  ·rename_i x y l hf
   split at h
   ·rename_i w hg
    cases h
    have:=Asf.frz_ok hh (fun _ _ h=>h) hf hr F' hF (fun id hid=>hl id (hle.fz id (by simp[hid])))
    exact Asf.get_ok hg this
   ·cases h
  ·cases h
 ·split at h
  ·rename_i hp'
   cases h
   obtain⟨_,_,hg⟩:=Aqa hp' hs
   have hg:=hle.src _ _ hg
   obtain⟨E,t,hb⟩:=hN.1 _ hg
   simp only[Acp,RA]at hr
   simp only[B3c,Acp,RA]
   refine⟨_,hb,Nat.le_refl _,none,0,0,hr,fun _=>?_⟩
   simp[hρn _ hg]
  ·cases h
 ·split at h
  ·rename_i hp'
   cases h
   obtain⟨_,_,hg⟩:=Aqa hp' hs
   have hg:=hle.src _ _ hg
   obtain⟨E,t,hb⟩:=hN.1 _ hg
   simp only[Acp,RA]at hr
   obtain⟨A,hr⟩:=hr
   simp only[B3c,Acp,RA]
   refine⟨_,hb,Nat.le_refl _,A,0,0,hr,fun _=>?_⟩
   simp[hρn _ hg]
  ·cases h
 ·split at h
  ·rename_i b hb
   split at h
   ·rename_i hv hp'
    cases h
    have hv:=Ab4 hv
    subst hv
    obtain⟨_,_,hg⟩:=Aqa hp' hs
    have hg:=hle.src _ _ hg
    obtain⟨b0,b',h1,h2,h3⟩:=hN.2 _ _ hg
    rw[hb]at h1;cases h1
    simp only[Acp,RA]at hr
    obtain⟨b1,e1,_,A,l,c,rfl,hc⟩:=hr
    rw[hb]at e1;cases e1
    replace hc:=hc rfl
    cases b<;>simp only at hc
    simp only at h3
    obtain⟨rfl,rfl⟩:=h3
    simp only[B3c,Acp,RA]
    refine⟨_,h2,Nat.le_refl _,A,l,c,rfl,fun _=>?_⟩
    simp only[hρs _ _ hg]
    exact hc
   ·cases h
  ·cases h
 ·split at h
  ·rename_i hv hi hf hp' hb
   split at h
   ·rename_i hbv
    cases h
    have hv:=Ab4 hv;have hi:=Ab4 hi;have hf:=Ab4 hf;have hbv:=Ab4 hbv
    subst hv;subst hi;subst hf
    obtain⟨_,_,hg⟩:=Aqa hp' hs
    have hg:=hle.src _ _ hg
    obtain⟨b0,b',h1,h2,h3⟩:=hN.2 _ _ hg
    rw[hb]at h1;cases h1
    simp only[Acp,RA]at hr
    obtain⟨b1,e1,_,ad,rfl,hc⟩:=hr
    rw[hb]at e1;cases e1
    replace hc:=hc hbv
    simp only[B3c,Acp,RA]
    rename_i bq _ hbq _ _ _ _
    clear hb hbv hbq
    cases bq<;>simp only at hc
    ·cases b'<;>simp only at h3
     refine⟨_,h2,Nat.le_refl _,ad,rfl,fun _=>?_⟩
     simp only[hρs _ _ hg]
     exact hc
    ·simp only at h3
     obtain⟨rfl,rfl⟩:=h3
     refine⟨_,h2,Nat.le_refl _,ad,rfl,fun _=>?_⟩
     simp only[hρs _ _ hg]
     exact hc
   ·cases h
  ·cases h
 ·split at h
  ·rename_i hp'
   cases h
   obtain⟨_,_,hg⟩:=Aqa hp' hs
   have hg:=hle.src _ _ hg
   obtain⟨b0,b',h1,h2,h3⟩:=hN.2 _ _ hg
   simp only[Acp,RA]at hr
   obtain⟨b1,bb,e1,him,e2,rfl⟩:=hr
   rw[e1]at h1;cases h1
   refine⟨b',bb,h2,?_,by rw[hρs _ _ hg];exact e2,rfl⟩
   cases b0 with
   |cells=>cases him
   |row=>cases him
   |amap=>rw[h3];rfl
   |fmap=>cases b' with
    |fmap=>rfl
    | _=>exact h3.elim
  ·cases h
 ·split at h
  ·rename_i T0 cs0 hb
   split at h
   ·rename_i hn' hp'
    cases h
    have hn':=Ab4 hn'
    subst hn'
    obtain⟨_,_,hg⟩:=Aqa hp' hs
    have hg:=hle.src _ _ hg
    obtain⟨b0,b',h1,h2,h3⟩:=hN.2 _ _ hg
    simp only[Acp,RA]at hr
    obtain⟨b1,e1,A,l,c,rfl,hc⟩:=hr
    rw[hb]at h1 e1;cases h1;cases e1
    simp only[B3c,Acp,RA]
    refine⟨b',h2,A,l,c,rfl,?_⟩
    cases b' with
    |cells=>
     simp only[hρs _ _ hg]
     exact hc
    | _=>trivial
   ·cases h
  ·cases h
 all_goals first
  |(cases h;exact hr)
  |(
   split at h
   ·rename_i e
    cases h
    have e:=Ab4 e
    subst e
    obtain⟨cs,rfl,h2⟩:=hr
    have:=h2.nil_left
    exact⟨cs,rfl,by rw[this];trivial⟩
   ·cases h)
  |(cases h;exact trivial)
  |(
   split at h
   ·rename_i e hp'
    cases h
    have e:=Ab4 e
    subst e
    obtain⟨cs,rfl,h2⟩:=hr
    exact⟨cs,rfl,C58 hh hN hρs hp' hs hle h2⟩
   ·cases h)
  |cases h
theorem B3l(hh:Adn F ρ hp W)(hF:∀b o,F b=some o→F' b=some o)(hl:∀id,id∈S.fz→∀k,k∈(ρ id).bs→F' k=W.heap[k]?)(hN:Cnb hp hp' S.src)(hρn:∀id,Ahi S.src id=some none→ρ' id=⟨[],0⟩)(hρs:∀id old,Ahi S.src id=some (some old)→ρ' id=ρ old) :
  ∀{ps:List Are} {cs:List Acw} {σ σ':DSt} {v:Bmy ps} {rs:List Value},Bm0 hp ps cs σ=some (v,σ')→Arb hp σ→Le σ' S→Ac9 (Acp F ρ hp) cs rs→Ac9 (Acp F' ρ' hp') (Bxr ps v) rs
 |[],[],_,_,_,rs,_,_,_,hr=>by have:=hr.nil_left;subst this;trivial
 |[],_::_,_,_,_,_,h,_,_,_=>by cases h
 | _::_,[],_,_,_,_,h,_,_,_=>by cases h
 |p::r,c::cs,σ,σ',v,rs,h,hs,hle,hr=>by
  simp only[Bm0]at h
  split at h
  ·rename_i h1
   split at h
   ·rename_i h2
    cases h
    obtain⟨b,rs',rfl,hr1,hr2⟩:=hr.cons_left
    obtain⟨a,_⟩:=Crx h1 hs
    obtain⟨_,d⟩:=Btr h2 a
    exact⟨C59 hh hF hl hN hρn hρs h1 hs (d.trans hle) hr1,B3l hh hF hl hN hρn hρs h2 a hle hr2⟩
   ·cases h
  ·cases h
theorem Dg9(hh:Adn F ρ hp W)(hF:∀b o,F b=some o→F' b=some o)(hl:∀id,id∈S.fz→∀k,k∈(ρ id).bs→F' k=W.heap[k]?)(hN:Cnb hp hp' S.src)(hρn:∀id,Ahi S.src id=some none→ρ' id=⟨[],0⟩)(hρs:∀id old,Ahi S.src id=some (some old)→ρ' id=ρ old){p:Ac4}{x:AV}{σ σ':DSt}{v:p.den}{r:Value}(h:Crp hp p x σ=some (v,σ'))(hs:Arb hp σ)(hle:Le σ' S)(hr:RV F ρ hp x r):RV F' ρ' hp' (C61 p v) r:=by
 unfold Crp at h
 split at h
 ·exact C59 hh hF hl hN hρn hρs h hs hle hr
 ·obtain⟨rs,rfl,h2⟩:=hr
  exact⟨rs,rfl,B3l hh hF hl hN hρn hρs h hs hle h2⟩
 ·cases h
end
theorem C0x{F:Fz}{ρ:Rho}{hp:Aaq}{k:IntKind}:∀{m:List (Int×Acw)} {es:List MapEntry},Ac9 (Cd1 F ρ hp k) m es→Ac9 (Acp F ρ hp) (C62 m) (es.map (·.val))
 |[],es,h=>by have:=h.nil_left;subst this;trivial
 |p::m,es,h=>by
  obtain⟨e,es,rfl,⟨h1,h2⟩,h3⟩:=h.cons_left
  exact⟨h2,C0x h3⟩
theorem C6a{F F':Fz}{ρ ρ':Rho}{hp hp':Aaq}{k:IntKind}:∀{m:List (Int×Acw)} {es:List MapEntry} {ks:List Int} {cs:List Acw},Czl m ks=true→Ac9 (Cd1 F ρ hp k) m es→Ac9 (Acp F' ρ' hp') cs (es.map (·.val))→
  Ac9 (Cd1 F' ρ' hp' k) (Dc9 ks cs) es
 |[],es,ks,cs,hk,h,hc=>by
  have:=h.nil_left;subst this
  cases ks with
  |nil=>trivial
  |cons=>cases hk
 |p::m,es,ks,cs,hk,h,hc=>by
  obtain⟨e,es,rfl,⟨h1,h2⟩,h3⟩:=h.cons_left
  cases ks with
  |nil=>cases hk
  |cons q ks=>
   simp only[Czl]at hk
   split at hk
   ·rename_i hd
    simp only[decide_eq_true_eq]at hd
    cases cs with
    |nil=>exact hc.elim
    |cons c cs=>exact⟨⟨by rw[←hd];exact h1,hc.1⟩,C6a hk h3 hc.2⟩
   ·cases hk
theorem Dha{n:Nat}{g:List Bool}{p:Aac}{st:ASt}{x:p.den}(h:Ddg p st=some x){F:Fz}{ρ:Rho}{a:Act}{W:World}(hi:A0a n F ρ st a W) :
  An9 n g F ρ st.hp a W (Aab p x) a W:=by
 unfold Ddg at h
 split at h
 case h_2=>cases h
 rename_i x' hdec
 split at h
 case h_2=>cases h
 rename_i himp
 cases h
 unfold Djy at hdec
 split at hdec
 case h_2=>cases hdec
 rename_i xe σ1 h1
 split at hdec
 case h_2=>cases hdec
 rename_i xh σ2 h2
 split at hdec
 case h_2=>cases hdec
 rename_i hn
 cases hdec
 have himps:∀(l:List (Nat×Afi)) i o,Ahi (Bta l) i=some o→o=some i:=by
  intro l
  induction l with
  |nil=>intro i o h;cases h
  |cons q r ih=>
   obtain⟨id,b⟩:=q
   intro i o h
   simp only[Bta]at h
   split at h
   ·exact ih i o h
   ·rw[Atk]at h
    split at h
    ·rename_i e;cases h;rw[e]
    ·exact ih i o h
 have s0:Arb st.hp ⟨Bta p.hp,[]⟩:=⟨fun i j o h k=>(by have a:=himps _ _ _ h;have b:=himps _ _ _ k;cases a;cases b;rfl),fun i o _ h=>himps _ _ _ h,fun z hz=>(by simp at hz)⟩
 obtain⟨d1,l1,e1⟩:=Cu5 h1 s0
 obtain⟨d2,l2,e2,e3⟩:=C0w h2 d1
 simp only[C5y,Bool.and_eq_true,List.all_eq_true]at hn
 obtain⟨⟨n1,n2⟩,n3⟩:=hn
 have hh:=hi.heap
 let hp':Aaq:=Bde p.hp xh
 have nm:∀id o,Ahi σ2.src id=some o→∃b,hp' id=some b:=fun id o h=>e3 id (Ajm.1 (n1 _ (Bsv h)))
 obtain⟨hN,hN'⟩:=Ddh e2 nm
 have notfz:∀id old,Ahi σ2.src id=some (some old)→old∉σ2.fz:=by
  intro id old h hm
  have:=n2 _ (Bsv h)
  simp only[Ajm.2 hm,Bool.not_true,Bool.false_eq_true]at this
 let ρ':Rho:=fun id=>match Ahi σ2.src id with|some (some old)=>ρ old | _=>⟨[],0⟩
 have hρs:∀id old,Ahi σ2.src id=some (some old)→ρ' id=ρ old:=fun id old h=>by simp only[ρ',h]
 have hρn:∀id,Ahi σ2.src id=some none→ρ' id=⟨[],0⟩:=fun id h=>by simp only[ρ',h]
 have hF:∀b o,F b=some o→(if ∃id,id∈σ2.fz∧b∈(ρ id).bs then W.heap[b]? else F b)=some o:=by
  intro b o h
  split
  ·exact hh.fz b o h
  ·exact h
 let F':Fz:=⟨fun k=>if ∃id,id∈σ2.fz∧k∈(ρ id).bs then W.heap[k]? else F k,F.2.up hF⟩
 have hl:∀id,id∈σ2.fz→∀k,k∈(ρ id).bs→F' k=W.heap[k]?:=fun id hid k hk=>if_pos ⟨id,hid,hk⟩
 have back:∀{id b k},hp' id=some b→k∈(ρ' id).bs→∃old b0,Ahi σ2.src id=some (some old)∧st.hp old=some b0∧b0.fz=false∧k∈(ρ old).bs:=by
  intro id b k hb hk
  obtain⟨o,h1,h2⟩:=hN' id b hb
  rcases h2 with ⟨rfl,_⟩|⟨old,rfl⟩
  ·rw[hρn id h1]at hk;simp at hk
  ·rw[hρs id old h1]at hk
   obtain⟨b0,b',k1,k2,k3⟩:=hN.2 id old h1
   refine⟨old,b0,h1,k1,?_,hk⟩
   cases b0 with
   |cells=>rfl
   |amap=>rfl
   |fmap=>rfl
   |row E t v fz xs=>exact k3.1
 refine⟨rfl,F',ρ',⟨hi.size,fun s=>?_,⟨?_,?_,?_,?_⟩⟩,⟨rfl,rfl,rfl,Nat.le_refl _,fun _ _ _=>rfl,?_,hF,?_,?_⟩⟩
 ·show RV F' ρ' hp' (Bgx p.env xe s) _
  rcases e1 s with e|⟨q,v,σa,σb,k1,k2,k3,k4⟩
  ·rw[e];exact RV.undef
  ·rw[k4]
   exact Dg9 hh hF hl hN hρn hρs k1 k2 (k3.trans l2) (hi.env s)
 ·intro id b hb
  obtain⟨q,v,σa,σb,k1,k2,k3,rfl⟩:=e2 id b hb
  have hle:=(Cry k1 k2).2.trans k3
  have k1':=k1
  unfold Bo5 at k1
  split at k1
  ·split at k1
   ·rename_i old hg
    split at k1
    ·rename_i T' xs ho
     split at k1
     ·rename_i e
      have e:=Ab4 e;subst e
      obtain⟨bb,rs,fr,j1,j2,j3,j4⟩:=hh.blocks _ _ ho
      exact⟨bb,rs,fr,by rw[hρs _ _ (hle.src _ _ hg)];exact j1,j2,j3,B3l hh hF hl hN hρn hρs k1 k2 k3 j4⟩
     ·cases k1
    ·cases k1
   ·cases k1
  ·split at k1
   ·rename_i hg
    cases k1
    exact .inl ⟨by rw[hρn _ (hle.src _ _ hg)],rfl,by rw[hρn _ (hle.src _ _ hg)]⟩
   ·rename_i old hg
    split at k1
    ·rename_i E' t' ver xs ho
     split at k1
     ·split at k1
      ·rename_i e _ et
       have e:=Ab4 e;subst e
       subst et
       cases k1
       have er:=hρs _ _ (hle.src _ _ hg)
       rcases hh.blocks _ _ ho with ⟨j1,j2,j3⟩|⟨bb,rs,fr,j1,j2,j3,j4,j5,j6,j7⟩
       ·exact .inl ⟨by rw[er];exact j1,j2,by rw[er];exact j3⟩
       ·exact .inr ⟨bb,rs,fr,by rw[er];exact j1,j2,j3,by rw[er];exact j4,by rw[er];exact j5,fun i hi=>(j6 i hi).mono hF,fun h=>by cases h⟩
      ·cases k1
     ·cases k1
    ·cases k1
   ·cases k1
  ·split at k1
   ·rename_i old hg
    split at k1
    ·rename_i T' kt' et' m ho
     split at k1
     ·split at k1
      ·split at k1
       ·rename_i e ek ee
        have e:=Ab4 e;subst e
        subst ek;subst ee
        cases k1
        obtain⟨bb,es,clk,j1,j2,j3⟩:=hh.blocks _ _ ho
        exact⟨bb,es,clk,by rw[hρs _ _ (hle.src _ _ hg)];exact j1,j2,j3.mono fun _ _ ⟨p,q⟩=>⟨p.mono hF,q.mono hF⟩⟩
       ·cases k1
      ·cases k1
     ·cases k1
    ·cases k1
   ·cases k1
  ·split at k1
   ·rename_i old hg
    split at k1
    ·rename_i T' k' m ho
     split at k1
     ·rename_i e ek
      simp only[Bool.and_eq_true,decide_eq_true_eq]at e ek
      obtain⟨e,e'⟩:=e
      have e:=Ab4 e;subst e;subst e'
      obtain⟨bb,es,clk,j1,j2,j3⟩:=hh.blocks _ _ ho
      have hv:=B3l hh hF hl hN hρn hρs k1 k2 k3 (C0x j3)
      exact⟨bb,es,clk,by rw[hρs _ _ (hle.src _ _ hg)];exact j1,j2,C6a ek.1 j3 hv⟩
     ·cases k1
    ·cases k1
   ·cases k1
 ·intro i j x y k hx hy hki hkj
  obtain⟨oi,bi,a1,a2,a3,a4⟩:=back hx hki
  obtain⟨oj,bj,b1,b2,b3,b4⟩:=back hy hkj
  have:=hh.inj oi oj bi bj k a2 b2 a4 b4
  subst this
  exact d2.inj i j oi a1 b1
 ·intro b o h
  simp only[F']at h
  split at h
  ·exact h
  ·exact hh.fz b o h
 ·rintro k ⟨id,b,hb,_,hk⟩
  obtain⟨old,b0,a1,a2,a3,a4⟩:=back hb hk
  simp only[F']
  rw[if_neg]
  ·exact hh.apart k ⟨old,b0,a2,a3,a4⟩
  ·rintro⟨z,hz,hkz⟩
   obtain⟨E,t,ver,fz,xs,hrow⟩:=d2.rows z hz
   have:=hh.inj old z b0 _ k a2 hrow a4 hkz
   subst this
   exact notfz _ _ a1 hz
 ·rintro k ⟨id,b,hb,_,hk⟩
  obtain⟨old,b0,a1,a2,a3,a4⟩:=back hb hk
  exact .inl ⟨old,b0,a2,a3,a4⟩
 ·intro k hk
  simp only[F']at hk
  split at hk
  ·rename_i hz
   obtain⟨z,hz,hkz⟩:=hz
   obtain⟨E,t,ver,fz,xs,hrow⟩:=d2.rows z hz
   cases fz with
   |false=>exact .inr (.inl ⟨z,_,hrow,rfl,hkz⟩)
   |true=>
    left
    rcases hh.blocks z _ hrow with ⟨j1,_⟩|⟨bb,rs,fr,j1,j2,_,_,_,_,j7⟩
    ·rw[j1]at hkz;simp at hkz
    ·rw[j1]at hkz;simp at hkz;subst hkz
     rw[j7 rfl];simp
  ·exact .inl hk
 ·intro id hlt blk hblk
  have hm:id∈p.hp.map (·.1):=by
   have:=List.all_eq_true.1 himp id (List.mem_range.2 hlt)
   rw[hblk]at this
   exact Ajm.1 this
  obtain⟨b,hb⟩:=e3 id hm
  obtain⟨o,h1,h2⟩:=hN' id b hb
  have:=d2.low id o hlt h1
  subst this
  obtain⟨b0,b',k1,k2,k3⟩:=hN.2 id id h1
  rw[hblk]at k1;cases k1
  refine⟨b',k2,?_⟩
  rw[hρs id id h1]
  cases blk with
  |cells T cs=>
   cases b' with
   |cells T' cs'=>exact⟨k3.1,k3.2,rfl⟩
   |row=>exact k3.elim
   |amap=>exact k3.elim
   |fmap=>exact k3.elim
  |row E t v fz xs=>
   obtain⟨rfl,rfl⟩:=k3
   exact⟨rfl,rfl,rfl,fun _=>⟨rfl,rfl⟩⟩
  |amap T kt et m=>
   have:b' = .amap T kt et m:=k3
   subst this
   exact⟨rfl,rfl,rfl,rfl⟩
  |fmap T k m=>
   cases b' with
   |fmap T' k' m'=>exact⟨k3.1,k3.2,rfl⟩
   |cells=>exact k3.elim
   |row=>exact k3.elim
   |amap=>exact k3.elim
def Bts(E:TypeId)(t:Ty)(f:A47):Aa1→A47
 | .cells T cs=>match Czr E t T cs with
  |some xs=>⟨f.bs,xs.length⟩
  |none=>f
 | _=>f
theorem C7d(E:TypeId)(t:Ty)(f:A47)(b:Aa1):(Cm9 E t b=b∧Bts E t f b=f)∨
  ∃T cs xs n,b = .cells T cs∧Bmx t n cs=some xs∧2≤n∧Cm9 E t b = .row T t 0 false xs∧Bts E t f b=⟨f.bs,xs.length⟩:=by
 cases b with
 |row=>exact .inl ⟨rfl,rfl⟩
 |amap=>exact .inl ⟨rfl,rfl⟩
 |fmap=>exact .inl ⟨rfl,rfl⟩
 |cells T cs=>
  simp only[Cm9,Bts]
  cases h:Czr E t T cs with
  |none=>exact .inl ⟨rfl,rfl⟩
  |some xs=>
   right
   unfold Czr at h
   split at h
   ·rename_i hc
    simp only[Bool.and_eq_true]at hc
    exact⟨T,cs,xs,_,rfl,h,Nat.le_of_ble_eq_true hc.2,rfl,rfl⟩
   ·cases h
theorem Dhb{n:Nat}{g:List Bool}{E:TypeId}{t:Ty}{st:ASt}{F:Fz}{ρ:Rho}{a:Act}{W:World}(hi:A0a n F ρ st a W) :
  An9 n g F ρ st.hp a W ⟨st.env,Bc6 E t st.hp⟩ a W:=by
 let ρ':Rho:=fun i=>match Nat.ble 32 i,st.hp i with
  |true,some b=>Bts E t (ρ i) b
  | _,_=>ρ i
 have hh:=hi.heap
 have key:∀i b,st.hp i=some b→∃b',Bc6 E t st.hp i=some b'∧((b'=b∧ρ' i=ρ i)∨(32≤i∧∃T cs xs n,b = .cells T cs∧Bmx t n cs=some xs∧2≤n∧b' = .row T t 0 false xs∧ρ' i=⟨(ρ i).bs,xs.length⟩)):=by
  intro i b hb
  cases hlt:Nat.ble 32 i with
  |false=>exact⟨b,by simp only[Bc6,hlt];exact hb,.inl ⟨rfl,by simp only[ρ',hlt]⟩⟩
  |true=>
   refine⟨Cm9 E t b,by simp only[Bc6,hlt,hb],?_⟩
   have hr:ρ' i=Bts E t (ρ i) b:=by simp only[ρ',hlt,hb]
   rw[hr]
   rcases C7d E t (ρ i) b with ⟨h1,h2⟩|⟨T,cs,xs,n,h1,h2,h3,h4,h5⟩
   ·exact .inl ⟨h1,h2⟩
   ·exact .inr ⟨Nat.le_of_ble_eq_true hlt,T,cs,xs,n,h1,h2,h3,h4,h5⟩
 have back:∀i b',Bc6 E t st.hp i=some b'→∃b,st.hp i=some b:=by
  intro i b' h
  simp only[Bc6]at h
  split at h
  ·split at h
   ·rename_i b hb;exact⟨b,hb⟩
   ·cases h
  ·exact⟨b',h⟩
 have bsame:∀i,(ρ' i).bs=(ρ i).bs:=by
  intro i
  cases hb:st.hp i with
  |none=>
   have:ρ' i=ρ i:=by
    simp only[ρ',hb]
    split
    ·rename_i h;cases h
    ·rfl
   rw[this]
  |some b=>
   obtain⟨b',_,h|⟨_,_,_,_,_,_,_,_,_,h⟩⟩:=key i b hb
   ·rw[h.2]
   ·rw[h]
 have hlen:∀{cs:List Acw} {xs:List t.den} {n:Nat} {rs:List Value},Bmx t n cs=some xs→Ac9 (Acp F ρ st.hp) cs rs→xs.length=n:=fun h k=>(Btm h k).1
 have keep:∀i x,st.hp i=some x→∃y,Bc6 E t st.hp i=some y∧Avp (ρ i) x (ρ' i) y:=by
  intro i x hx
  obtain⟨b',hb',h|⟨_,T,cs,xs,n,rfl,h2,h3,h4,h5⟩⟩:=key i x hx
  ·refine⟨b',hb',?_⟩
   rw[h.1,h.2];exact Avp.refl _ _
  ·refine⟨b',hb',?_⟩
   subst h4
   obtain⟨_,rs,_,_,_,_,h6⟩:=hh.blocks i _ hx
   have:=hlen h2 h6
   exact⟨Nat.le_refl _,fun h=>(by cases h),fun _=>⟨by rw[h5],by omega⟩⟩
 have fzsame:∀i b b',st.hp i=some b→Bc6 E t st.hp i=some b'→b'.fz=b.fz:=by
  intro i b b' hb hb'
  obtain⟨b2,h1,h|⟨_,T,cs,xs,n,rfl,_,_,h4,_⟩⟩:=key i b hb
  ·rw[h1]at hb';cases hb';rw[h.1]
  ·rw[h1]at hb';cases hb';rw[h4];rfl
 refine⟨rfl,F,ρ',⟨hi.size,fun s=>RV.mono (fun _ _ h=>h) keep (hi.env s),⟨?_,?_,hh.fz,?_⟩⟩,⟨rfl,rfl,rfl,Nat.le_refl _,fun _ _ _=>rfl,?_,fun _ _ h=>h,fun _ h=>.inl h,?_⟩⟩
 ·intro i b' hb'
  replace hb':Bc6 E t st.hp i=some b':=hb'
  obtain⟨b,hb⟩:=back i b' hb'
  obtain⟨b2,h1,h|⟨_,T,cs,xs,n,rfl,h2,h3,h4,h5⟩⟩:=key i b hb
  ·rw[h1]at hb';cases hb'
   rw[h.1]
   exact BR.mono (fun _ _ h=>h) keep h.2 (fun _ _=>rfl) (hh.blocks i b hb)
  ·rw[h1]at hb';cases hb'
   subst h4
   obtain⟨bb,rs,fr,j1,j2,j3,j4⟩:=hh.blocks i _ hb
   obtain⟨k1,k2,k3⟩:=Btm h2 j4
   refine .inr ⟨bb,rs,fr,by rw[h5];exact j1,j2,j3,?_,by rw[h5];exact Nat.le_refl _,fun j hj=>?_,fun h=>by cases h⟩
   ·rw[h5]
    show rs.size=xs.length*t.size
    rw[k1]
    simpa using k2
   ·have:=k3 j (by omega)
    simpa [Ahc]using this
 ·intro i j x y k hx hy hki hkj
  obtain⟨bx,hbx⟩:=back i x hx
  obtain⟨by_,hby⟩:=back j y hy
  rw[bsame]at hki hkj
  exact hh.inj i j bx by_ k hbx hby hki hkj
 ·rintro k ⟨i,b',hb',hz,hk⟩
  obtain⟨b,hb⟩:=back i b' hb'
  rw[bsame]at hk
  exact hh.apart k ⟨i,b,hb,by rw[←fzsame i b b' hb hb'];exact hz,hk⟩
 ·rintro k ⟨i,b',hb',hz,hk⟩
  obtain⟨b,hb⟩:=back i b' hb'
  rw[bsame]at hk
  exact .inl ⟨i,b,hb,by rw[←fzsame i b b' hb hb'];exact hz,hk⟩
 ·intro i hlt blk hblk
  obtain⟨b2,h1,h|⟨hge,_⟩⟩:=key i blk hblk
  ·refine⟨b2,h1,?_⟩
   rw[h.1,h.2];exact Evo.refl _ _ _
  ·omega
theorem Bld{n:Nat}{g:List Bool}{a:Act}{W:World}:∀{l:List (Nat×Afi)} {st:ASt} {F:Fz} {ρ:Rho},A0a n F ρ st a W→An9 n g F ρ st.hp a W (Cd3 l st) a W
 |[],st,F,ρ,hi=>⟨rfl,F,ρ,hi,Ext.refl _ _ _ _ _⟩
 |(id,.row E t)::r,st,F,ρ,hi=>by
  simp only[Cd3]
  split
  ·obtain⟨h0,F1,ρ1,h1,h2⟩:=Dhb (g:=g) (E:=E) (t:=t) hi
   obtain⟨k0,F2,ρ2,k1,k2⟩:=Bld (g:=g) (l:=r) h1
   exact⟨k0.trans h0,F2,ρ2,k1,h2.trans k2⟩
  ·exact Bld hi
 |(id,.cells _ _)::r,st,F,ρ,hi=>Bld (l:=r) hi
 |(id,.amap _ _ _)::r,st,F,ρ,hi=>Bld (l:=r) hi
 |(id,.fmap _ _ _ _)::r,st,F,ρ,hi=>Bld (l:=r) hi
theorem B1a{n:Nat}{g:List Bool}{p:Aac}{st:ASt}{x:p.den}(h:dec p st=some x){F:Fz}{ρ:Rho}{a:Act}{W:World}(hi:A0a n F ρ st a W) :
  An9 n g F ρ st.hp a W (Aab p x) a W:=by
 obtain⟨h0,F1,ρ1,h1,h2⟩:=Bld (g:=g) (l:=p.hp) hi
 obtain⟨k0,F2,ρ2,k1,k2⟩:=Dha (g:=g) h h1
 exact⟨k0.trans h0,F2,ρ2,k1,h2.trans k2⟩
end
end Go.AX
namespace Go.AX
noncomputable section
abbrev Aar(p:Aac):=(R:Type)→p.den→(Ex→ASt→Option R)→Option R
def Aaa(p:Aac)(G:Aar p):Abu:=fun R st K=>match dec p st with
 |some x=>G R x K
 |none=>none
theorem Dar{P:Program}{n:Nat}{g:List Bool}{c:Code}{p:Aac}{G:Aar p}(h:∀R x K r,G R x K=some r→∃e st',K e st'=some r∧Cd2 P n g c (Aab p x) e st'):Aba P n g c (Aaa p G):=by
 intro R st K r hF
 unfold Aaa at hF
 split at hF
 case h_2=>cases hF
 rename_i x hx
 obtain⟨e,st',h1,h2⟩:=h R x K r hF
 refine⟨e,st',h1,fun F ρ hp a0 W0 a W hl=>?_⟩
 exact h2 F ρ hp a0 W0 a W (An9.trans hl fun F1 ρ1 hs=>B1a hx hs)
theorem Cd2.out{P:Program}{n:Nat}{g:List Bool}{c:Code}{st st1:ASt}{e:Ex}{p:Aac}{y:p.den}(h:Cd2 P n g c st e st1)(hy:dec p st1=some y):Cd2 P n g c st e (Aab p y):=by
 intro F ρ hp a0 W0 a W hl
 refine wp_mono (h F ρ hp a0 W0 a W hl) ?_
 rintro x a' W' ⟨rfl,hl'⟩
 ·exact⟨rfl,An9.trans hl' fun F1 ρ1 hs=>B1a hy hs⟩
section
variable {P:Program} {tt:TT} {Γ:FuncId→Option Aae} {g:List Bool} {n:Nat} {Λ:Nat→Option Abu} {dom:Nat→Bool}
end
def Df8:(p:Ac4)→p.den→V1
 | .one c,v=>.one (B3c c v)
 | .agg cs,v=>.agg (Bxr cs v)
def Bpb:(ps:List (Nat×Ac4))→Btk ps→List V1
 |[],_=>[]
 |(_,p)::r,v=>Df8 p v.1::Bpb r v.2
def A70:(ps:List (Nat×Afi))→Bmz ps→List Aa1
 |[],_=>[]
 |(_,p)::r,v=>Crm p v.1::A70 r v.2
def Czs(st:ASt)(vs:List AV):ASt:=⟨Czn vs,st.hp⟩
theorem Chc:∀{ps:List (Nat×Afi)} {y:Bmz ps},(A70 ps y).length=ps.length
 |[],_=>rfl
 | _::r,y=>by simp[A70,Chc (ps:=r)]
theorem B8x:∀{ps:List (Nat×Afi)} {y:Bmz ps} {id i:Nat},A2n id (ps.map (·.1)) 0=some i→Bde ps y id=(A70 ps y)[i]?
 |[],_,_,_,h=>by cases h
 |(t,p)::r,y,id,i,h=>by
  simp only[List.map_cons,A2n]at h
  simp only[Bde,A70]
  split at h
  ·rename_i e;cases h;(try rw[e]);rfl
  ·rename_i e
   (try rw[e])
   have shift:∀(l:List Nat) (a b k:Nat),A2n id l (a+1)=some k→A2n id l a=some (k-1)∧a+1≤k:=by
    intro l
    induction l with
    |nil=>intro a b k h;cases h
    |cons x l ih=>
     intro a b k h
     simp only[A2n]at h ⊢
     split at h
     ·cases h;simp
     ·obtain⟨h1,h2⟩:=ih (a+1) b k h
      exact⟨h1,by omega⟩
   obtain⟨h1,h2⟩:=shift _ 0 0 i h
   have:=B8x (y:=y.2) h1
   (try simp only)
   rw[this]
   have:i=(i-1)+1:=by omega
   rw[this];simp
theorem B3m:∀{ps:List (Nat×Afi)} {y:Bmz ps} {id:Nat},id∉ps.map (·.1)→Bde ps y id=none
 |[],_,_,_=>rfl
 |(t,p)::r,y,id,h=>by
  simp only[List.map_cons,List.mem_cons,not_or]at h
  simp only[Bde,A7x h.1]
  exact B3m h.2
theorem Ddi{ps:List (Nat×Afi)}{nb m:Nat}(hn:ps.map (·.1)=List.range nb++(List.range m).map (32 + ·))(hnb:nb≤32)(y:Bmz ps):Bde ps y=Ahb ((A70 ps y).take nb) ((A70 ps y).drop nb):=by
 have nd:(ps.map (·.1)).Nodup:=by
  rw[hn,List.nodup_append]
  refine⟨List.nodup_range,?_,?_⟩
  ·rw[List.nodup_iff_pairwise_ne,List.pairwise_map]
   have:=List.nodup_range (n:=m)
   rw[List.nodup_iff_pairwise_ne]at this
   exact this.imp fun {a b} h e=>h (by omega)
  ·intro a ha b hb
   simp only[List.mem_map,List.mem_range]at ha hb
   obtain⟨c,_,rfl⟩:=hb
   omega
 have hlen:ps.length=nb+m:=by
  have:=congrArg List.length hn
  simpa using this
 have bl:=Chc (ps:=ps) (y:=y)
 funext id
 simp only[Ahb]
 cases e:Nat.ble 32 id with
 |false=>
  have hlt:id<32:=by
   rcases Nat.lt_or_ge id 32 with h|h
   ·exact h
   ·rw[Nat.ble_eq_true_of_le h]at e;cases e
  simp only
  by_cases h:id<nb
  ·have:(ps.map (·.1))[id]? = some id:=by
    rw[hn,List.getElem?_append_left (by simpa using h)]
    simp[h]
   rw[B8x (Bgg (i:=0) nd this)]
   simp[h]
  ·rw[B3m,List.getElem?_eq_none]
   ·simp;omega
   ·rw[hn]
    simp only[List.mem_append,List.mem_range,List.mem_map,not_or,not_exists,not_and]
    exact⟨h,fun x _=>by omega⟩
 |true=>
  have hle:=Nat.le_of_ble_eq_true e
  simp only
  by_cases h:id-32<m
  ·have:(ps.map (·.1))[nb+(id-32)]? = some id:=by
    rw[hn,List.getElem?_append_right (by simp)]
    simp[h];omega
   rw[B8x (Bgg (i:=0) nd this)]
   simp[List.getElem?_drop]
  ·rw[B3m,List.getElem?_eq_none]
   ·simp;omega
   ·rw[hn]
    simp only[List.mem_append,List.mem_range,List.mem_map,not_or,not_exists,not_and]
    exact⟨by omega,fun x hx=>by omega⟩
theorem Dhc:∀(p:Ac4) (v:p.den),C61 p v = .v (Df8 p v)
 | .one _,_=>rfl
 | .agg _,_=>rfl
theorem C0y:∀{ps:List (Nat×Ac4)} {y:Btk ps} {k m:Nat},ps.map (·.1)=(List.range m).map (k + ·)→(∀i,i<m→∃v,(Bpb ps y)[i]? = some v∧Bgx ps y (k+i) = .v v)∧(Bpb ps y).length=m
 |[],y,k,m,h=>by
  have:m=0:=by have:=congrArg List.length h;simpa using this.symm
  subst this
  exact⟨fun i hi=>by omega,rfl⟩
 |(t,p)::r,y,k,m,h=>by
  cases m with
  |zero=>simp at h
  |succ m=>
   rw[List.range_succ_eq_map,List.map_cons,List.map_cons]at h
   simp only[List.cons.injEq,Nat.add_zero]at h
   obtain⟨rfl,h2⟩:=h
   have h3:r.map (·.1)=(List.range m).map ((t+1) + ·):=by
    rw[h2,List.map_map]
    apply List.map_congr_left
    intro i _;simp[Function.comp];omega
   obtain⟨i1,i2⟩:=C0y (y:=y.2) h3
   refine⟨fun i hi=>?_,by simp[Bpb,i2]⟩
   cases i with
   |zero=>exact⟨_,rfl,by simp[Bgx,Dhc]⟩
   |succ i=>
    obtain⟨v,v1,v2⟩:=i1 i (by omega)
    refine⟨v,by simpa [Bpb]using v1,?_⟩
    simp only[Bgx]
    rw[A7x (by omega)]
    rw[show t+(i+1)=t+1+i by omega];exact v2
def C0z(tmps:Array Value):ResultVar→Sem Value:=fun
  | .tmp t=>pure (tmps.getD t undef)
  | .cell a t=>do loadVar t (←asAddr (tmps.getD a undef))
theorem C7e(fn:Func)(tmps:Array Value):results fn tmps=(do
 let vs ←fn.results.mapM (C0z tmps)
 pure (if h:vs.size=1 then vs[0] else .tuple vs)):=rfl
def Ddj:List Value→Value
 |[v]=>v
 |l=>.tuple l.toArray
theorem C4t{P:Program}{tt:TT}(htt:Aod P tt){n:Nat}{F:Fz}{ρ:Rho}{st:ASt}{a:Act}{W:World}(hs:A0a n F ρ st a W){fn:Func}{vs:List AV}(h:A7w tt st fn.results.toList=some vs) :
  ∃rs:List Value,(results fn a.tmps).run P W = .ok (Ddj rs) W∧Ac9 (RV F ρ st.hp) vs rs:=by
 have key:∀(l:List ResultVar) (vs:List AV),A7w tt st l=some vs→∃rs:List Value,(l.mapM (C0z a.tmps):Sem (List Value)).run P W=Result.ok rs W∧Ac9 (RV F ρ st.hp) vs rs:=by
  intro l
  induction l with
  |nil=>intro vs h;cases h;exact⟨[],by simp,trivial⟩
  |cons x l ih=>
   intro vs h
   cases x with
   |tmp t=>
    simp only[A7w]at h
    split at h
    ·rename_i l' hl;cases h
     obtain⟨rs,h1,h2⟩:=ih l' hl
     refine⟨a.tmps.getD t undef::rs,?_,hs.env t,h2⟩
     rw[List.mapM_cons]
     simp only[Sem.run_bind,h1,Result.andThen_ok,C0z,Sem.run_pure]
    ·cases h
   |cell t T=>
    simp only[A7w]at h
    split at h
    ·rename_i v l' hv hl;cases h
     obtain⟨rs,h1,h2⟩:=ih l' hl
     obtain⟨v',hv',hload⟩:=C0j htt hv
     cases hv'
     obtain⟨r,hr,hrv⟩:=hload F ρ st.hp W (a.tmps.getD t undef) hs.heap (fun _ _ h=>h) (hs.env t)
     refine⟨r::rs,?_,hrv,h2⟩
     rw[List.mapM_cons]
     have hx:(C0z a.tmps (.cell t T)).run P W = .ok r W:=by
      simp only[C0z]
      generalize a.tmps.getD t undef=q at hr
      cases q with
      |pointer p=>
       cases p with
       |some ad=>simpa [Instr.loadAt,Instr.sureAddr,asAddr]using hr
       |none=>simp[Instr.loadAt,Instr.sureAddr]at hr
      | _=>simp[Instr.loadAt,Instr.sureAddr]at hr
     simp only[Sem.run_bind,hx,h1,Result.andThen_ok,Sem.run_pure]
    ·cases h
 obtain⟨rs,h1,h2⟩:=key _ _ h
 refine⟨rs,?_,h2⟩
 rw[C7e,←Array.toArray_toList (xs:=fn.results)]
 rw[List.mapM_toArray]
 simp only[Sem.run_bind,Sem.run_map,h1,Result.andThen_ok,Sem.run_pure]
 congr 1
 match rs with
 |[]=>rfl
 |[a]=>rfl
 |a::b::r=>simp[Ddj]
def Dad.fin(P:Program)(F:Fz)(ρ:Rho)(W:World)(bl:List Aa1)(g:List Bool)(v:AV)(bl' nw:List Aa1)(r:Value)(W':World):Prop :=
 ∃F' ρ',RV F' ρ' (Ahb bl' nw) v r∧Adn F' ρ' (Ahb bl' nw) W'∧Ext g F ρ (Ahb bl []) W F' ρ' (Ahb bl' nw) W'
end
end Go.AX

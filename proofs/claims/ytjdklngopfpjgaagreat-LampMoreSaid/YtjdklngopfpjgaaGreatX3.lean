/- A reading of the model's code over typed data,proved sound: each operation is sound,the second half. -/
import Derived.Test.YtjdklngopfpjgaaGreatX2
import Derived.Laws.BytesString
namespace Go.AX
noncomputable section
section
variable {P:Program}
theorem Bpt{F:Fz}{t:Ty}{v:List t.den}{r:Value}(h:RC F (.list t) v [r]):∃A cap,r = .slice A v.length cap∧v.length≤cap∧(A=none→cap=0):=by
 obtain⟨A,cap,e,hl,hn,_⟩:=h
 cases e;exact⟨A,cap,rfl,hl,hn⟩
theorem C9u{tt:TT}(htt:Aj1 P tt){hq:Aam}{T:TypeId}{x:AV}{R:Type}{K:AV→Option R}{res:R}(h:C6r tt hq T x K=some res) :
  ∃v,K v=some res∧∀F ρ hp W rx (ats:Array TypeId) ty,ats.getD 0 0=T→0<ats.size→Abx F ρ hp W→(∀id b,hq id=some b→hp id=some b)→RV F ρ hp x rx→
   ∃r,(Builtin.len_ ats ty #[rx]).run P W = .ok r W∧RV F ρ hp v r:=by
 unfold C6r at h
 split at h
 case h_1=>cases h
 rename_i i hi
 obtain⟨u,hu,hm⟩:=(htt T i hi).under
 have at0:∀{ats:Array TypeId},ats.getD 0 0=T→0<ats.size→ats[0]? = some T:=by
  intro ats h hl
  simp[Array.getD_eq_getD_getElem?,hl]at h
  simp[hl,h]
 split at h
 ·rename_i E hd
  rw[hd]at hm
  cases u<;>simp[Abz]at hm
  subst hm
  have slc:∀{A l c ats ty W},ats.getD 0 0=T→0<ats.size→(Builtin.len_ ats ty #[.slice A l c]).run P W = .ok (.int .i64 l) W:=fun h1 h2=>by
   simp[Builtin.len_,at0 h1 h2,Aaj hu,goInt]
  split at h
  ·refine⟨_,h,fun F ρ hp W rx ats ty h1 h2 _ _ hx=>?_⟩
   simp only[RV,RV1,Abm,RA]at hx;subst hx
   exact⟨_,slc h1 h2,rfl⟩
  ·refine⟨_,h,fun F ρ hp W rx ats ty h1 h2 _ _ hx=>?_⟩
   obtain⟨A,rfl⟩:=hx
   exact⟨_,slc h1 h2,rfl⟩
  ·refine⟨_,h,fun F ρ hp W rx ats ty h1 h2 _ _ hx=>?_⟩
   obtain⟨A,cap,rfl,_⟩:=Bpt hx
   exact⟨_,slc h1 h2,rfl⟩
  ·refine⟨_,h,fun F ρ hp W rx ats ty h1 h2 _ _ hx=>?_⟩
   obtain⟨A,cap,rfl,_⟩:=Bpt hx.1
   exact⟨_,slc h1 h2,rfl⟩
  ·split at h
   case h_2=>cases h
   rename_i hb
   split at h
   case h_2=>cases h
   rename_i hv
   have hv:=Aa8 hv;subst hv
   refine⟨_,h,fun F ρ hp W rx ats ty h1 h2 _ hs hx=>?_⟩
   obtain⟨b,hb2,_,A,l,c,rfl,hc⟩:=hx
   rw[hs _ _ hb]at hb2;cases hb2
   obtain⟨rfl,_⟩:=hc rfl
   exact⟨_,slc h1 h2,rfl⟩
  ·split at h
   case h_2=>cases h
   rename_i hb
   split at h
   case h_2=>cases h
   rename_i hv
   have hv:=Aa8 hv;subst hv
   refine⟨_,h,fun F ρ hp W rx ats ty h1 h2 _ hs hx=>?_⟩
   obtain⟨b,hb2,_,A,l,c,rfl,hc⟩:=hx
   rw[hs _ _ hb]at hb2;cases hb2
   obtain⟨rfl,_⟩:=hc rfl
   exact⟨_,slc h1 h2,rfl⟩
  ·split at h
   case h_2=>cases h
   rename_i hb
   refine⟨_,h,fun F ρ hp W rx ats ty h1 h2 _ hs hx=>?_⟩
   obtain⟨b,hb2,A,l,c,rfl,hc⟩:=hx
   rw[hs _ _ hb]at hb2;cases hb2
   obtain⟨rfl,_⟩:=hc
   exact⟨_,slc h1 h2,rfl⟩
  ·cases h
 ·rename_i hd
  rw[hd]at hm
  cases u<;>simp[Abz]at hm
  split at h
  case h_2=>cases h
  rename_i xs
  refine⟨_,h,fun F ρ hp W rx ats ty h1 h2 _ _ hx=>?_⟩
  simp only[RV,RV1,Abm,RA,RC]at hx;cases hx
  refine⟨.int .i64 ((⟨(xs:List UInt8).toArray⟩:ByteArray).size:Nat),?_,?_⟩
  ·simp only[Builtin.len_,at0 h1 h2]
   simp[Aaj hu,goInt]
  ·simp only[RV,RV1,Abm,RA,RC];simp[ByteArray.size]
 ·rename_i hd
  rw[hd]at hm
  cases u<;>simp[Abz]at hm
  obtain⟨rfl,rfl⟩:=hm
  split at h
  ·refine⟨_,h,fun F ρ hp W rx ats ty h1 h2 _ _ hx=>?_⟩
   simp only[RV,RV1,Abm,RA]at hx;subst hx
   exact⟨.int .i64 0,by simp[Builtin.len_,at0 h1 h2,Aaj hu,goInt],rfl⟩
  ·split at h
   case h_2=>cases h
   rename_i hb
   refine⟨_,h,fun F ρ hp W rx ats ty h1 h2 hh hs hx=>?_⟩
   obtain⟨b1,bb,hb1,_,hbs,rfl⟩:=hx
   have hb':=hs _ _ hb
   rw[hb']at hb1;cases hb1
   obtain⟨bb',es,clk,i1,i2,i3⟩:=hh.blocks _ _ hb'
   rw[i1]at hbs;cases hbs
   have hl:=i3.length
   refine⟨.int .i64 (es.size:Nat),by simp[Builtin.len_,at0 h1 h2,Aaj hu,Ahu i2,goInt],?_⟩
   simp only[RV,RV1,Abm,RA,RC]
   simp at hl;rw[hl]
  ·cases h
 ·rename_i n0 E hd
  rw[hd]at hm
  cases u<;>simp[Abz]at hm
  rename_i n e
  obtain⟨rfl,rfl⟩:=hm
  refine⟨_,h,fun F ρ hp W rx ats ty h1 h2 hh hs hx=>?_⟩
  exact⟨.int .i64 (n:Nat),by simp[Builtin.len_,at0 h1 h2,Aaj hu,goInt],rfl⟩
 ·cases h
theorem Awp{x:AV}{n:Int}(h:Bcq x=some n){F:Fz}{ρ:Rho}{hp:Aam}{r:Value}(hr:RV F ρ hp x r):∃k,r = .int k n:=by
 unfold Bcq at h
 split at h
 ·cases h
  simp only[RV,RV1,Abm,RA,RC]at hr;cases hr;exact⟨_,rfl⟩
 ·cases h
theorem Bis{T E:TypeId}{f:TypeInfo}(hu:P.underlying T=some (.slice E))(hf:P.info? E=some f){b o l c:Nat}{k:IntKind}{i:Int}(hi:0≤i∧i<(l:Int))(W:World) :
  (Instr.indexAt T (.slice (some ⟨b,o,none⟩) l c) (.int k i)).run P W = .ok (.pointer (some ⟨b,o+i.toNat*f.size,none⟩)) W:=by
 simp[Instr.indexAt,asIntOf,Aaj hu,Agq hf,hi,Awo]
theorem Cfi{R:Type}{i:Int}{K:Nat→Option R}{res:R}:∀{n k:Nat},Ch3 i K n k=some res→∃j:Nat,i=(j:Int)∧(k≤j∧j<k+n)∧K j=some res
 |0,_,h=>by cases h
 |n+1,k,h=>by
  simp only[Ch3]at h
  split at h
  ·rename_i e;exact⟨k,e,⟨Nat.le_refl _,by omega⟩,h⟩
  ·obtain⟨j,h1,h2,h3⟩:=Cfi h
   exact⟨j,h1,⟨by omega,by omega⟩,h3⟩
theorem C35{hp:Aam}{n:Nat}{x:AV}{p:Nat×Nat}(h:Ctf hp n x=some p):x = .at (.ptr p.1 0 0 p.2)∧∃T cs,hp p.1=some (.cells T cs):=by
 unfold Ctf at h
 split at h
 ·split at h
  ·rename_i T cs hb
   split at h
   ·cases h;exact⟨rfl,T,cs,hb⟩
   ·cases h
  ·cases h
 ·cases h
theorem Cqa{tt:TT}(htt:Aj1 P tt){g:List Bool}{hq:Aam}{T:TypeId}{x:AV}{i:Int}{R:Type}{K:KD R}{res:R}(h:Bz7 tt hq T x i K=some res) :
  ∃l v,K l v=some res∧∀F ρ hp W rx k,Abx F ρ hp W→(∀id b,hq id=some b→hp id=some b)→Af5 g hp l=true→RV F ρ hp x rx→
   ∃r W',(Instr.indexAt T rx (.int k i)).run P W = .ok r W'∧Aif g F ρ hp W (Aa3 hp l) v r W':=by
 unfold Bz7 at h
 split at h
 case h_1=>cases h
 rename_i ti hi
 obtain⟨u,hu,hm⟩:=(htt T ti hi).under
 split at h
 ·rename_i E hd
  rw[hd]at hm
  cases u<;>simp[Abz]at hm
  subst hm
  split at h
  case h_1=>cases h
  rename_i ei hei
  obtain⟨fe,hfe,hse,_,_⟩:=(htt _ ei hei).info
  have frozen:∀{t:Ty} {xs:List t.den} (_:ei.size=t.size) (_:0≤i∧i<(xs.length:Int)) {F:Fz} {ρ:Rho} {hp:Aam} {W:World} {rx:Value} {k:IntKind},Abx F ρ hp W→RC F (.list t) xs [rx]→
    ∃r W',(Instr.indexAt T rx (.int k i)).run P W = .ok r W'∧Aif g F ρ hp W (Aa3 hp []) (.at (.fptr t xs i.toNat 0)) r W':=by
   intro t xs hsz hin F ρ hp W rx k hh hx
   obtain⟨A,cap,e,hl,hn,hc⟩:=hx
   cases e
   obtain⟨b,o,c,U,fr,rfl,hF,ho,hr⟩:=hc (by omega)
   have hlt:i.toNat<List.length xs:=by omega
   have hle:(i.toNat+1)*t.size≤List.length xs*t.size:=Nat.mul_le_mul_right _ hlt
   rw[Nat.add_mul,Nat.one_mul]at hle
   refine⟨_,W,Bis hu hfe hin W,Aif.val hh ⟨hlt,b,o+i.toNat*t.size,c,U,fr,?_,hF,by omega,hr _ hlt⟩⟩
   rw[hse,hsz];rfl
  split at h
  ·rename_i t xs
   split at h
   case h_2=>cases h
   rename_i hsz
   split at h
   case isFalse=>cases h
   rename_i hin
   exact⟨_,_,h,fun F ρ hp W rx k hh hs hg hx=>frozen (Aa8 hsz) hin hh hx⟩
  ·rename_i t xs
   split at h
   case h_2=>cases h
   rename_i hsz
   split at h
   case isFalse=>cases h
   rename_i hin
   exact⟨_,_,h,fun F ρ hp W rx k hh hs hg hx=>frozen (Aa8 hsz) hin hh hx.1⟩
  ·rename_i id ver
   split at h
   case h_2=>cases h
   rename_i E' t ver' fz xs hb
   split at h
   case h_2=>cases h
   rename_i hv hsz
   have hv:=Aa8 hv;subst hv
   have hsz:=Aa8 hsz
   split at h
   case isFalse=>cases h
   rename_i hin
   refine⟨_,_,h,fun F ρ hp W rx k hh hs hg hx=>?_⟩
   obtain⟨b,hb2,_,A,l,c,rfl,hc⟩:=hx
   have hb':=hs _ _ hb
   rw[hb']at hb2;cases hb2
   obtain⟨rfl,rfl,hA⟩:=hc rfl
   rcases hh.blocks id _ hb' with ⟨_,i2,_⟩|⟨bb,rs,fr,i1,i2,i3,i4,i5,i6,i7⟩
   ·subst i2;simp at hin;omega
   ·have:=hA bb i1;subst this
    refine⟨_,W,Bis hu hfe hin W,Aif.val hh ⟨_,hb',Nat.le_refl _,_,rfl,fun _=>⟨by omega,bb,i1,?_⟩⟩⟩
    rw[hse,hsz];simp
  ·rename_i id ver off len
   split at h
   case h_2=>cases h
   rename_i E' t ver' fz xs hb
   split at h
   case h_2=>cases h
   rename_i hv hsz
   have hv:=Aa8 hv;subst hv
   have hsz:=Aa8 hsz
   split at h
   case isFalse=>cases h
   rename_i hin
   refine⟨_,_,h,fun F ρ hp W rx k hh hs hg hx=>?_⟩
   obtain⟨b,hb2,_,A,l,c,rfl,hc⟩:=hx
   have hb':=hs _ _ hb
   rw[hb']at hb2;cases hb2
   obtain⟨e0,h2,h3,h4,hA⟩:=hc rfl
   subst l
   rcases hh.blocks id _ hb' with ⟨_,i2,_⟩|⟨bb,rs,fr,i1,i2,i3,i4,i5,i6,i7⟩
   ·subst i2;simp at h2;omega
   ·have hAA:=(hA bb i1).resolve_left (by omega)
    subst hAA
    refine⟨_,W,Bis hu hfe hin W,Aif.val hh ⟨_,hb',Nat.le_refl _,_,rfl,fun _=>⟨by omega,bb,i1,?_⟩⟩⟩
    rw[hse,hsz,←Nat.add_mul];simp
  ·rename_i id n
   split at h
   case h_2=>cases h
   rename_i T' cs hb
   obtain⟨k,hk,hin,hK⟩:=Cfi h
   refine⟨_,_,hK,fun F ρ hp W rx kk hh hs hg hx=>?_⟩
   obtain⟨b,hb2,A,l,c,rfl,hc⟩:=hx
   have hb':=hs _ _ hb
   rw[hb']at hb2;cases hb2
   obtain⟨e1,e2,bb,hbs,rfl⟩:=hc
   have hi2:0≤i∧i<(l:Int):=by omega
   refine⟨_,W,Bis hu hfe hi2 W,Aif.val hh ⟨_,hb',Nat.le_refl _,_,rfl,fun _=>⟨rfl,bb,hbs,?_⟩⟩⟩
   rw[hse]
   have:i.toNat=k:=by omega
   rw[this];simp
  ·cases h
 ·rename_i n0 E hd
  rw[hd]at hm
  cases u<;>simp[Abz]at hm
  rename_i n E1
  obtain⟨rfl,rfl⟩:=hm
  split at h
  case h_2=>cases h
  rename_i ei hei hn2
  have hn2:=Nat.le_of_ble_eq_true hn2
  obtain⟨fe,hfe,hse,_,_⟩:=(htt _ ei hei).info
  have run:∀{b o:Nat} {k:IntKind} {W:World},0≤i∧i<(n:Int)→(Instr.indexAt T (.pointer (some ⟨b,o,none⟩)) (.int k i)).run P W = .ok (.pointer (some ⟨b,o+i.toNat*fe.size,none⟩)) W:=by
   intro b o k W hin
   simp[Instr.indexAt,asIntOf,Aaj hu,Agq hfe,hin,Awo,Instr.sureAddr]
  split at h
  ·rename_i p hp0
   obtain⟨rfl,T',cs,hb⟩:=C35 hp0
   obtain⟨k,hk,hin,hK⟩:=Cfi h
   refine⟨_,_,hK,fun F ρ hp W rx kk hh hs hg hx=>?_⟩
   obtain⟨b,hb2,_,ad,rfl,hc⟩:=hx
   have hb':=hs _ _ hb
   rw[hb']at hb2;cases hb2
   obtain⟨_,bb,hbs,rfl⟩:=hc rfl
   refine⟨_,W,run (by omega),Aif.val hh ⟨_,hb',Nat.le_refl _,_,rfl,fun _=>⟨rfl,bb,hbs,?_⟩⟩⟩
   rw[hse]
   have:i.toNat=k:=by omega
   rw[this]
  rename_i hnone
  clear hnone
  split at h
  case h_2=>cases h
  rename_i id ver
  split at h
  ·rename_i E' t ver' fz xs hb
   split at h
   case h_2=>cases h
   rename_i hv hsz
   have hv:=Aa8 hv;subst hv
   have hsz:=Aa8 hsz
   split at h
   case isFalse=>cases h
   rename_i hin
   split at h
   case isFalse=>cases h
   rename_i hin2
   refine⟨_,_,h,fun F ρ hp W rx k hh hs hg hx=>?_⟩
   obtain⟨b,hb2,_,ad,rfl,hc⟩:=hx
   have hb':=hs _ _ hb
   rw[hb']at hb2;cases hb2
   obtain⟨hidx,bb,hbs,rfl⟩:=hc rfl
   refine⟨_,W,run hin,Aif.val hh ⟨_,hb',Nat.le_refl _,_,rfl,fun _=>⟨by omega,bb,hbs,?_⟩⟩⟩
   rw[hse,hsz];simp
  ·rename_i T' cs hb
   split at h
   case h_2=>cases h
   rename_i t ht
   split at h
   case h_2=>cases h
   rename_i xs hxs hv hsz
   have hv:=Aa8 hv;subst hv
   have hsz:=Aa8 hsz
   split at h
   case isFalse=>cases h
   rename_i hin
   refine⟨_,_,h,fun F ρ hp W rx k hh hs hg hx=>?_⟩
   obtain⟨b,hb2,_,ad,rfl,hc⟩:=hx
   have hb':=hs _ _ hb
   rw[hb']at hb2;cases hb2
   obtain⟨_,bb,hbs,rfl⟩:=hc rfl
   obtain⟨bb',rs,fr,h1,h2,h3,h4⟩:=hh.blocks id _ hb'
   rw[h1]at hbs;cases hbs
   obtain⟨j1,j2,j3⟩:=Bpr hxs h4
   have h32:¬id<32:=by
    intro hlt
    obtain⟨b0,h0,hm⟩:=(A65 hg).2 hlt
    rw[hb']at h0;cases h0
    exact hm
   have keep:Aml (ρ id) (.cells T' cs) ⟨[bb],n⟩ (.row T' t 0 false xs):=⟨Nat.le_refl _,fun h=>(by simp[Aau.isMap]at h),fun _=>⟨h1.symm,by omega⟩,trivial⟩
   refine⟨_,W,run hin,?_⟩
   have hpt:Ayk g F ρ hp W id ⟨[bb],n⟩ (.row T' t 0 false xs) W :=
    ⟨rfl,rfl,rfl,Nat.le_refl _,fun _ _ _=>rfl,fun k hk=>.inl ⟨_,hb',by rw[h1];exact hk⟩,fun b0 h0=>by (rw[hb']at h0;cases h0;exact⟨rfl,keep,fun hlt=>absurd hlt h32⟩),fun h=>by (rw[hb']at h;cases h),rfl,Alb hg⟩
   simp only[Aa3]
   refine hpt.good hh ?_ ⟨_,Afw _ _ _,Nat.le_refl _,_,rfl,fun _=>⟨by omega,bb,by simp,?_⟩⟩
   ·refine .inr ⟨bb,rs,fr,by simp,h2,h3,by simpa using j2,by simp;omega,fun j hj=>?_,fun h=>by cases h⟩
    have:=j3 j (by omega)
    simpa [Afk]using this
   ·rw[hse,hsz];simp
  ·cases h
 ·cases h
end
end
end Go.AX
namespace Go.AX
noncomputable section
section
variable {P:Program}
theorem Aze{k:IntKind}{i:Int}{y:Nat}{c:BoundsCode}(h:0≤i∧i≤(y:Int))(W:World):(Instr.sliceBound (.int k i) y c).run P W = .ok i.toNat W:=by
 simp[Instr.sliceBound,asIntOf,h]
structure A94(F:Fz)(ρ:Rho)(hp:Aam)(o:Option AV)(ro:Option Value):Prop where
 none:o=none ↔ ro=none
 some:∀v r,o=some v→ro=some r→RV F ρ hp v r
theorem Bcw{F:Fz}{ρ:Rho}{hp:Aam}{lo hi:Option AV}{rlo rhi:Option Value}(hlo:A94 F ρ hp lo rlo)(hhi:A94 F ρ hp hi rhi){isS:Bool}{len cap:Nat}{l h:Int}(h1:Are lo 0=some l)(h2:Are hi len=some h)(hh:0≤h∧h≤(len:Int))(hl:0≤l∧l≤h)(hcap:len≤cap)(W:World) :
  (Instr.sliceBounds isS len cap rlo rhi none).run P W = .ok (l.toNat,h.toNat,cap) W:=by
 have hhn:(h.toNat:Int)=h:=by omega
 cases hi with
 |none=>
  have hr:rhi=none:=hhi.none.1 rfl
  subst hr
  simp only[Are]at h2;cases h2
  cases lo with
  |none=>
   have hr:rlo=none:=hlo.none.1 rfl
   subst hr
   simp only[Are]at h1;cases h1
   simp[Instr.sliceBounds]
  |some v=>
   cases rlo with
   |none=>exact absurd (hlo.none.2 rfl) (by simp)
   |some r=>
    obtain⟨k,rfl⟩:=Awp (by simpa [Are]using h1) (hlo.some _ _ rfl rfl)
    simp[Instr.sliceBounds,Aze hl]
 |some v=>
  cases rhi with
  |none=>exact absurd (hhi.none.2 rfl) (by simp)
  |some r=>
   obtain⟨k,rfl⟩:=Awp (by simpa [Are]using h2) (hhi.some _ _ rfl rfl)
   have hc:0≤h∧h≤(cap:Int):=by omega
   cases lo with
   |none=>
    have hr:rlo=none:=hlo.none.1 rfl
    subst hr
    simp only[Are]at h1;cases h1
    simp[Instr.sliceBounds,Aze hc]
   |some v'=>
    cases rlo with
    |none=>exact absurd (hlo.none.2 rfl) (by simp)
    |some r'=>
     obtain⟨k',rfl⟩:=Awp (by simpa [Are]using h1) (hlo.some _ _ rfl rfl)
     have hl':0≤l∧l≤(h.toNat:Int):=by omega
     simp[Instr.sliceBounds,Aze hc,Aze hl']
theorem Dcd{F:Fz}{t:Ty}{xs:List t.den}{A:Option Addr}{cap l h:Nat}(hx:RC F (.list t) xs [.slice A xs.length cap])(hlh:l≤h)(hh:h≤xs.length) :
  RC F (.list t) ((xs.take h).drop l) [.slice (if cap=l then A else A.map (·.add (l*t.size))) (h-l) (cap-l)]:=by
 obtain⟨A',cap',e,hl,hn,hc⟩:=hx
 cases e
 have hlen:List.length ((xs.take h).drop l)=h-l:=by simp;omega
 refine⟨_,_,by rw[hlen],by rw[hlen];omega,fun e=>?_,fun hp=>?_⟩
 ·split at e
  ·omega
  ·cases A with
   |none=>have:=hn rfl;omega
   |some a=>simp at e
 ·rw[hlen]at hp
  obtain⟨b,o,c,T,fr,rfl,hF,ho,hr⟩:=hc (by omega)
  rw[if_neg (by omega)]
  have hle:h*t.size≤List.length xs*t.size:=Nat.mul_le_mul_right _ hh
  have elh:l+(h-l)=h:=Nat.add_sub_cancel' hlh
  have ebd:o+h*t.size≤c.size:=Nat.le_trans (Nat.add_le_add_left hle o) ho
  refine⟨b,o+l*t.size,c,T,fr,by simp[Awo],hF,?_,fun i hi=>?_⟩
  ·rw[hlen,Nat.add_assoc,←Nat.add_mul,elh];exact ebd
  ·rw[hlen]at hi
   have:=hr (l+i) (by omega)
   have e1:List.getD ((xs.take h).drop l) i t.dflt=List.getD xs (l+i) t.dflt:=by
    have:l+i<h:=by omega
    simp[List.getD_eq_getElem?_getD,List.getElem?_drop,this]
   rw[e1,Nat.add_assoc,←Nat.add_mul];exact this
theorem C36{tt:TT}(htt:Aj1 P tt){hq:Aam}{T:TypeId}{x:AV}{lo hi mx:Option AV}{R:Type}{K:AV→Option R}{res:R}(h:Ctg tt hq T x lo hi mx K=some res) :
  ∃v,K v=some res∧∀F ρ hp W rx rlo rhi rmx,Abx F ρ hp W→(∀id b,hq id=some b→hp id=some b)→RV F ρ hp x rx→A94 F ρ hp lo rlo→A94 F ρ hp hi rhi→A94 F ρ hp mx rmx→
   ∃r,(Instr.sliceAt T rx rlo rhi rmx).run P W = .ok r W∧RV F ρ hp v r:=by
 unfold Ctg at h
 split at h
 case h_1=>cases h
 rename_i ti hti
 obtain⟨u,hu,hm⟩:=(htt T ti hti).under
 split at h
 ·rename_i m
  split at h
  case h_2=>cases h
  rename_i E hd hh hm0
  rw[hd]at hm
  cases u<;>simp[Abz]at hm
  rename_i E1
  subst hm
  have zero:∀{F:Fz} {ρ:Rho} {hp:Aam} {W:World} {A:Option Addr} {l c:Nat} {rlo rhi rmx:Option Value} {f:TypeInfo},P.info? E1=some f→A94 F ρ hp none rlo→A94 F ρ hp hi rhi→A94 F ρ hp (some m) rmx→
    ∃A',(Instr.sliceAt T (.slice A l c) rlo rhi rmx).run P W = .ok (.slice A' 0 0) W:=by
   intro F ρ hp W A l c rlo rhi rmx f hf hlo hhi hmx
   have:=hlo.none.1 rfl
   subst this
   cases hi with
   |none=>simp at hh
   |some v=>
    simp only at hh
    cases rhi with
    |none=>exact absurd (hhi.none.2 rfl) (by simp)
    |some r=>
     obtain⟨k,rfl⟩:=Awp hh (hhi.some _ _ rfl rfl)
     cases rmx with
     |none=>exact absurd (hmx.none.2 rfl) (by simp)
     |some r'=>
      obtain⟨k',rfl⟩:=Awp hm0 (hmx.some _ _ rfl rfl)
      refine⟨A,?_⟩
      have b1:∀{k:IntKind} {c y} {W:World},(Instr.sliceBound (.int k 0) y c).run P W = .ok 0 W:=fun {k c y W}=>by
       have:=Aze (P:=P) (k:=k) (i:=0) (y:=y) (c:=c) (by omega) W
       simpa using this
      simp[Instr.sliceAt,Aaj hu,Instr.slice,Instr.sliceBounds,b1,Agq hf]
  split at h
  ·rename_i ei t xs hei
   obtain⟨fe,hfe,_⟩:=(htt _ ei hei).info
   refine⟨_,h,fun F ρ hp W rx rlo rhi rmx hh hs hx hlo hhi hmx=>?_⟩
   obtain⟨A,cap,rfl,_⟩:=Bpt hx.1
   obtain⟨A',h'⟩:=zero (W:=W) (A:=A) (l:=_) (c:=cap) hfe hlo hhi hmx
   exact⟨_,h',A',rfl⟩
  ·rename_i ei t xs hei
   obtain⟨fe,hfe,_⟩:=(htt _ ei hei).info
   refine⟨_,h,fun F ρ hp W rx rlo rhi rmx hh hs hx hlo hhi hmx=>?_⟩
   obtain⟨A,cap,rfl,_⟩:=Bpt hx
   obtain⟨A',h'⟩:=zero (W:=W) (A:=A) (l:=_) (c:=cap) hfe hlo hhi hmx
   exact⟨_,h',A',rfl⟩
  ·rename_i ei hei
   obtain⟨fe,hfe,_⟩:=(htt _ ei hei).info
   refine⟨_,h,fun F ρ hp W rx rlo rhi rmx hh hs hx hlo hhi hmx=>?_⟩
   simp only[RV,RV1,Abm,RA]at hx;subst hx
   obtain⟨A',h'⟩:=zero (W:=W) (A:=none) (l:=0) (c:=0) hfe hlo hhi hmx
   exact⟨_,h',A',rfl⟩
  ·cases h
 ·have hmxn:∀{F ρ hp rmx},A94 F ρ hp none rmx→rmx=none:=fun h=>h.none.1 rfl
  split at h
  ·rename_i hd
   rw[hd]at hm
   cases u<;>simp[Abz]at hm
   split at h
   case h_2=>cases h
   rename_i s
   split at h
   case h_2=>cases h
   rename_i l hv hl0 hh0
   split at h
   case isFalse=>cases h
   rename_i hhb
   split at h
   case isFalse=>cases h
   rename_i hlb
   refine⟨_,h,fun F ρ hp W rx rlo rhi rmx hh hs hx hlo hhi hmx=>?_⟩
   have:=hmxn hmx;subst this
   simp only[RV,RV1,Abm,RA,RC]at hx;cases hx
   have hsz:(⟨(s:List UInt8).toArray⟩:ByteArray).size=List.length (α:=UInt8) s:=by simp[ByteArray.size]
   have hb:=Bcw (P:=P) (isS:=false) (cap:=List.length (α:=UInt8) s) hlo hhi hl0 hh0 hhb hlb (Nat.le_refl _) W
   refine⟨.string ((⟨(s:List UInt8).toArray⟩:ByteArray).extract l.toNat hv.toNat),?_,?_⟩
   ·simp only[Instr.sliceAt,Sem.run_bind,Aaj hu,Result.andThen_ok,Instr.slice,Option.isSome_none,Bool.false_eq_true,if_false,hsz,hb,Sem.run_pure]
   ·simp only[RV,RV1,Abm,RA,RC]
    congr 2
    apply ByteArray.ext
    apply Array.ext'
    simp[ByteArray.data_extract,List.drop_take]
  ·rename_i E hd
   rw[hd]at hm
   cases u<;>simp[Abz]at hm
   rename_i E1
   subst hm
   split at h
   case h_1=>cases h
   rename_i ei hei
   obtain⟨fe,hfe,hse,_⟩:=(htt _ ei hei).info
   have run:∀{A:Option Addr} {len cap:Nat} {l h':Int} {F:Fz} {ρ:Rho} {hp:Aam} {W:World} {rlo rhi:Option Value},A94 F ρ hp lo rlo→A94 F ρ hp hi rhi→Are lo 0=some l→Are hi len=some h'→(0≤h'∧h'≤(len:Int))→(0≤l∧l≤h')→len≤cap→
     (Instr.sliceAt T (.slice A len cap) rlo rhi none).run P W = .ok (.slice (if cap=l.toNat then A else A.map (·.add (l.toNat*fe.size))) (h'.toNat-l.toNat) (cap-l.toNat)) W:=by
    intro A len cap l h' F ρ hp W rlo rhi hlo hhi h1 h2 h3 h4 h5
    have hb:=Bcw (P:=P) (isS:=true) (cap:=cap) hlo hhi h1 h2 h3 h4 h5 W
    simp only[Instr.sliceAt,Sem.run_bind,Aaj hu,Result.andThen_ok,Instr.slice,hb,Agq hfe,Sem.run_pure]
   split at h
   ·rename_i t xs
    split at h
    case h_2=>cases h
    rename_i l hv hl0 hh0 hsz
    have hsz:=Aa8 hsz
    split at h
    case isFalse=>cases h
    rename_i hhb
    split at h
    case isFalse=>cases h
    rename_i hlb
    refine⟨_,h,fun F ρ hp W rx rlo rhi rmx hh hs hx hlo hhi hmx=>?_⟩
    have:=hmxn hmx;subst this
    obtain⟨A,cap,rfl,hle,_⟩:=Bpt hx
    have hr:=run (A:=A) (W:=W) hlo hhi hl0 hh0 hhb hlb hle
    refine⟨_,hr,?_⟩
    rw[hse,hsz]
    have:=Dcd (l:=l.toNat) (h:=hv.toNat) hx (by omega) (by omega)
    exact this
   ·rename_i id ver
    split at h
    case h_2=>cases h
    rename_i E' t ver' fz xs hb
    split at h
    ·rename_i hv
     have hv:=Aa8 hv;subst hv
     refine⟨_,h,fun F ρ hp W rx rlo rhi rmx hh hs hx hlo hhi hmx=>?_⟩
     have:=hmxn hmx;subst this
     have hx':=hx
     obtain⟨b,hb2,_,A,l,c,rfl,hc⟩:=hx
     have hb':=hs _ _ hb
     rw[hb']at hb2;cases hb2
     obtain⟨rfl,rfl,hA⟩:=hc rfl
     have hle:xs.length≤(ρ id).cap:=by
      rcases hh.blocks id _ hb' with ⟨_,i2,_⟩|⟨bb,rs,fr,i1,i2,i3,i4,i5,i6,i7⟩
      ·subst i2;simp
      ·exact i5
     have hr:=run (A:=A) (W:=W) (l:=0) (h':=xs.length) hlo hhi rfl rfl (by omega) (by omega) hle
     refine⟨_,hr,?_⟩
     have e:(if (ρ id).cap=(0:Int).toNat then A else A.map (·.add ((0:Int).toNat*fe.size)))=A:=by
      split
      ·rfl
      ·cases A with
       |none=>rfl
       |some a=>simp[Addr.add]
     rw[e]
     simpa using hx'
    ·rename_i hv _
     have hv:=Aa8 hv;subst hv
     split at h
     case h_2=>cases h
     rename_i l hh' hl0 hh0 hsz
     have hsz:=Aa8 hsz
     split at h
     case isFalse=>cases h
     rename_i hhb
     split at h
     case isFalse=>cases h
     rename_i hlb
     refine⟨_,h,fun F ρ hp W rx rlo rhi rmx hh hs hx hlo hhi hmx=>?_⟩
     have:=hmxn hmx;subst this
     obtain⟨b,hb2,_,A,l',c,rfl,hc⟩:=hx
     have hb':=hs _ _ hb
     rw[hb']at hb2;cases hb2
     obtain⟨rfl,rfl,hA⟩:=hc rfl
     have hle:xs.length≤(ρ id).cap:=by
      rcases hh.blocks id _ hb' with ⟨_,i2,_⟩|⟨bb,rs,fr,i1,i2,i3,i4,i5,i6,i7⟩
      ·subst i2;simp
      ·exact i5
     have hr:=run (A:=A) (W:=W) hlo hhi hl0 hh0 hhb hlb hle
     refine⟨_,hr,_,hb',Nat.le_refl _,_,_,_,rfl,fun _=>⟨rfl,by omega,by omega,by omega,fun bb hbb=>?_⟩⟩
     have:=hA bb hbb
     subst this
     split
     ·left;omega
     ·right;rw[hse,hsz];simp[Awo]
    ·cases h
   ·rename_i id ver off len
    split at h
    case h_2=>cases h
    rename_i E' t ver' fz xs hb
    split at h
    case h_2=>cases h
    rename_i l hh' hv hl0 hh0 hsz
    have hv:=Aa8 hv;subst hv
    have hsz:=Aa8 hsz
    split at h
    case isFalse=>cases h
    rename_i hhb
    split at h
    case isFalse=>cases h
    rename_i hlb
    refine⟨_,h,fun F ρ hp W rx rlo rhi rmx hh hs hx hlo hhi hmx=>?_⟩
    have:=hmxn hmx;subst this
    obtain⟨b,hb2,_,A,l',c,rfl,hc⟩:=hx
    have hb':=hs _ _ hb
    rw[hb']at hb2;cases hb2
    obtain⟨e0,h2,h3,h4,hA⟩:=hc rfl
    subst l'
    have hr:=run (A:=A) (W:=W) (cap:=c) hlo hhi hl0 hh0 hhb hlb (by omega)
    refine⟨_,hr,_,hb',Nat.le_refl _,_,_,_,rfl,fun _=>⟨rfl,by omega,by omega,by omega,fun bb hbb=>?_⟩⟩
    rcases hA bb hbb with h|h
    ·left;omega
    ·subst h
     split
     ·left;omega
     ·right;rw[hse,hsz,Nat.add_mul];simp[Awo]
   ·cases h
  ·rename_i n E hd
   rw[hd]at hm
   cases u<;>simp[Abz]at hm
   rename_i len elem
   obtain⟨rfl,rfl⟩:=hm
   split at h
   case h_2=>cases h
   rename_i ei id ver hei
   obtain⟨fe,hfe,hse,_⟩:=(htt _ ei hei).info
   split at h
   case h_2=>cases h
   rename_i E' t ver' fz xs hb
   split at h
   case h_2=>cases h
   rename_i l hh' hv hl0 hh0 hsz
   have hv:=Aa8 hv;subst hv
   have hsz:=Aa8 hsz
   split at h
   case isFalse=>cases h
   rename_i hxl
   split at h
   case isFalse=>cases h
   rename_i hhb
   split at h
   case isFalse=>cases h
   rename_i hlb
   refine⟨_,h,fun F ρ hp W rx rlo rhi rmx hh hs hx hlo hhi hmx=>?_⟩
   have:=hmxn hmx;subst this
   obtain⟨b,hb2,_,ad,rfl,hc⟩:=hx
   have hb':=hs _ _ hb
   rw[hb']at hb2;cases hb2
   obtain⟨hidx,bb,hbs,rfl⟩:=hc rfl
   have hle:xs.length≤(ρ id).cap:=by
    rcases hh.blocks id _ hb' with ⟨_,i2,_⟩|⟨bb,rs,fr,i1,i2,i3,i4,i5,i6,i7⟩
    ·subst i2;simp
    ·exact i5
   have hbd:=Bcw (P:=P) (isS:=false) (cap:=_) hlo hhi hl0 hh0 hhb hlb (Nat.le_refl _) W
   have hr1:(Instr.sliceAt T (.pointer (some ⟨bb,0*t.size+0,none⟩)) rlo rhi none).run P W = .ok (.slice (some (if len=l.toNat then ⟨bb,0*t.size+0,none⟩ else Addr.add ⟨bb,0*t.size+0,none⟩ (l.toNat*fe.size))) (hh'.toNat-l.toNat) (len-l.toNat)) W:=by
    simp only[Instr.sliceAt,Sem.run_bind,Aaj hu,Result.andThen_ok,Instr.sureAddr,hbd,Agq hfe,Sem.run_pure]
   refine⟨_,hr1,_,hb',Nat.le_refl _,_,_,_,rfl,fun _=>⟨rfl,by omega,by omega,by omega,fun b2 hb2=>?_⟩⟩
   rw[hbs]at hb2;cases hb2
   split
   ·left;omega
   ·right;rw[hse,hsz];simp[Awo]
  ·cases h
theorem C37{op:BinOp}{k:IntKind}{a b:Int}{R:Type}{K:AV→Option R}{res:R}(h:B51 op k a b K=some res) :
  ∃v,K v=some res∧∀(F:Fz) (ρ:Rho) (hp:Aam) (W:World) (T:TypeId) (k':IntKind),(op≠.shl→op≠.shr→k'=k)→
   ∃r,(binOp op T (.int k a) (.int k' b)).run P W = .ok r W∧RV F ρ hp v r:=by
 cases op<;>simp only[B51]at h
 case quo=>
  split at h
  ·cases h
  ·rename_i h0
   refine⟨_,h,fun F ρ hp W T k' hk=>?_⟩
   have:=hk (by simp) (by simp);subst this
   exact⟨_,by simp[binOp,Op.intDiv,h0],rfl⟩
 case rem=>
  split at h
  ·cases h
  ·rename_i h0
   refine⟨_,h,fun F ρ hp W T k' hk=>?_⟩
   have:=hk (by simp) (by simp);subst this
   exact⟨_,by simp[binOp,Op.intDiv,h0],rfl⟩
 case shl=>
  split at h
  ·cases h
  ·rename_i h0
   refine⟨_,h,fun F ρ hp W T k' hk=>?_⟩
   exact⟨_,by simp[binOp,Op.shift,h0];rfl,rfl⟩
 case shr=>
  split at h
  ·cases h
  ·rename_i h0
   refine⟨_,h,fun F ρ hp W T k' hk=>?_⟩
   exact⟨_,by simp[binOp,Op.shift,h0];rfl,rfl⟩
 case and=>exact⟨_,h,fun F ρ hp W T k' hk=>by
  have:=hk (by simp) (by simp);subst this
  exact⟨.int k' (A0j k' a b),by simp only[binOp,ne_eq,not_true_eq_false,if_false,Op.intBits,Sem.run_pure];rfl,rfl⟩⟩
 case or=>exact⟨_,h,fun F ρ hp W T k' hk=>by
  have:=hk (by simp) (by simp);subst this
  exact⟨.int k' (orI k' a b),by simp only[binOp,ne_eq,not_true_eq_false,if_false,Op.intBits,Sem.run_pure];rfl,rfl⟩⟩
 case xor=>exact⟨_,h,fun F ρ hp W T k' hk=>by
  have:=hk (by simp) (by simp);subst this
  exact⟨.int k' (Bz6 k' a b),by simp only[binOp,ne_eq,not_true_eq_false,if_false,Op.intBits,Sem.run_pure];rfl,rfl⟩⟩
 case andNot=>exact⟨_,h,fun F ρ hp W T k' hk=>by
  have:=hk (by simp) (by simp);subst this
  exact⟨.int k' (Ca1 k' a b),by simp only[binOp,ne_eq,not_true_eq_false,if_false,Op.intBits,Sem.run_pure];rfl,rfl⟩⟩
 all_goals
  refine⟨_,h,fun F ρ hp W T k' hk=>?_⟩
  have:=hk (by simp) (by simp);subst this
  exact⟨_,by simp[binOp,Op.intArith,Op.intCmp],rfl⟩
theorem C38{op:BinOp}{x y:List UInt8}{R:Type}{K:AV→Option R}{res:R}(h:Ctc op x y K=some res) :
  ∃v,K v=some res∧∀(F:Fz) (ρ:Rho) (hp:Aam) (W:World) (T:TypeId),∃r,(binOp op T (.string ⟨x.toArray⟩) (.string ⟨y.toArray⟩)).run P W = .ok r W∧RV F ρ hp v r:=by
 cases op<;>simp only[Ctc]at h<;>try (cases h;done)
 case add=>
  split at h
  case isFalse=>cases h
  rename_i hle
  refine⟨_,h,fun F ρ hp W T=>⟨.string ⟨(x++y).toArray⟩,?_,rfl⟩⟩
  have:¬((((⟨x.toArray⟩:ByteArray).size+(⟨y.toArray⟩:ByteArray).size:Nat):Int) > IntKind.i64.max):=by
   have e:IntKind.i64.max=9223372036854775807:=by decide
   rw[e]
   unfold LIM at hle
   simp[ByteArray.size]
   omega
  simp only[binOp,Op.stringOp]
  rw[if_neg this]
  simp only[Sem.run_pure]
  have e:(⟨x.toArray⟩++⟨y.toArray⟩:ByteArray)=⟨(x++y).toArray⟩:=by
   apply ByteArray.ext
   simp
  rw[e]
 all_goals exact⟨_,h,fun F ρ hp W T=>⟨_,by simp[binOp,Op.stringOp];try rfl,rfl⟩⟩
end
end
end Go.AX
namespace Go.AX
noncomputable section
section
variable {P:Program}
theorem C02{tt:TT}(htt:Aj1 P tt){T:TypeId}{t:Ty}(h:Cle tt T t=true):∃u,P.underlying T=some u∧((t = .bool∧u = .bool)∨(∃k k',t = .int k∧u = .int k')∨(t = .str∧u = .string)):=by
 unfold Cle at h
 split at h
 case h_2=>cases h
 rename_i i hi
 obtain⟨u,hu,hm⟩:=(htt T i hi).under
 refine⟨u,hu,?_⟩
 split at h
 ·rename_i hd;rw[hd]at hm;cases u<;>simp[Abz]at hm;exact .inl ⟨rfl,rfl⟩
 ·rename_i hd;rw[hd]at hm;cases u<;>simp[Abz]at hm;exact .inr (.inl ⟨_,_,rfl,rfl⟩)
 ·rename_i hd;rw[hd]at hm;cases u<;>simp[Abz]at hm;exact .inr (.inr ⟨rfl,rfl⟩)
 ·cases h
theorem Bvw{F:Fz}{T:TypeId}{t:Ty}{u:TypeDesc}(hu:P.underlying T=some u)(hm:(t = .bool∧u = .bool)∨(∃k k',t = .int k∧u = .int k')∨(t = .str∧u = .string)){v v':t.den}{r r':Value}(h:RC F t v [r])(h':RC F t v' [r'])(d:Nat)(W:World):(Op.equalIn (d+1) T r r').run P W = .ok (t.beq v v') W:=by
 rcases hm with ⟨rfl,rfl⟩|⟨k,k',rfl,rfl⟩|⟨rfl,rfl⟩
 ·simp only[RC]at h h';cases h;cases h'
  simp[Op.equalIn,Aaj hu,Ty.beq]
 ·simp only[RC]at h h';cases h;cases h'
  simp[Op.equalIn,Aaj hu,Ty.beq]
 ·simp only[RC]at h h';cases h;cases h'
  simp[Op.equalIn,Aaj hu,Ty.beq,B54]
theorem Cto{T:TypeId}{u:TypeDesc}{t:Ty}(hu:P.underlying T=some u)(hm:(t = .bool∧u = .bool)∨(∃k k',t = .int k∧u = .int k')∨(t = .str∧u = .string)){cs:Array Value}{o:Nat}{v:Value}(h:cs[o]? = some v)(W:World) :
  (part T cs o).run P W = .ok v W:=by
 rcases hm with ⟨rfl,rfl⟩|⟨k,k',rfl,rfl⟩|⟨rfl,rfl⟩<;>simp[part,isAgg,Aaj hu,h]
def B55(d:Nat)(xs ys:Array Value)(f:Field):Sem (ForInStep (Option Bool×Unit)) :=
 if f.name = "_" then pure (ForInStep.yield (none,()))
 else do
  let a ←part f.type xs f.offset
  let b ←part f.type ys f.offset
  let c ←Op.equalIn d f.type a b
  if c=false then pure (ForInStep.done (some false,())) else pure (ForInStep.yield (none,()))
theorem Czw{tt:TT}(htt:Aj1 P tt){F:Fz}{ρ:Rho}{hp:Aam}(d:Nat){xs ys:Array Value}(W:World):∀(fs:List Field) (o:Nat) (cs ds:List Aby) (e:Bool),(∀f∈fs,f.name≠ "_")→
  Bpc tt (fs.map fun f=>(f.offset,P.cellsOf f.type,f.type)) o cs ds=some e→Abs (Abm F ρ hp) cs (xs.toList.drop o)→Abs (Abm F ρ hp) ds (ys.toList.drop o)→
  ((forIn fs ((none,()):Option Bool×Unit) fun f _=>B55 (d+1) xs ys f):Sem (Option Bool×Unit)).run P W = .ok (if e then (none,()) else (some false,())) W
 |[],o,cs,ds,e,_,h,hx,hy=>by
  cases cs<;>cases ds<;>simp[Bpc]at h
  subst h
  simp
 |f::fs,o,cs,ds,e,hn,h,hx,hy=>by
  simp only[List.map_cons]at h
  unfold Bpc at h
  split at h
  case h_1=>cases ‹_::_=[]›
  case h_3=>cases h
  rename_i o _ _ _ _ f1 fs' t v r t' v' r' hf
  simp only[List.cons.injEq]at hf
  obtain⟨hf1,hf2⟩:=hf
  subst hf1 hf2
  split at h
  case isFalse=>cases h
  rename_i et
  subst et
  split at h
  case h_2=>cases h
  rename_i b hfi hrest
  simp only[Bool.and_eq_true]at hfi
  obtain⟨hfi,hoff⟩:=hfi
  have hoff:=Aa8 hoff
  cases h
  obtain⟨u,hu,hm⟩:=C02 htt hfi
  obtain⟨rx,xr,ex,hrx,hxr⟩:=hx.cons_left
  obtain⟨ry,yr,ey,hry,hyr⟩:=hy.cons_left
  have gx:xs[f.offset]? = some rx:=by
   have:(xs.toList.drop o)[0]? = some rx:=by rw[ex];rfl
   rw[hoff];simpa using this
  have gy:ys[f.offset]? = some ry:=by
   have:(ys.toList.drop o)[0]? = some ry:=by rw[ey];rfl
   rw[hoff];simpa using this
  have dx:xs.toList.drop (o+1)=xr:=by
   have:=congrArg (List.drop 1) ex
   simpa using this
  have dy:ys.toList.drop (o+1)=yr:=by
   have:=congrArg (List.drop 1) ey
   simpa using this
  have heq:=Bvw hu hm hrx hry d W
  have ih:=Czw htt (ρ:=ρ) (hp:=hp) d W fs (o+1) r r' b (fun g hg=>hn g (by simp[hg])) hrest (by rw[dx];exact hxr) (by rw[dy];exact hyr)
  have hbody:(B55 (d+1) xs ys f).run P W = .ok (if t'.beq v v' then ForInStep.yield (none,()) else ForInStep.done (some false,())) W:=by
   have hne:=hn f (by simp)
   simp only[B55]
   rw[if_neg hne]
   simp only[Sem.run_bind,Cto hu hm gx,Cto hu hm gy,Result.andThen_ok,heq]
   cases t'.beq v v'<;>simp
  rw[List.forIn_cons]
  simp only[Sem.run_bind,hbody,Result.andThen_ok]
  cases hb:t'.beq v v' with
  |true=>simp only[if_true,Bool.true_and];exact ih
  |false=>simp
theorem C9v(n:Nat){T:TypeId}{fs:Array Field}(hu:P.underlying T=some (.struct fs))(hs:P.stoodInHeld T=false)(xs ys:Array Value)(W:World) :
  (Op.equalIn (n+1) T (.agg xs) (.agg ys)).run P W=(((forIn fs.toList ((none,()):Option Bool×Unit) fun f _=>B55 n xs ys f):Sem (Option Bool×Unit)).run P W).andThen fun a w'=>.ok (match a.1 with|some r=>r|none=>true) w':=by
 simp[Op.equalIn,Aaj hu,hs]
 unfold B55
 congr 1
 funext a w'
 cases a.1<;>rfl
theorem Cfj{tt:TT}(htt:Aj1 P tt){T:TypeId}{i:TI}(hi:tt.get T=some i)(heq:i.eqok=true){gs:List (Nat×Nat×TypeId)}(hd:i.d = .struct gs){cs ds:List Aby}{e:Bool}(he:Bpc tt gs 0 cs ds=some e){F:Fz}{ρ:Rho}{hp:Aam}{xs ys:Array Value}(hx:Abs (Abm F ρ hp) cs xs.toList)(hy:Abs (Abm F ρ hp) ds ys.toList)(W:World)(d:Nat):(Op.equalIn (d+2) T (.agg xs) (.agg ys)).run P W = .ok e W:=by
 obtain⟨u,hu,hm⟩:=(htt T i hi).under
 rw[hd]at hm
 cases u<;>simp[Abz]at hm
 rename_i fs
 obtain⟨h1,h2,h3⟩:=(htt T i hi).eqok heq
 have:=Czw htt (ρ:=ρ) (hp:=hp) d W fs.toList 0 cs ds e (h3 fs hu) (by rw[←hm];exact he) (by simpa using hx) (by simpa using hy)
 rw[C9v (d+1) hu h1,this]
 cases e<;>rfl
theorem A1w{op:BinOp}{T:TypeId}{x y:Operand}{a b:Value}(W:World)(h:(a≠.nilIface∨b≠.nilIface)∧((∀c,a≠.agg c)∨(∀c,b≠.agg c))):(eqGuard op T x y a b).run P W = .ok () W:=by
 unfold eqGuard
 cases op<;>simp
 all_goals
  split
  ·simp at h
  ·simp at h
  ·rfl
theorem Cpj(n:Nat){T E:TypeId}(hu:P.underlying T=some (.slice E))(A:Option Addr)(l c:Nat)(W:World):(Op.equalIn (n+1) T (.slice A l c) (.slice none 0 0)).run P W = .ok A.isNone W:=by
 cases A<;>simp[Op.equalIn,Aaj hu]
theorem Bxa(n:Nat){T E:TypeId}(hu:P.underlying T=some (.pointer E))(A:Option Addr)(W:World):(Op.equalIn (n+1) T (.pointer A) (.pointer none)).run P W = .ok A.isNone W:=by
 cases A<;>simp[Op.equalIn,Aaj hu]
theorem Czx(n:Nat){T k E:TypeId}(hu:P.underlying T=some (.map k E))(A:Option Nat)(W:World):(Op.equalIn (n+1) T (.map A) (.map none)).run P W = .ok A.isNone W:=by
 cases A<;>simp[Op.equalIn,Aaj hu]
theorem C9w(n:Nat){T:TypeId}{ps rs:Array TypeId}{v:Bool}(hu:P.underlying T=some (.func ps rs v))(W:World):(Op.equalIn (n+1) T .nilFunc .nilFunc).run P W = .ok true W:=by
 simp[Op.equalIn,Aaj hu]
theorem Czy(n:Nat){T:TypeId}{ps rs:Array TypeId}{v:Bool}(hu:P.underlying T=some (.func ps rs v))(f:Fn)(a b:Array Value)(W:World):(Op.equalIn (n+1) T (.func f a b) .nilFunc).run P W = .ok false W:=by
 simp[Op.equalIn,Aaj hu]
theorem C9x{tt:TT}(htt:Aj1 P tt){op:BinOp}{T:TypeId}{x y:Operand}{a b:AV}{R:Type}{K:AV→Option R}{res:R}(h:C6q tt op T x y a b K=some res) :
  ∃v,K v=some res∧∀F ρ hp W ra rb,Abx F ρ hp W→RV F ρ hp a ra→RV F ρ hp b rb→(∀c,y = .const c→rb=c)→∃r,((do eqGuard op T x y ra rb;binOp op T ra rb):Sem Value).run P W = .ok r W∧RV F ρ hp v r:=by
 unfold C6q at h
 split at h
 ·rename_i k m k' n
  have key:∀{K:AV→Option R},B51 op k m n K=some res→(op≠.shl→op≠.shr→k'=k)→∃v,K v=some res∧∀F ρ hp W ra rb,Abx F ρ hp W→RV F ρ hp (AV.at (.val (.int k) m)) ra→RV F ρ hp (AV.at (.val (.int k') n)) rb→(∀c,y = .const c→rb=c)→∃r,((do eqGuard op T x y ra rb;binOp op T ra rb):Sem Value).run P W = .ok r W∧RV F ρ hp v r:=by
   intro K h hk
   obtain⟨v,hK,hv⟩:=C37 (P:=P) h
   refine⟨v,hK,fun F ρ hp W ra rb _ ha hb _=>?_⟩
   simp only[RV,RV1,Abm,RA,RC]at ha hb
   cases ha;cases hb
   obtain⟨r,hr,hrv⟩:=hv F ρ hp W T k' hk
   exact⟨r,by simp[A1w (P:=P) (op:=op) (T:=T) (x:=x) (y:=y) W (a:=.int k m) (b:=.int k' n) (by simp),hr],hrv⟩
  split at h
  ·exact key h (fun h=>absurd rfl h)
  ·exact key h (fun _ h=>absurd rfl h)
  ·split at h
   case isFalse=>cases h
   rename_i e
   exact key h (fun _ _=>e.symm)
 ·rename_i m n
  obtain⟨v,hK,hv⟩:=C38 (P:=P) h
  refine⟨v,hK,fun F ρ hp W ra rb _ ha hb _=>?_⟩
  simp only[RV,RV1,Abm,RA,RC]at ha hb
  cases ha;cases hb
  obtain⟨r,hr,hrv⟩:=hv F ρ hp W T
  exact⟨r,by simp[A1w (P:=P) (op:=op) (T:=T) (x:=x) (y:=y) W (a:=.string ⟨(m:List UInt8).toArray⟩) (b:=.string ⟨(n:List UInt8).toArray⟩) (by simp),hr],hrv⟩
 ·rename_i m n
  split at h
  case h_2=>cases h
  rename_i i hi
  obtain⟨u,hu,hm⟩:=(htt T i hi).under
  have eqr:∀W,(Op.equal T (.bool m) (.bool n)).run P W = .ok ((m:Bool)==n) W→True:=fun _ _=>trivial
  split at h
  ·rename_i hd
   rw[hd]at hm
   cases u<;>simp[Abz]at hm
   refine⟨_,h,fun F ρ hp W ra rb _ ha hb _=>?_⟩
   simp only[RV,RV1,Abm,RA,RC]at ha hb
   cases ha;cases hb
   have:=Bvw (P:=P) (F:=F) (t:=.bool) hu (.inl ⟨rfl,rfl⟩) (v:=m) (v':=n) (r:=.bool m) (r':=.bool n) rfl rfl 9999 W
   refine⟨.bool ((m:Bool)==n),?_,rfl⟩
   have e1:(Op.equal T (.bool m) (.bool n)).run P W = .ok ((m:Bool)==n) W:=this
   simp[A1w (P:=P) (op:=.eql) (T:=T) (x:=x) (y:=y) W (a:=.bool m) (b:=.bool n) (by simp),binOp,e1]
  ·rename_i hd
   rw[hd]at hm
   cases u<;>simp[Abz]at hm
   refine⟨_,h,fun F ρ hp W ra rb _ ha hb _=>?_⟩
   simp only[RV,RV1,Abm,RA,RC]at ha hb
   cases ha;cases hb
   have:=Bvw (P:=P) (F:=F) (t:=.bool) hu (.inl ⟨rfl,rfl⟩) (v:=m) (v':=n) (r:=.bool m) (r':=.bool n) rfl rfl 9999 W
   refine⟨.bool (!((m:Bool)==n)),?_,rfl⟩
   have e1:(Op.equal T (.bool m) (.bool n)).run P W = .ok ((m:Bool)==n) W:=this
   simp[A1w (P:=P) (op:=.neq) (T:=T) (x:=x) (y:=y) W (a:=.bool m) (b:=.bool n) (by simp),binOp,e1]
  ·cases h
 ·rename_i cs ds
  split at h
  case h_2=>cases h
  rename_i i hi
  split at h
  case h_2=>cases h
  rename_i e heqok he
  split at he
  case h_2=>cases he
  rename_i gs hd
  obtain⟨h1,h2,h3⟩:=(htt T i hi).eqok heqok
  have key:∀{F ρ hp W ra rb},RV F ρ hp (.v (.agg cs)) ra→RV F ρ hp (.v (.agg ds)) rb→(Op.equal T ra rb).run P W = .ok e W∧(∃xs ys,ra = .agg xs∧rb = .agg ys):=by
   intro F ρ hp W ra rb ha hb
   obtain⟨xs,rfl,hx⟩:=ha
   obtain⟨ys,rfl,hy⟩:=hb
   exact⟨Cfj htt hi heqok hd he hx hy W 9998,xs,ys,rfl,rfl⟩
  have guard:∀{op W xs ys},(eqGuard op T x y (.agg xs) (.agg ys)).run P W = .ok () W:=by
   intro op W xs ys
   unfold eqGuard
   cases op<;>simp[h2]
  split at h
  ·refine⟨_,h,fun F ρ hp W ra rb _ ha hb _=>?_⟩
   obtain⟨e1,xs,ys,rfl,rfl⟩:=key (W:=W) ha hb
   exact⟨.bool e,by simp[guard,binOp,e1],rfl⟩
  ·refine⟨_,h,fun F ρ hp W ra rb _ ha hb _=>?_⟩
   obtain⟨e1,xs,ys,rfl,rfl⟩:=key (W:=W) ha hb
   exact⟨.bool (!e),by simp[guard,binOp,e1],rfl⟩
  ·cases h
 ·split at h
  case h_2=>cases h
  rename_i i hi
  obtain⟨u,hu,hm⟩:=(htt T i hi).under
  split at h
  case h_2=>cases h
  rename_i p q r e hp hq hr
  split at h
  case h_2=>cases h
  rename_i hpq
  simp only[Bool.and_eq_true]at hpq
  obtain⟨hpq,hpr⟩:=hpq
  have hpq:=Aa8 hpq;have hpr:=Aa8 hpr;subst hpq;subst hpr
  have key:∀{F ρ hp W ra rb},RV F ρ hp a ra→(∀c,y = .const c→rb=c)→(Op.equal T ra rb).run P W = .ok e W∧(∀op:BinOp,op = .eql∨op = .neq→(binOp op T ra rb).run P W = .ok (.bool (if op = .eql then e else !e)) W)∧(∀op,(eqGuard op T x y ra rb).run P W = .ok () W):=by
   intro F ρ hp W ra rb ha hb
   have hcc:∀c,y = .const c→rb=c:=hb
   have e1:(Op.equal T ra rb).run P W = .ok e W∧(∀s,ra≠.string s)∧(∀k n,ra≠.int k n)∧(∀k n,ra≠.float k n)∧(∀k m n,ra≠.complex k m n)∧ra≠.nilIface∧(∀c,ra≠.agg c):=by
    unfold Ctd at hq
    split at hq
    ·have:=hcc _ rfl;subst this
     cases hq
     cases hd:i.d<;>rw[hd]at hp hm<;>simp[Ch2]at hp
     cases u<;>simp[Abz]at hm
     unfold Ch1 at hr
     split at hr<;>cases hr
     ·simp only[RV,RV1,Abm,RA]at ha;subst ha
      exact⟨Cpj 9999 hu none 0 0 W,by simp⟩
     ·obtain⟨h1,h2⟩:=ha
      obtain⟨A,cap,rfl,_⟩:=Bpt h1
      cases A with
      |none=>exact absurd rfl (h2 _ _)
      |some A=>exact⟨Cpj 9999 hu (some A) _ _ W,by simp⟩
    ·have:=hcc _ rfl;subst this
     cases hq
     cases hd:i.d<;>rw[hd]at hp hm<;>simp[Ch2]at hp
     cases u<;>simp[Abz]at hm
     unfold Ch1 at hr
     split at hr<;>cases hr
     ·simp only[RV,RV1,Abm,RA]at ha;subst ha
      exact⟨Bxa 9999 hu none W,by simp⟩
     ·obtain⟨b,_,_,ad,rfl,_⟩:=ha
      exact⟨Bxa 9999 hu (some ad) W,by simp⟩
     ·obtain⟨_,_,_,_,bb,_,rfl⟩:=ha
      exact⟨Bxa 9999 hu (some _) W,by simp⟩
     ·rename_i id0 o _ _ _ _
      obtain⟨_,ha⟩:=ha
      cases o with
      |none=>simp only[PoR]at ha;subst ha;exact⟨Bxa 9999 hu none W,by simp⟩
      |some k=>obtain⟨bb,_,rfl⟩:=ha;exact⟨Bxa 9999 hu (some _) W,by simp⟩
    ·have:=hcc _ rfl;subst this
     cases hq
     cases hd:i.d<;>rw[hd]at hp hm<;>simp[Ch2]at hp
     cases u<;>simp[Abz]at hm
     unfold Ch1 at hr
     split at hr<;>cases hr
     ·simp only[RV,RV1,Abm,RA]at ha;subst ha
      exact⟨Czx 9999 hu none W,by simp⟩
     ·obtain⟨_,_,_,_,_,_,_,rfl⟩:=ha
      exact⟨Czx 9999 hu (some _) W,by simp⟩
    ·have:=hcc _ rfl;subst this
     cases hq
     cases hd:i.d<;>rw[hd]at hp hm<;>simp[Ch2]at hp
     cases u<;>simp[Abz]at hm
     unfold Ch1 at hr
     split at hr<;>cases hr
     ·simp only[RV,RV1,Abm,RA]at ha;subst ha
      exact⟨C9w 9999 hu W,by simp⟩
     ·obtain⟨cs,rfl,_⟩:=ha
      exact⟨Czy 9999 hu _ _ _ W,by simp⟩
     ·obtain⟨cs,rfl,_⟩:=ha
      exact⟨Czy 9999 hu _ _ _ W,by simp⟩
    ·cases hq
   obtain⟨h1,h2,h3,h4,h5,h6,h7⟩:=e1
   refine⟨h1,?_,fun op=>A1w W ⟨.inl h6,.inl h7⟩⟩
   rintro op (rfl|rfl)
   ·cases ra<;>simp[binOp,h1]at h2 h3 h4 h5 ⊢
   ·cases ra<;>simp[binOp,h1]at h2 h3 h4 h5 ⊢
  split at h
  ·refine⟨_,h,fun F ρ hp W ra rb _ ha _ hc=>?_⟩
   obtain⟨k1,k2,k3⟩:=key (W:=W) ha hc
   exact⟨.bool e,by simp[k3,k2],rfl⟩
  ·refine⟨_,h,fun F ρ hp W ra rb _ ha _ hc=>?_⟩
   obtain⟨k1,k2,k3⟩:=key (W:=W) ha hc
   exact⟨.bool (!e),by simp[k3,k2],rfl⟩
  ·cases h
end
end
end Go.AX
namespace Go.AX
noncomputable section
section
variable {P:Program}
theorem Bvx(P:Program){mx:Bool}{F:Fz}{ρ:Rho}{hp:Aam}{W:World}:∀(N:Nat) (l:List AV) (x v:AV) (r0:Value) (rs:List Value),Bat mx N (x::l)=some v→RV F ρ hp x r0→Abs (RV F ρ hp) l rs→
  ∃r,((rs.foldlM (if mx then Builtin.max2 else Builtin.min2) r0):Sem Value).run P W = .ok r W∧RV F ρ hp v r
 |0,_,_,_,_,_,h,_,_=>by cases h
 |N+1,[],x,v,r0,rs,h,h0,hr=>by
  have:=hr.nil_left;subst this
  simp only[Bat]at h;cases h
  exact⟨r0,by simp,h0⟩
 |N+1,y::l,x,v,r0,rs,h,h0,hr=>by
  obtain⟨b,t2,rfl,hb,h2⟩:=hr.cons_left
  have hh:=h
  unfold Bat at hh
  split at hh
  case h_1=>cases ‹_::_::_=[]›
  case h_2=>cases ‹_::_::_=[_]›
  case h_4=>cases hh
  rename_i k m k' n r' he
  simp only[List.cons.injEq]at he
  obtain⟨e1,e2,e3⟩:=he
  subst e1 e2 e3
  split at hh
  case isFalse=>cases hh
  rename_i hk
  subst hk
  simp only[RV,RV1,Abm,RA,RC]at h0 hb
  cases h0;cases hb
  cases mx with
  |true=>
   obtain⟨q,hq,hv⟩:=Bvx P N l _ v (.int k (if (n:Int) > m then n else m)) t2 hh rfl h2
   refine⟨q,?_,hv⟩
   rw[List.foldlM_cons]
   simp only[if_true,Builtin.max2,Sem.run_bind,Sem.run_pure,Result.andThen_ok]at hq ⊢
   exact hq
  |false=>
   obtain⟨q,hq,hv⟩:=Bvx P N l _ v (.int k (if (n:Int)<m then n else m)) t2 hh rfl h2
   refine⟨q,?_,hv⟩
   rw[List.foldlM_cons]
   simp only[Bool.false_eq_true,if_false,Builtin.min2,Sem.run_bind,Sem.run_pure,Result.andThen_ok]at hq ⊢
   exact hq
theorem Cif(P:Program){mx:Bool}{F:Fz}{ρ:Rho}{hp:Aam}{W:World}(l:List AV)(x v:AV)(r0:Value)(rs:List Value)(h:Bw9 mx (x::l)=some v)(h0:RV F ρ hp x r0)(hr:Abs (RV F ρ hp) l rs) :
  ∃r,((rs.foldlM (if mx then Builtin.max2 else Builtin.min2) r0):Sem Value).run P W = .ok r W∧RV F ρ hp v r:=Bvx P 9 l x v r0 rs h h0 hr
theorem Bpu{F:Fz}{ρ:Rho}{hp:Aam}{ev:Operand→AV}{re:Operand→Value}(h:∀x,RV F ρ hp (ev x) (re x)):∀l:List Operand,Abs (RV F ρ hp) (l.map ev) (l.map re)
 |[]=>trivial
 |x::r=>⟨h x,Bpu h r⟩
theorem Cd7:∀(ns:List Int) (s:ByteArray),ns.foldl (fun r n=>r.push (UInt8.ofNat n.toNat)) s=s++⟨(ns.map fun n=>UInt8.ofNat n.toNat).toArray⟩
 |[],s=>by apply ByteArray.ext;simp
 |n::ns,s=>by
  simp only[List.foldl_cons]
  rw[Cd7 ns]
  apply ByteArray.ext
  apply Array.ext'
  simp
theorem C39{F:Fz}{ys:List Int}{W:World}{A:Option Addr}{l c:Nat}(h:Bt6 P F (.int .u8) ys W (.slice A l c)) :
  (Conv.bytesToString (.slice A l c)).run P W = .ok (.string ⟨(ys.map fun n=>UInt8.ofNat n.toNat).toArray⟩) W:=by
 have hl:=h.len
 simp only[Builtin.lenOf,Sem.run_pure]at hl
 have hl:l=ys.length:=by injection hl
 subst hl
 obtain⟨arr,h1,h2,h3⟩:=h.cells ys.length (Nat.le_refl _)
 have harr:arr=(ys.map (Value.int .u8)).toArray:=by
  apply Array.ext'
  apply List.ext_getElem?
  intro i
  simp only[Ty.size,Nat.mul_one]at h2 h3
  by_cases hi:i<ys.length
  ·have:=h3 i hi
   simp only[RC,Afk]at this
   have e:=congrArg (fun l=>l[0]?) this
   simp[hi,List.getD_eq_getElem?_getD]at e
   simp[hi]
   have:i<arr.size:=by omega
   simp[this]at e ⊢
   exact e
  ·rw[List.getElem?_eq_none (by simp;omega),List.getElem?_eq_none (by simp;omega)]
 cases A with
 |none=>
  simp[Builtin.firstCells]at h1
  have:ys=[]:=by
   have:=h2;rw[h1]at this;simp[Ty.size]at this;exact List.eq_nil_of_length_eq_zero (by omega)
  subst this
  simp[Conv.bytesToString]
  rfl
 |some a=>
  simp only[Builtin.firstCells,Ty.size,Nat.mul_one]at h1
  rw[harr]at h1
  rw[run_bytesToString W a _ c ys h1,Cd7]
  congr 2
theorem C4a{hq:Aam}{x y:Apg}{l:List Nat}{t:Ty}{ys:List t.den}(h:x.frz hq=some (y,l))(hy:y.get (.list t)=some ys){F:Fz}{ρ:Rho}{hp:Aam}{r:Value}(hr:RA F ρ hp x r):∃A l c,r = .slice A l c:=by
 cases x with
 |slf id ver=>obtain⟨_,_,_,A,l,c,e,_⟩:=hr;exact⟨A,l,c,e⟩
 |sl id ver off len=>obtain⟨_,_,_,A,l,c,e,_⟩:=hr;exact⟨A,l,c,e⟩
 | _=>
  simp only[Apg.frz]at h
  cases h
  obtain⟨A,cap,e,_⟩:=Bpt (Apg.get_ok hy hr)
  exact⟨_,_,_,e⟩
theorem Ctk.of_run{g:List Bool}{o:Oper}{F:Fz}{ρ:Rho}{hp hp':Aam}{a:Act}{W W':World}{v:AV}{r:Value}(hr:(execOp a.eval o).run P W = .ok (.value r) W')(hg:Aif g F ρ hp W hp' v r W') :
  Ctk P g o F ρ hp a W hp' v:=.inl ⟨r,W',.inl hr,hg⟩
theorem Ctk.of_skip{g:List Bool}{o:Oper}{F:Fz}{ρ:Rho}{hp hp':Aam}{a:Act}{W W':World}{v:AV}(hr:(execOp a.eval o).run P W = .ok .skip W')(hg:Aif g F ρ hp W hp' v undef W') :
  Ctk P g o F ρ hp a W hp' v:=.inl ⟨undef,W',.inr ⟨hr,rfl⟩,hg⟩
theorem Clq{F:Fz}{ρ:Rho}{hp:Aam}{ev:Operand→AV}{re:Operand→Value}(h:∀x,RV F ρ hp (ev x) (re x))(o:Option Operand):A94 F ρ hp (o.map ev) (o.map re):=by
 cases o with
 |none=>exact⟨by simp,fun _ _ h=>by simp at h⟩
 |some x=>exact⟨by simp,fun v r h1 h2=>by simp at h1 h2;subst h1;subst h2;exact h x⟩
def A0m(P:Program)(tt:TT)(Γ:FuncId→Option Aad):Prop :=
 ∀(R:Type) (hq:Aam) (f:FuncId) (args:List AV) (dst:Nat) (K:KD R) (res:R),Csf tt Γ hq f args dst K=some res→
  ∃l v,K l v=some res∧∀(g:List Bool) F ρ hp W rargs,Abx F ρ hp W→(∀id b,hq id=some b→hp id=some b)→(∀j,j<32→hq (Aa5 dst j)=none→hp (Aa5 dst j)=none)→Af5 g hp l=true→
   Abs (RV F ρ hp) args rargs.toList→∃fn,P.funcs[f]? = some fn∧fn.body.isSome∧fn.name≠ "runtime.NumGoroutine" ∧
   Calls P f rargs W fun e W'=>∃r,e = .returned r∧Aif g F ρ hp W (Aa3 hp l) v r W'
set_option maxHeartbeats 1000000 in
theorem Cpk{tt:TT}(htt:Aj1 P tt){Γ:FuncId→Option Aad}(hΓ:A0m P tt Γ){g:List Bool}{o:Oper}{n:Nat}(hd:∀t,o.dst=some t→t<n){ev:Operand→AV}{hq:Aam}{R:Type}{K:KD R}{res:R}(h:Ch4 tt Γ o ev hq K=some res):∃l v,K l v=some res∧∀st,Ctj (o.dst.getD 0) st ev hq→Af5 g st.hp l=true→OpS P n g o st (st.upd o.dst l v):=by
 suffices hs:∃l v,K l v=some res∧∀st,Ctj (o.dst.getD 0) st ev hq→Af5 g st.hp l=true→∀F ρ a W,Ax5 n F ρ st a W→(∀x,RV F ρ st.hp (ev x) (a.eval x))→Ctk P g o F ρ st.hp a W (Aa3 st.hp l) v by
  obtain⟨l,v,hK,hf⟩:=hs
  exact⟨l,v,hK,fun st hsee hg=>Ctk.ops hd fun F ρ a W hi=>hf st hsee hg F ρ a W hi (hsee.rv hi)⟩
 unfold Ch4 at h
 cases hop:o.op<;>rw[hop]at h<;>(try dsimp only at h)<;>(try (cases h;done))
 case move x=>exact⟨_,_,h,fun st hs hg F ρ a W hi hr=>Ctk.of_run (by simp only[execOp,hop];rfl) (Aif.val hi.heap (hr x))⟩
 case assign x=>exact⟨_,_,h,fun st hs hg F ρ a W hi hr=>Ctk.of_run (by simp only[execOp,hop];rfl) (Aif.val hi.heap (hr x))⟩
 case pick c x y=>
  split at h
  case h_2=>cases h
  rename_i t ht
  split at h
  ·rename_i e
   refine⟨_,_,h,fun st hs hg F ρ a W hi hr=>Ctk.of_run (r:=a.eval x) ?_ (Aif.val hi.heap (hr x))⟩
   have:=AV.get_ok ht (hr c)
   simp only[RC]at this;injection this with this
   simp[execOp,hop,this,asBool]
   intro hf;exact absurd e (by simp[hf])
  ·rename_i e
   refine⟨_,_,h,fun st hs hg F ρ a W hi hr=>Ctk.of_run (r:=a.eval y) ?_ (Aif.val hi.heap (hr y))⟩
   have:=AV.get_ok ht (hr c)
   simp only[RC]at this;injection this with this
   simp[execOp,hop,this,asBool]
   intro hf;exact absurd hf e
 case alloc T=>
  split at h
  case h_2=>cases h
  rename_i i hn hi
  split at h
  case h_2=>cases h
  rename_i zs hz
  refine⟨_,_,h,fun st hs hg F ρ a W hinv hr=>?_⟩
  obtain⟨r,W',h1,h2⟩:=C32 (P:=P) htt (g:=g) hi hz hinv.heap (hs.snew 0 (by omega) hn) (Anp _ 0)
  exact Ctk.of_run (by simp[execOp,hop,h1]) h2
 case box T x=>
  split at h
  ·rename_i n v hx
   obtain⟨l,w,hK,hn,hf⟩:=C9q (P:=P) (g:=g) h
   refine⟨_,_,hK,fun st hs hg F ρ a W hinv hr=>?_⟩
   have hxr:=hr x
   rw[hx]at hxr
   obtain⟨r,W',h1,h2⟩:=hf F ρ st.hp W _ hinv.heap (hs.snew 0 (by omega) hn) hxr
   exact Ctk.of_run (by simp[execOp,hop,h1]) h2
  ·split at h
   case h_2=>cases h
   rename_i cs hn hc
   refine⟨_,_,h,fun st hs hg F ρ a W hinv hr=>?_⟩
   obtain⟨r,W',h1,h2⟩:=C9p (P:=P) (g:=g) (T:=T) hc hinv.heap (hs.snew 0 (by omega) hn) (Anp _ 0) (hr x)
   exact Ctk.of_run (by simp[execOp,hop,h1]) h2
 case build T parts=>
  obtain⟨v,hK,hf⟩:=C33 htt h
  refine⟨_,_,hK,fun st hs hg F ρ a W hinv hr=>?_⟩
  obtain⟨r,h1,h2⟩:=hf F ρ st.hp W (parts.map fun (i,x)=>(i,a.eval x)) (by
   have:=B0b hr parts.toList
   simpa using this)
  exact Ctk.of_run (by simp[execOp,hop,h1]) (Aif.val hinv.heap h2)
 case buildSlice T len parts=>
  obtain⟨l,v,hK,hf⟩:=Clo (g:=g) htt h
  refine⟨_,_,hK,fun st hs hg F ρ a W hinv hr=>?_⟩
  obtain⟨r,W',h1,h2⟩:=hf F ρ st.hp W (parts.map fun (i,x)=>(i,a.eval x)) hinv.heap hs.shp (hs.snew 0 (by omega)) hg (by
   have:=B0b hr parts.toList
   simpa using this)
  exact Ctk.of_run (by simp[execOp,hop,h1]) h2
 case load T x=>
  obtain⟨v,hK,hf⟩:=Ctl htt h
  refine⟨_,_,hK,fun st hs hg F ρ a W hinv hr=>?_⟩
  obtain⟨r,h1,h2⟩:=hf F ρ st.hp W _ hinv.heap hs.shp (hr x)
  exact Ctk.of_run (by simp[execOp,hop,h1]) (Aif.val hinv.heap h2)
 case store T x y=>
  obtain⟨l,hK,hf⟩:=C31 (g:=g) htt h
  refine⟨_,_,hK,fun st hs hg F ρ a W hinv hr=>?_⟩
  obtain⟨W',h1,h2⟩:=hf F ρ st.hp W _ _ hinv.heap hs.shp hg (hr x) (hr y)
  exact Ctk.of_skip (by simp[execOp,hop,h1]) h2
 case nilCheck x=>
  split at h
  ·rename_i id ver idx fld hx
   refine⟨_,_,h,fun st hs hg F ρ a W hinv hr=>?_⟩
   have:=hr x
   rw[hx]at this
   have h0:=this
   obtain⟨_,_,_,ad,e,_⟩:=this
   exact Ctk.of_run (r:=a.eval x) (by simp[execOp,hop,e]) (Aif.val hinv.heap h0)
  ·rename_i id k fld hx
   refine⟨_,_,h,fun st hs hg F ρ a W hinv hr=>?_⟩
   have:=hr x
   rw[hx]at this
   have h0:=this
   obtain⟨_,_,_,_,bb,_,e⟩:=this
   exact Ctk.of_run (r:=a.eval x) (by simp[execOp,hop,e]) (Aif.val hinv.heap h0)
  ·rename_i id oo hx
   split at h
   case isFalse=>cases h
   rename_i hsome
   refine⟨_,_,h,fun st hs hg F ρ a W hinv hr=>?_⟩
   have:=hr x
   rw[hx]at this
   obtain⟨h1,h2⟩:=this
   cases oo with
   |none=>cases hsome
   |some k=>
    obtain⟨bb,h3,e⟩:=h2
    obtain⟨T,t,xs,h4⟩:=h1 rfl
    exact Ctk.of_run (r:=a.eval x) (by simp[execOp,hop,e]) (Aif.val hinv.heap ⟨T,t,xs,h4,bb,h3,e⟩)
  ·cases h
 case fieldAddr T x f=>
  split at h
  case h_2=>cases h
  rename_i i hi
  split at h
  case h_2=>cases h
  rename_i fs hdd
  split at h
  case h_2=>cases h
  rename_i fd hfd
  obtain⟨u,hu,hm⟩:=(htt T i hi).under
  rw[hdd]at hm
  cases u<;>simp[Abz]at hm
  rename_i gs
  have run:∀{ad:Addr} {W:World},Nat.beq fd.2.1 0=false→(Instr.fieldAt T (.pointer (some ad)) f).run P W = .ok (.pointer (some (ad.add fd.1))) W:=by
   intro ad W hz
   subst hm
   simp only[List.getElem?_map,Array.getElem?_toList]at hfd
   cases e:gs[f]? with
   |none=>rw[e]at hfd;simp at hfd
   |some fl=>
    rw[e]at hfd
    simp at hfd
    subst hfd
    obtain⟨fi,hfi⟩:=(htt T i hi).fields gs hu fl (by
     have:=Array.mem_of_getElem? e
     simpa using this)
    have hne:fi.size≠0:=by
     intro e0
     simp[Program.cellsOf,hfi,e0]at hz
    simp[Instr.fieldAt,Aaj hu,e,Instr.sureAddr,fieldPlace,Agq hfi,hne]
  split at h
  ·rename_i id ver idx fld hz hx
   refine⟨_,_,h,fun st hs hg F ρ a W hinv hr=>?_⟩
   have:=hr x
   rw[hx]at this
   obtain⟨b,hb,hv,ad,e,hc⟩:=this
   refine Ctk.of_run (r:=.pointer (some (ad.add fd.1))) (by simp[execOp,hop,e,run hz]) (Aif.val hinv.heap ⟨b,hb,hv,_,rfl,fun hve=>?_⟩)
   have hc:=hc hve
   cases b with
   |cells T' cs=>
    obtain⟨rfl,bb,hbs,rfl⟩:=hc
    exact⟨rfl,bb,hbs,Awo _ _ _⟩
   |row E t v' fz xs=>
    obtain⟨hidx,bb,hbs,rfl⟩:=hc
    exact⟨hidx,bb,hbs,by rw[Awo,Nat.add_assoc]⟩
   |amap _ _ _ _=>exact hc.elim
   |fmap _ _ _=>exact hc.elim
   |pool _ _ _=>exact hc.elim
   |pmap _ _ _ _=>exact hc.elim
  ·rename_i t xs idx fld hz hx
   refine⟨_,_,h,fun st hs hg F ρ a W hinv hr=>?_⟩
   have:=hr x
   rw[hx]at this
   obtain⟨hidx,b,o',c,U,fr,e,hF,ho,hrc⟩:=this
   exact Ctk.of_run (r:=.pointer (some ((⟨b,o'+fld,none⟩:Addr).add fd.1))) (by simp[execOp,hop,e,run hz]) (Aif.val hinv.heap ⟨hidx,b,o',c,U,fr,by rw[Awo,Nat.add_assoc],hF,ho,hrc⟩)
  ·rename_i id k fld hz hx
   refine⟨_,_,h,fun st hs hg F ρ a W hinv hr=>?_⟩
   have:=hr x
   rw[hx]at this
   obtain⟨U,t,xs,hb,bb,hbs,e⟩:=this
   exact Ctk.of_run (r:=.pointer (some ((⟨bb,fld,none⟩:Addr).add fd.1))) (by simp[execOp,hop,e,run hz]) (Aif.val hinv.heap ⟨U,t,xs,hb,bb,hbs,by rw[Awo]⟩)
  ·cases h
 case field T x f=>
  split at h
  case h_2=>cases h
  rename_i i hi
  split at h
  case h_2=>cases h
  rename_i fs hdd
  split at h
  case h_2=>cases h
  rename_i fd cs hfd hx
  split at h
  case h_2=>cases h
  rename_i fi hfi
  split at h
  case h_2=>cases h
  rename_i v hle hm
  have hle:=Nat.le_of_ble_eq_true hle
  obtain⟨u,hu,hmm⟩:=(htt T i hi).under
  rw[hdd]at hmm
  cases u<;>simp[Abz]at hmm
  rename_i gs
  obtain⟨fu,hfu,hfm⟩:=(htt _ fi hfi).under
  obtain⟨fin,hfin,hfs,_⟩:=(htt _ fi hfi).info
  refine⟨_,_,h,fun st hs hg F ρ a W hinv hr=>?_⟩
  have:=hr x
  rw[hx]at this
  obtain⟨rs,e,hrs⟩:=this
  subst hmm
  simp only[List.getElem?_map,Array.getElem?_toList]at hfd
  cases eg:gs[f]? with
  |none=>rw[eg]at hfd;simp at hfd
  |some fl=>
   rw[eg]at hfd
   simp at hfd
   subst hfd
   simp only at hle hm hfu hfin
   have hseg:=(hrs.drop fl.offset).take fi.size
   have hrl:rs.size=cs.length:=by simpa using hrs.length.symm
   rcases Czt hm hseg with ⟨ha,hv⟩|⟨ha,y,hy,hv⟩
   ·refine Ctk.of_run (r:=.agg ((rs.toList.drop fl.offset).take fi.size).toArray) ?_ (Aif.val hinv.heap hv)
    simp[execOp,hop,e,Instr.field,Aaj hu,eg,asAgg,part,Bt4 hfu hfm,ha,Agq hfin,hfs]
    apply Array.ext'
    simp
   ·refine Ctk.of_run (r:=y) ?_ (Aif.val hinv.heap hv)
    have hy0:rs[fl.offset]? = some y:=by
     have hl:fi.size≠0:=by
      intro h0
      rw[h0]at hy;simp at hy
     have:=congrArg (fun l=>l[0]?) hy
     simp[List.getElem?_drop,Nat.pos_of_ne_zero hl]at this
     exact this
    simp[execOp,hop,e,Instr.field,Aaj hu,eg,asAgg,part,Bt4 hfu hfm,ha,hy0]
 case indexAddr T x i=>
  split at h
  case h_2=>cases h
  rename_i iv hiv
  obtain⟨l,v,hK,hf⟩:=Cqa (g:=g) htt h
  refine⟨_,_,hK,fun st hs hg F ρ a W hinv hr=>?_⟩
  obtain⟨k,hk⟩:=Awp hiv (hr i)
  obtain⟨r,W',h1,h2⟩:=hf F ρ st.hp W _ k hinv.heap hs.shp hg (hr x)
  exact Ctk.of_run (by simp[execOp,hop,hk,h1]) h2
 case index T x i=>
  split at h
  case h_2=>cases h
  rename_i s iv htd hx hiv
  split at h
  case isFalse=>cases h
  rename_i hin
  refine⟨_,_,h,fun st hs hg F ρ a W hinv hr=>?_⟩
  obtain⟨k,hk⟩:=Awp hiv (hr i)
  have hxr:=hr x
  rw[hx]at hxr
  simp only[RV,RV1,Abm,RA,RC]at hxr
  injection hxr with hxr
  split at htd
  case h_2=>cases htd
  rename_i ti hti
  obtain⟨u,hu,hm⟩:=(htt T ti hti).under
  rw[htd]at hm
  cases u<;>simp[Abz]at hm
  have hlt:iv.toNat<(s:List UInt8).length:=by have:=hin.2;have:=hin.1;omega
  refine Ctk.of_run (r:=.int .u8 (((s:List UInt8).getD iv.toNat 0).toNat:Int)) ?_ (Aif.val hinv.heap rfl)
  have hsz:(⟨(s:List UInt8).toArray⟩:ByteArray).size=(s:List UInt8).length:=by simp[ByteArray.size]
  have hr2:=run_index_string (P:=P) W T ⟨(s:List UInt8).toArray⟩ k iv hu
  rw[dif_pos (by rw[hsz];exact hin)]at hr2
  simp only[execOp,hop,hxr,hk,Sem.run_bind,hr2,Result.andThen_ok,Sem.run_pure]
  congr 4
  rw[List.getD_eq_getElem?_getD,List.getElem?_eq_getElem hlt]
  rfl
 case binOp op T x y yt=>
  obtain⟨v,hK,hf⟩:=C9x htt h
  refine⟨_,_,hK,fun st hs hg F ρ a W hinv hr=>?_⟩
  obtain⟨r,h1,h2⟩:=hf F ρ st.hp W _ _ hinv.heap (hr x) (hr y) (fun c hc=>by subst hc;rfl)
  refine Ctk.of_run (r:=r) ?_ (Aif.val hinv.heap h2)
  have h1':=h1
  simp only[execOp,hop,Sem.run_bind]at h1 ⊢
  rw[h1];rfl
 case unOp op T x=>
  split at h
  ·rename_i b hx
   refine⟨_,_,h,fun st hs hg F ρ a W hinv hr=>?_⟩
   have hxr:=hr x
   rw[hx]at hxr
   simp only[RV,RV1,Abm,RA,RC]at hxr
   injection hxr with hxr
   exact Ctk.of_run (r:=.bool (!b)) (by simp[execOp,hop,hxr,Op.unary]) (Aif.val hinv.heap rfl)
  ·rename_i k m hx
   refine⟨_,_,h,fun st hs hg F ρ a W hinv hr=>?_⟩
   have hxr:=hr x
   rw[hx]at hxr
   simp only[RV,RV1,Abm,RA,RC]at hxr
   injection hxr with hxr
   exact Ctk.of_run (r:=.int k (k.wrap (0-m))) (by simp[execOp,hop,hxr,Op.unary,Op.intArith]) (Aif.val hinv.heap rfl)
  ·rename_i k m hx
   split at h
   case h_2=>cases h
   rename_i hk
   refine⟨_,_,h,fun st hs hg F ρ a W hinv hr=>?_⟩
   have hxr:=hr x
   rw[hx]at hxr
   simp only[RV,RV1,Abm,RA,RC]at hxr
   injection hxr with hxr
   exact Ctk.of_run (r:=.int k (Bz6 k (-1) m)) (by simp[execOp,hop,hxr,Op.unary,Op.intBits,hk,Bz6]) (Aif.val hinv.heap rfl)
  ·cases h
 case convert S T x=>
  split at h
  case h_2=>cases h
  rename_i si ti hsi hti
  obtain⟨su,hsu,hsm⟩:=(htt S si hsi).under
  obtain⟨tu,htu,htm⟩:=(htt T ti hti).under
  split at h
  ·rename_i sd k k' m hsd htd hx
   rw[htd]at htm
   cases tu<;>simp[Abz]at htm
   subst htm
   refine⟨_,_,h,fun st hs hg F ρ a W hinv hr=>?_⟩
   have hxr:=hr x
   rw[hx]at hxr
   simp only[RV,RV1,Abm,RA,RC]at hxr
   injection hxr with hxr
   exact Ctk.of_run (by simp[execOp,hop,hxr,convert,Aaj hsu,Aaj htu,Conv.intToInt]) (Aif.val hinv.heap rfl)
  ·rename_i s hsd htd hx
   rw[htd]at htm
   rw[hsd]at hsm
   cases tu<;>simp[Abz]at htm
   cases su<;>simp[Abz]at hsm
   refine⟨_,_,h,fun st hs hg F ρ a W hinv hr=>?_⟩
   have hxr:=hr x
   rw[hx]at hxr
   have h0:=hxr
   simp only[RV,RV1,Abm,RA,RC]at hxr
   injection hxr with hxr
   refine Ctk.of_run (r:=a.eval x) ?_ (Aif.val hinv.heap h0)
   simp[execOp,hop,hxr,convert,Aaj hsu,Aaj htu]
  ·rename_i E s hsd htd hx
   rw[htd]at htm
   rw[hsd]at hsm
   cases tu<;>simp[Abz]at htm
   rename_i E1
   subst htm
   cases su<;>simp[Abz]at hsm
   split at h
   case h_2=>cases h
   rename_i ei hei hn
   split at h
   case h_2=>cases h
   rename_i hed
   split at h
   case isFalse=>cases h
   rename_i hlim
   obtain⟨eu,heu,hem⟩:=(htt _ ei hei).under
   rw[hed]at hem
   cases eu<;>simp[Abz]at hem
   subst hem
   refine⟨_,_,h,fun st hs hg F ρ a W hinv hr=>?_⟩
   have hxr:=hr x
   rw[hx]at hxr
   simp only[RV,RV1,Abm,RA,RC]at hxr
   injection hxr with hxr
   have hl8:(s:List UInt8).length*1=(s:List UInt8).length:=by omega
   let cap:=grownCap W (s:List UInt8).length 0 E1
   have hcap:(s:List UInt8).length≤cap:=by simp only[cap];unfold grownCap;simp[Question.cut]
   let cs:Array Value:=((s:List UInt8).map fun b=>Value.int .u8 (b.toNat:Int)).toArray++Array.replicate (cap-(s:List UInt8).length) (.int .u8 0)
   have hcs:cs.size=cap:=by simp[cs];omega
   have hnb:Bcu W (.cells cs E1 (cap,cap+1)) {W.drew with heap:=W.heap.push (.cells cs E1 (cap,cap+1))}:=⟨rfl,rfl,rfl,rfl⟩
   refine Ctk.of_run (r:=.slice (some ⟨W.heap.size,0,none⟩) (s:List UInt8).length cap) (W':={W.drew with heap:=W.heap.push (.cells cs E1 (cap,cap+1))}) ?_ ?_
   ·have hsz:(⟨(s:List UInt8).toArray⟩:ByteArray).size=(s:List UInt8).length:=by simp[ByteArray.size]
    have hmod:World.freeze {heap:=W.heap.push (.cells cs E1),tape:=W.tape,drawn:=W.drawn+1,os:=W.os,output:=W.output} {block:=W.heap.size,off:=cap} 1={W.drew with heap:=W.heap.push (.cells cs E1 (cap,cap+1))}:=by
     unfold World.freeze
     rw[if_neg (by omega)]
     have:∀f:Obj→Obj,(W.heap.push (.cells cs E1)).modify W.heap.size f=W.heap.push (f (.cells cs E1)):=by
      intro f
      apply Array.ext
      ·simp
      ·intro i h1 h2
       simp only[Array.getElem_modify]
       simp at h2
       by_cases e:W.heap.size=i
       ·subst e;simp
       ·rw[if_neg e,Array.getElem_push_lt (by omega),Array.getElem_push_lt (by omega)]
     rw[this]
     rfl
    have hdata:(Array.map (fun b:UInt8=>Value.int .u8 (b.toNat:Int)) (s:List UInt8).toArray)=((s:List UInt8).map fun b=>Value.int .u8 (b.toNat:Int)).toArray:=by simp
    have hcapd:(Question.appendCap (s:List UInt8).length 0 E1).cut (W.tape W.drawn (.appendCap (s:List UInt8).length 0 E1))=cap:=rfl
    simp only[execOp,hop,hxr,convert,Sem.run_bind,Aaj hsu,Aaj htu,Result.andThen_ok,Aaj heu,Conv.stringToBytes,hsz,run_choose,Question.forced]
    simp only[Bool.false_eq_true,if_false,Result.andThen_ok,Aqe,markStringish,Sem.run_bind,run_shape,hcapd]
    have hcse:Array.map (fun b:UInt8=>Value.int .u8 (b.toNat:Int)) (List.toArray s)++Array.replicate (cap-List.length (α:=UInt8) s) (Value.int .u8 0)=cs:=by simp[cs]
    rw[hcse]
    simp only[World.shape?,Array.getElem?_push_size,hcs,run_freeze,Result.andThen_ok,Sem.run_pure]
    rw[hmod]
   ·have:=Cfg (g:=g) (ρ:=ρ) (F:=F) (t:=.int .u8) (xs:=(s:List UInt8).map fun b=>(b.toNat:Int)) (cap:=cap) (E:=E1) hinv.heap (hs.snew 0 (by omega) hn) (Anp (o.dst.getD 0) 0) hnb (fun o' ho' hc=>by simp only at hc;omega) (by simp[Ty.size,hcs]) (by simpa using hcap) (fun i hi=>by
     simp at hi
     simp only[Ty.size,Nat.mul_one,RC]
     have:Afk cs i 1=[.int .u8 ((s:List UInt8)[i].toNat:Int)]:=by
      apply List.ext_getElem?
      intro j
      cases j with
      |zero=>
       rw[Bg3 (by omega)]
       rw[Nat.add_zero]
       have:i<((s:List UInt8).map fun b=>Value.int .u8 (b.toNat:Int)).toArray.size:=by simpa using hi
       simp only[cs,Array.getElem?_append_left this]
       simp[hi]
      |succ j=>rw[List.getElem?_eq_none (by simp[Afk];omega)];simp
     rw[this]
     simp[List.getD_eq_getElem?_getD,hi])
    simp only[Aa3]
    simpa using this
  ·rename_i E x' hsd htd hx
   rw[htd]at htm
   rw[hsd]at hsm
   cases tu<;>simp[Abz]at htm
   cases su<;>simp[Abz]at hsm
   subst hsm
   split at h
   case h_2=>cases h
   rename_i ei hei
   split at h
   case h_2=>cases h
   rename_i hed
   split at h
   case h_2=>cases h
   rename_i y l hfz
   split at h
   case h_2=>cases h
   rename_i ys hys
   obtain⟨eu,heu,hem⟩:=(htt _ ei hei).under
   rw[hed]at hem
   cases eu<;>simp[Abz]at hem
   subst hem
   refine⟨_,_,h,fun st hs hg F ρ a W hinv hr=>?_⟩
   have hxr:=hr x
   have hsrc:Bt0 hq (.int .u8) (ev x)=some ys:=by
    rw[hx]
    simp only[Bt0,hfz]
    split
    ·rename_i hc
     subst_vars
     simp[Apg.get]at hys
    ·exact hys
   have sx:=Bau (P:=P) hsrc hinv.heap hs.shp hxr
   rw[hx]at hxr
   obtain⟨A,l',c,hsl⟩:=C4a hfz hys hxr
   rw[hsl]at sx
   refine Ctk.of_run (r:=.string ⟨((ys:List Int).map fun n=>UInt8.ofNat n.toNat).toArray⟩) ?_ (Aif.val hinv.heap (by simp only[RV,RV1,Abm,RA,RC]))
   have:=C39 sx
   simp[execOp,hop,hsl,convert,Aaj hsu,Aaj htu,Aaj heu,this]
  ·cases h
 case slice T x lo hi mx=>
  obtain⟨v,hK,hf⟩:=C36 htt h
  refine⟨_,_,hK,fun st hs hg F ρ a W hinv hr=>?_⟩
  obtain⟨r,h1,h2⟩:=hf F ρ st.hp W _ _ _ _ hinv.heap hs.shp (hr x) (Clq hr lo) (Clq hr hi) (Clq hr mx)
  exact Ctk.of_run (by simp[execOp,hop,h1]) (Aif.val hinv.heap h2)
 case makeFunc fn first captured=>
  cases fn with
  |func f=>
   simp only at h
   have atoms:∀{F:Fz} {ρ:Rho} {hp:Aam} {re:Operand→Value},(∀x,RV F ρ hp (ev x) (re x))→∀(l:List Operand) (cs:List Apg),Bpb (l.map ev)=some cs→Abs (RA F ρ hp) cs (l.map re):=by
    intro F ρ hp re hr l
    induction l with
    |nil=>intro cs h;cases h;trivial
    |cons y l ih=>
     intro cs h
     rw[List.map_cons]at h
     cases hy:ev y with
     |tup _=>rw[hy]at h;cases h
     |z _ _=>rw[hy]at h;cases h
     |v q=>
      cases q with
      |agg _=>rw[hy]at h;cases h
      |one c=>
       cases c with
       |func _ _=>rw[hy]at h;cases h
       |meth _ _=>rw[hy]at h;cases h
       |iface _ _=>rw[hy]at h;cases h
       |a z=>
        rw[hy]at h
        simp only[Bpb]at h
        cases hm:Bpb (l.map ev) with
        |none=>rw[hm]at h;cases h
        |some r=>
         rw[hm]at h
         cases h
         have:=hr y
         rw[hy]at this
         exact⟨this,ih r hm⟩
   split at h
   ·rename_i caps hf hc
    refine⟨_,_,h,fun st hs hg F ρ a W hinv hr=>?_⟩
    have hfe:first = #[]:=by
     apply Array.ext'
     simpa using hf
    refine Ctk.of_run (r:=.func (.func f) #[] (captured.map a.eval)) ?_ (Aif.val hinv.heap ⟨_,rfl,?_⟩)
    ·simp[execOp,hop,Instr.makeFunc,hfe]
    ·have:=atoms hr captured.toList caps hc
     simpa using this
   ·rename_i x r hf hc
    split at h
    case h_2=>cases h
    rename_i rs hrs
    refine⟨_,_,h,fun st hs hg F ρ a W hinv hr=>?_⟩
    have hce:captured = #[]:=by
     apply Array.ext'
     cases hl:captured.toList with
     |nil=>rfl
     |cons y l=>
      have:=(atoms hr captured.toList [] hc).nil_left
      rw[hl]at this;cases this
    refine Ctk.of_run (r:=.func (.func f) (first.map a.eval) #[]) ?_ (Aif.val hinv.heap ⟨_,rfl,?_⟩)
    ·simp[execOp,hop,Instr.makeFunc,hce]
    ·have:=atoms hr (x::r) rs hrs
     rw[←hf]at this
     simpa using this
   ·cases h
  | _=>simp only at h;cases h
 case makeMap T rsv=>
  split at h
  case h_2=>cases h
  rename_i i hi hn
  split at h
  case h_2=>cases h
  rename_i k e hdd
  split at h
  ·rename_i kt et hkt het
   refine⟨_,_,h,fun st hs hg F ρ a W hinv hr=>?_⟩
   have hnb:Bcu W (.map #[] 0) {W with heap:=W.heap.push (.map #[] 0)}:=⟨rfl,rfl,rfl,rfl⟩
   refine Ctk.of_run (r:=.map (some W.heap.size)) (W':={W with heap:=W.heap.push (.map #[] 0)}) (by simp[execOp,hop,Instr.makeMap]) ?_
   have hpt:=Ayk.fresh (g:=g) (F:=F) (ρ:=ρ) (cap:=0) (b:=.amap T kt et []) (hs.snew 0 (by omega) hn) (Anp (o.dst.getD 0) 0) rfl hnb
   simp only[Aa3]
   exact hpt.good hinv.heap ⟨W.heap.size,#[],0,by simp,hnb.at_,trivial⟩ ⟨_,W.heap.size,Afw _ _ _,rfl,by simp,rfl⟩
  ·rename_i ki hkt het
   split at h
   ·rename_i E t hpo
    split at h
    case h_2=>cases h
    rename_i hn1
    refine⟨_,_,h,fun st hs hg F ρ a W hinv hr=>?_⟩
    have f0:=hs.snew 0 (by omega) hn
    have f1:=hs.snew 1 (by omega) hn1
    have hne:Aa5 (o.dst.getD 0) 0≠Aa5 (o.dst.getD 0) 1:=by simp[Aa5]
    have hnb:Bcu W (.map #[] 0) {W with heap:=W.heap.push (.map #[] 0)}:=⟨rfl,rfl,rfl,rfl⟩
    refine Ctk.of_run (r:=.map (some W.heap.size)) (W':={W with heap:=W.heap.push (.map #[] 0)}) (by simp[execOp,hop,Instr.makeMap]) ?_
    have hp1:Ayk g F ρ st.hp W (Aa5 (o.dst.getD 0) 1) ⟨[],0⟩ (.pool E t []) W :=
     ⟨rfl,rfl,rfl,Nat.le_refl _,fun _ _ _=>rfl,fun _ hk=>(by cases hk),fun b0 h0=>by (rw[f1]at h0;cases h0),fun _=>Anp _ 1,rfl,fun _=>Anp _ 1⟩
    simp only[Aa3]
    refine (hp1.good hinv.heap (v:=.at .undef) (r:=undef) ?_ trivial).seq fun F1 ρ1 ho1 m1 fm1 _=>?_
    ·exact⟨by simp,by simp,fun k x hx=>by simp at hx⟩
    ·have f2:Aht st.hp (Aa5 (o.dst.getD 0) 1) (.pool E t []) (Aa5 (o.dst.getD 0) 0)=none:=by rw[Ad6 hne];exact f0
     have hpt:=Ayk.fresh (g:=g) (F:=F1) (ρ:=ρ1) (cap:=0) (b:=.pmap T ki (Aa5 (o.dst.getD 0) 1) []) f2 (Anp (o.dst.getD 0) 0) rfl hnb
     exact hpt.good ho1 ⟨⟨E,t,[],by rw[Ad6 (Ne.symm hne)];simp⟩,W.heap.size,#[],0,by simp,hnb.at_,trivial⟩ ⟨_,W.heap.size,Afw _ _ _,rfl,by simp,rfl⟩
   ·refine⟨_,_,h,fun st hs hg F ρ a W hinv hr=>?_⟩
    have hnb:Bcu W (.map #[] 0) {W with heap:=W.heap.push (.map #[] 0)}:=⟨rfl,rfl,rfl,rfl⟩
    refine Ctk.of_run (r:=.map (some W.heap.size)) (W':={W with heap:=W.heap.push (.map #[] 0)}) (by simp[execOp,hop,Instr.makeMap]) ?_
    have hpt:=Ayk.fresh (g:=g) (F:=F) (ρ:=ρ) (cap:=0) (b:=.fmap T ki []) (hs.snew 0 (by omega) hn) (Anp (o.dst.getD 0) 0) rfl hnb
    simp only[Aa3]
    exact hpt.good hinv.heap ⟨W.heap.size,#[],0,by simp,hnb.at_,trivial⟩ ⟨_,W.heap.size,Afw _ _ _,rfl,by simp,rfl⟩
  ·cases h
 case mapUpdate T m k v=>
  obtain⟨l,hK,hf⟩:=Cie (g:=g) htt h
  refine⟨_,_,hK,fun st hs hg F ρ a W hinv hr=>?_⟩
  obtain⟨W',h1,h2⟩:=hf F ρ st.hp W _ _ _ hinv.heap hs.shp hg (hr m) (hr k) (hr v)
  exact Ctk.of_skip (by simp[execOp,hop,h1]) h2
 case insert T m k v=>
  obtain⟨l,hK,hf⟩:=Cie (g:=g) htt h
  refine⟨_,_,hK,fun st hs hg F ρ a W hinv hr=>?_⟩
  obtain⟨W',h1,h2⟩:=hf F ρ st.hp W _ _ _ hinv.heap hs.shp hg (hr m) (hr k) (hr v)
  exact Ctk.of_skip (by simp[execOp,hop,h1]) h2
 case lookup T m k ok=>
  obtain⟨v,hK,hf⟩:=C00 htt h
  refine⟨_,_,hK,fun st hs hg F ρ a W hinv hr=>?_⟩
  obtain⟨r,h1,h2⟩:=hf F ρ st.hp W _ _ hinv.heap hs.shp (hr m) (hr k)
  exact Ctk.of_run (by simp[execOp,hop,h1]) (Aif.val hinv.heap h2)
 case makeSlice T l c=>
  split at h
  case h_2=>cases h
  rename_i i lv cv hi hl hc hn
  split at h
  case h_2=>cases h
  rename_i E hdd
  split at h
  case h_2=>cases h
  rename_i ei t hei ht
  split at h
  case h_2=>cases h
  rename_i z hsz hz
  simp only[Bool.and_eq_true]at hsz
  obtain⟨hsz,hby⟩:=hsz
  have hsz:=Aa8 hsz
  have hby:0<ei.bytes:=by simpa [Nat.blt_eq]using hby
  split at h
  case isFalse=>cases h
  rename_i hb
  refine⟨_,_,h,fun st hs hg F ρ a W hinv hr=>?_⟩
  obtain⟨k,hk⟩:=Awp hl (hr l)
  obtain⟨k',hk'⟩:=Awp hc (hr c)
  have hlim:cv≤4611686018427387904:=by
   have h1:cv*1≤cv*(ei.bytes:Int):=Int.mul_le_mul_of_nonneg_left (by omega) (by omega)
   have:(LIM:Int)=70368744177664:=rfl
   omega
  obtain⟨r,W',h1,h2⟩:=C6u (P:=P) htt (g:=g) hi hdd hei hsz hz hb (k:=k) (k':=k') hinv.heap (hs.snew 0 (by omega) hn) (Anp _ 0) hlim
  exact Ctk.of_run (by simp[execOp,hop,hk,hk',h1]) h2
 case extract x i=>
  split at h
  case h_2=>cases h
  rename_i vs hx
  split at h
  case h_2=>cases h
  rename_i v hv
  refine⟨_,_,h,fun st hs hg F ρ a W hinv hr=>?_⟩
  have hxr:=hr x
  rw[hx]at hxr
  obtain⟨rs,e,hrs⟩:=hxr
  obtain⟨b,hb1,hb2⟩:=hrs.get _ _ hv
  refine Ctk.of_run (r:=b) ?_ (Aif.val hinv.heap hb2)
  have:rs[i]? = some b:=by simpa using hb1
  simp[execOp,hop,e,Instr.extract,this]
 case call c=>
  have ex:∀{a:Act} {W:World},(execOp a.eval o).run P W=((resolve a.eval c o.type).run P W).andThen fun d W'=>(invoke d.target d.args).run P W':=by
   intro a W
   simp[execOp,hop]
  split at h
  ·rename_i x T hc hargs hats
   have hargs:c.args = #[x]:=by apply Array.ext';simpa using hargs
   have hats:c.argTypes = #[T]:=by apply Array.ext';simpa using hats
   obtain⟨v,hK,hf⟩:=C9u htt h
   refine⟨_,_,hK,fun st hs hg F ρ a W hinv hr=>?_⟩
   obtain⟨r,h1,h2⟩:=hf F ρ st.hp W _ c.argTypes o.type (by rw[hats];rfl) (by rw[hats];simp) hinv.heap hs.shp (hr x)
   refine Ctk.of_run (r:=r) ?_ (Aif.val hinv.heap h2)
   rw[ex]
   simp[resolve,hc,hargs,invoke,builtin,h1]
  ·rename_i hc
   split at h
   case h_2=>cases h
   rename_i v hv
   refine⟨_,_,h,fun st hs hg F ρ a W hinv hr=>?_⟩
   have hall:=Bpu hr c.args.toList
   cases hl:c.args.toList with
   |nil=>rw[hl]at hv;simp[Bw9,Bat]at hv
   |cons x0 l0=>
    have hl':=hl
    rw[hl]at hv hall
    obtain⟨r,h1,h2⟩:=Cif P (F:=F) (ρ:=ρ) (hp:=st.hp) (W:=W) (l0.map ev) (ev x0) v (a.eval x0) (l0.map a.eval) hv hall.1 hall.2
    refine Ctk.of_run (r:=r) ?_ (Aif.val hinv.heap h2)
    rw[ex]
    simp only[if_true]at h1
    simp[resolve,hc,invoke,builtin,Builtin.max_,hl',h1]
  ·rename_i hc
   split at h
   case h_2=>cases h
   rename_i v hv
   refine⟨_,_,h,fun st hs hg F ρ a W hinv hr=>?_⟩
   have hall:=Bpu hr c.args.toList
   cases hl:c.args.toList with
   |nil=>rw[hl]at hv;simp[Bw9,Bat]at hv
   |cons x0 l0=>
    have hl':=hl
    rw[hl]at hv hall
    obtain⟨r,h1,h2⟩:=Cif P (F:=F) (ρ:=ρ) (hp:=st.hp) (W:=W) (l0.map ev) (ev x0) v (a.eval x0) (l0.map a.eval) hv hall.1 hall.2
    refine Ctk.of_run (r:=r) ?_ (Aif.val hinv.heap h2)
    rw[ex]
    simp only[Bool.false_eq_true,if_false]at h1
    simp[resolve,hc,invoke,builtin,Builtin.min_,hl',h1]
  ·rename_i s x T Tx hc hargs hats
   have hargs:c.args = #[s,x]:=by apply Array.ext';simpa using hargs
   have hats:c.argTypes = #[T,Tx]:=by apply Array.ext';simpa using hats
   obtain⟨l,v,hK,hf⟩:=C0y (g:=g) htt h
   refine⟨_,_,hK,fun st hs hg F ρ a W hinv hr=>?_⟩
   obtain⟨r,W',h1,h2⟩:=hf F ρ st.hp W _ _ o.type hinv.heap hs.shp (hs.snew 0 (by omega)) hg (hr s) (hr x)
   refine Ctk.of_run (r:=r) ?_ h2
   rw[ex]
   simp[resolve,hc,hargs,hats,invoke,builtin,h1]
  ·rename_i d x T ts hc hargs hats
   have hargs:c.args = #[d,x]:=by apply Array.ext';simpa using hargs
   have hats:c.argTypes[0]? = some T:=by
    have:=congrArg (fun l=>l[0]?) hats
    simpa using this
   obtain⟨l,v,hK,hf⟩:=C6w (g:=g) htt h
   refine⟨_,_,hK,fun st hs hg F ρ a W hinv hr=>?_⟩
   obtain⟨r,W',h1,h2⟩:=hf F ρ st.hp W _ _ c.argTypes o.type hats hinv.heap hs.shp hg (hr d) (hr x)
   refine Ctk.of_run (r:=r) ?_ h2
   rw[ex]
   simp[resolve,hc,hargs,invoke,builtin,h1]
  ·rename_i d x T ts hc hargs hats
   have hargs:c.args = #[d,x]:=by apply Array.ext';simpa using hargs
   have hats:c.argTypes[0]? = some T:=by
    have:=congrArg (fun l=>l[0]?) hats
    simpa using this
   obtain⟨l,hK,hf⟩:=C01 (g:=g) htt h
   refine⟨_,_,hK,fun st hs hg F ρ a W hinv hr=>?_⟩
   obtain⟨W',h1,h2⟩:=hf F ρ st.hp W _ _ c.argTypes o.type hats hinv.heap hs.shp hg (hr d) (hr x)
   refine Ctk.of_run (r:=.tuple #[]) ?_ h2
   rw[ex]
   simp[resolve,hc,hargs,invoke,builtin,h1]
  ·rename_i f hc
   split at h
   ·rename_i fid caps hf
    obtain⟨l',v,hK,hcall⟩:=hΓ R hq fid _ _ K res h
    refine⟨_,_,hK,fun st hs hg F ρ a W hinv hr=>?_⟩
    have hfr:=hr f
    rw[hf]at hfr
    obtain⟨cs,hfv,hcs⟩:=hfr
    have hall:=Bpu hr c.args.toList
    obtain⟨fn,hfn,hbody,hname,hcl⟩:=hcall g F ρ st.hp W (c.args.map a.eval++cs) hinv.heap hs.shp hs.snew hg (by
     simp only[Array.toList_append,Array.toList_map]
     exact hall.append (Abs.map (hcs.mono fun _ _ h=>h)))
    refine .inr ⟨fid,_,W,?_,hcl⟩
    rw[ex]
    simp[resolve,hc,hfv,Deferred.ofValue,invoke,callFunc,hfn,hname]
    intro h0;rw[h0]at hbody;cases hbody
   ·rename_i fid caps hf
    obtain⟨l',v,hK,hcall⟩:=hΓ R hq fid _ _ K res h
    refine⟨_,_,hK,fun st hs hg F ρ a W hinv hr=>?_⟩
    have hfr:=hr f
    rw[hf]at hfr
    obtain⟨cs,hfv,hcs⟩:=hfr
    have hall:=Bpu hr c.args.toList
    obtain⟨fn,hfn,hbody,hname,hcl⟩:=hcall g F ρ st.hp W (cs++c.args.map a.eval) hinv.heap hs.shp hs.snew hg (by
     simp only[Array.toList_append,Array.toList_map]
     exact Abs.append (R:=RV F ρ st.hp) (Abs.map (hcs.mono fun _ _ h=>h)) hall)
    refine .inr ⟨fid,_,W,?_,hcl⟩
    rw[ex]
    simp[resolve,hc,hfv,Deferred.ofValue,invoke,callFunc,hfn,hname]
    intro h0;rw[h0]at hbody;cases hbody
   ·cases h
  ·cases h
end
end
end Go.AX

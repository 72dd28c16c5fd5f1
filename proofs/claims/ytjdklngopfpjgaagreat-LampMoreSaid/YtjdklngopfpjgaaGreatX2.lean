/- A reading of the model's code over typed data,proved sound: each operation is sound,the first half. -/
import Derived.Test.YtjdklngopfpjgaaGreatX1
import Derived.Laws.Append
import Derived.Laws.Strings
namespace Go.AX
noncomputable section
structure Bcu(W:World)(o:Obj)(W':World):Prop where
 os:W'.os=W.os
 tape:W'.tape=W.tape
 output:W'.output=W.output
 heap:W'.heap=W.heap.push o
theorem Bcu.at_{W W':World}{o:Obj}(h:Bcu W o W'):W'.heap[W.heap.size]? = some o:=by rw[h.heap];simp
theorem Bcu.old{W W':World}{o:Obj}(h:Bcu W o W'){k:Nat}(hk:k<W.heap.size):W'.heap[k]? = W.heap[k]?:=by
 rw[h.heap,Array.getElem?_push,if_neg (by omega)]
theorem Ayk.fresh{g:List Bool}{F:Fz}{ρ:Rho}{hp:Aam}{W W':World}{id cap:Nat}{b:Aau}{o:Obj}(hn:hp id=none)(h32:32≤id)(hz:b.fz=false)(h:Bcu W o W'):Ayk g F ρ hp W id ⟨[W.heap.size],cap⟩ b W':=by
 refine⟨h.os,h.tape,h.output,by rw[h.heap];simp,fun k hk _=>h.old hk,fun k hk=>.inr (by simp at hk;omega),fun b0 h0=>?_,fun _=>h32,hz,fun _=>h32⟩
 rw[hn]at h0;cases h0
theorem Anp(d j:Nat):32≤Aa5 d j:=by unfold Aa5;omega
theorem Cia{g:List Bool}{F:Fz}{ρ:Rho}{hp:Aam}{W:World}{id:Nat}{T:TypeId}{cs:List Aby}{rs:List Value}(hh:Abx F ρ hp W)(hn:hp id=none)(h32:32≤id)(hr:Abs (Abm F ρ hp) cs rs):Aif g F ρ hp W (Aht hp id (.cells T cs)) (.at (.ptr id 0 0 0)) (.pointer (some ⟨W.heap.size,0,none⟩)) {W with heap:=W.heap.push (.cells rs.toArray T)}:=by
 have hnb:Bcu W (.cells rs.toArray T) {W with heap:=W.heap.push (.cells rs.toArray T)}:=⟨rfl,rfl,rfl,rfl⟩
 have hpt:=Ayk.fresh (g:=g) (F:=F) (ρ:=ρ) (cap:=0) (b:=.cells T cs) hn h32 rfl hnb
 refine hpt.good hh ?_ ⟨_,Afw _ _ _,Nat.le_refl _,_,rfl,fun _=>⟨rfl,W.heap.size,by simp,rfl⟩⟩
 exact⟨W.heap.size,rs.toArray,(0,0),by simp,hnb.at_,fun o _ h=>by omega,by simpa using hr.mono fun _ _=>Abm.mono (fun _ _ h=>h) hpt.keep⟩
theorem Cfg{g:List Bool}{F:Fz}{ρ:Rho}{hp:Aam}{W W':World}{id:Nat}{E:TypeId}{t:Ty}{xs:List t.den}{rs:Array Value}{cap:Nat}{fr:Nat×Nat}(hh:Abx F ρ hp W)(hn:hp id=none)(h32:32≤id)(hnb:Bcu W (.cells rs E fr) W')(hnf:NF fr rs.size)(hsz:rs.size=cap*t.size)(hle:xs.length≤cap)(hr:∀i,i<xs.length→RC F t (xs.getD i t.dflt) (Afk rs (i*t.size) t.size)) :
  Aif g F ρ hp W (Aht hp id (.row E t 0 false xs)) (.at (.slf id 0)) (.slice (some ⟨W.heap.size,0,none⟩) xs.length cap) W':=by
 have hpt:=Ayk.fresh (g:=g) (F:=F) (ρ:=ρ) (cap:=cap) (b:=.row E t 0 false xs) hn h32 rfl hnb
 refine hpt.good hh ?_ ⟨_,Afw _ _ _,Nat.le_refl _,_,_,_,rfl,fun _=>⟨rfl,by simp,fun bb h=>by simp at h;rw[h]⟩⟩
 exact .inr ⟨W.heap.size,rs,fr,by simp,hnb.at_,hnf,by simpa using hsz,by simpa using hle,hr,fun h=>by cases h⟩
theorem nf0(n:Nat):NF (0,0) n:=fun o _ h=>by omega
section
variable {P:Program}
theorem Bpf{tt:TT}(htt:Aj1 P tt){T:TypeId}{i:TI}(hi:tt.get T=some i){zs:List Aby}(hz:i.zero=some zs)(F:Fz)(ρ:Rho)(hp:Aam)(W:World) :
  ∃z,(zeroValue T).run P W = .ok z W∧Abs (Abm F ρ hp) zs z.cells.toList:=by
 obtain⟨f,hf,_,_,hzz⟩:=(htt T i hi).info
 obtain⟨z,h1,h2,_⟩:=hzz zs hz
 refine⟨z,by simp[zeroValue,Aqu hf,h1],?_⟩
 rw[←h2]
 exact Abs.map (Abs.of_get rfl fun i a b ha hb=>by rw[ha]at hb;cases hb;exact Afx F ρ hp _)
theorem Aqe(E:TypeId)(cells:Array Value)(W:World):(newRow E cells).run P W = .ok ⟨W.heap.size,0,none⟩ {W with heap:=W.heap.push (.cells cells E)}:=by
 simp[newRow]
theorem C32{tt:TT}(htt:Aj1 P tt){g:List Bool}{T:TypeId}{i:TI}(hi:tt.get T=some i){zs:List Aby}(hz:i.zero=some zs){F:Fz}{ρ:Rho}{hp:Aam}{W:World}{id:Nat}(hh:Abx F ρ hp W)(hn:hp id=none)(h32:32≤id) :
  ∃r W',(Instr.alloc T true (.tuple #[])).run P W = .ok r W'∧Aif g F ρ hp W (Aht hp id (.cells T zs)) (.at (.ptr id 0 0 0)) r W':=by
 obtain⟨z,h1,h2⟩:=Bpf htt hi hz F ρ hp W
 have:=Cia (g:=g) (T:=T) hh hn h32 h2
 refine⟨.pointer (some ⟨W.heap.size,0,none⟩),{W with heap:=W.heap.push (.cells z.cells T)},?_,by simpa using this⟩
 simp[Instr.alloc,h1,newVar,Aqe]
theorem C9p{g:List Bool}{T:TypeId}{v:AV}{cs:List Aby}(hc:Bg0 v=some cs){F:Fz}{ρ:Rho}{hp:Aam}{W:World}{id:Nat}{rv:Value}(hh:Abx F ρ hp W)(hn:hp id=none)(h32:32≤id)(hv:RV F ρ hp v rv) :
  ∃r W',(Instr.box T rv).run P W = .ok r W'∧Aif g F ρ hp W (Aht hp id (.cells T cs)) (.at (.ptr id 0 0 0)) r W':=by
 have:=Cia (g:=g) (T:=T) hh hn h32 (A64 hc hv).1
 refine⟨.pointer (some ⟨W.heap.size,0,none⟩),{W with heap:=W.heap.push (.cells rv.cells T)},?_,by simpa using this⟩
 simp[Instr.box,newVar,Aqe]
theorem Cph:∀(vs:List Value) (cs:Array Value) (o k:Nat),o+k+vs.length≤cs.size→
  ((vs.zipIdx k).foldl (fun (c:Array Value) (x:Value×Nat)=>c.setIfInBounds (o+x.2) x.1) cs).toList=cs.toList.take (o+k)++vs++cs.toList.drop (o+k+vs.length)
 |[],cs,o,k,_=>by simp
 |v::r,cs,o,k,h=>by
  simp only[List.length_cons]at h
  have hlt:o+k<cs.size:=by omega
  simp only[List.zipIdx_cons,List.foldl_cons]
  rw[Cph r _ o (k+1) (by simp;omega)]
  have e1:(cs.setIfInBounds (o+k) v).toList=cs.toList.set (o+k) v:=by simp
  rw[e1,show o+(k+1)=o+k+1 by omega,Bk7 _ _ _ (by simpa using hlt),List.drop_set_of_lt (by omega)]
  simp only[List.length_cons,List.append_assoc,List.singleton_append]
  congr 3;omega
theorem A2c{F:Fz}{ρ:Rho}{hp:Aam}{place place':Nat→Option (Nat×Nat)}:∀{parts:List (Nat×AV)} {rparts:List (Nat×Value)} {cs out:List Aby} {rs:Array Value},
  Bz9 place cs parts=some out→Abs (fun (p:Nat×AV) (q:Nat×Value)=>p.1=q.1∧RV F ρ hp p.2 q.2) parts rparts→Abs (Abm F ρ hp) cs rs.toList→
  (∀j o n,place j=some (o,n)→place' j=some (o,n))→∃rs',Instr.fill place' rs rparts=some rs'∧Abs (Abm F ρ hp) out rs'.toList∧rs'.size=rs.size
 |[],rparts,cs,out,rs,h,hp',hr,_=>by
  have:=hp'.nil_left;subst this
  cases h
  exact⟨rs,rfl,hr,rfl⟩
 |(j,v)::r,rparts,cs,out,rs,h,hp',hr,hpl=>by
  obtain⟨q,r',rfl,⟨e1,h1⟩,h2⟩:=hp'.cons_left
  obtain⟨qj,qv⟩:=q
  simp only at e1 h1;subst e1
  simp only[Bz9]at h
  split at h
  case h_2=>cases h
  rename_i off size new hpj hok
  split at h
  case h_2=>cases h
  rename_i hl hle
  have hl:=Aa8 hl
  have hle:=Nat.le_of_ble_eq_true hle
  obtain⟨hn1,hn2⟩:=A64 hok h1
  have e:qv.cells.size=new.length:=by have:=hn1.length;simp at this;omega
  have hrl:rs.size=cs.length:=by simpa using hr.length.symm
  have hrep:=A92 (o:=off) hr hn1
  have hfs:=Cph qv.cells.toList rs off 0 (by simp;omega)
  obtain⟨rs',i1,i2,i3⟩:=A2c (rs:=(qv.cells.zipIdx.foldl (fun cs (c,j)=>cs.setIfInBounds (off+j) c) rs)) h h2 (by
   rw[←Array.foldl_toList,Array.toList_zipIdx,hfs]
   simpa using hrep) hpl
  refine⟨rs',?_,i2,i3.trans ?_⟩
  ·simp only[Instr.fill,hpl _ _ _ hpj]
   rw[if_neg (by simp;omega)]
   exact i1
  ·rw[←Array.foldl_toList,Array.toList_zipIdx]
   have:=congrArg List.length hfs
   simp at this
   rw[this];omega
theorem B0b{F:Fz}{ρ:Rho}{hp:Aam}{ev:Operand→AV}{re:Operand→Value}(h:∀x,RV F ρ hp (ev x) (re x)):∀(l:List (Nat×Operand)),
  Abs (fun (p:Nat×AV) (q:Nat×Value)=>p.1=q.1∧RV F ρ hp p.2 q.2) (l.map fun p=>(p.1,ev p.2)) (l.map fun p=>(p.1,re p.2))
 |[]=>trivial
 |(_,x)::r=>⟨⟨rfl,h x⟩,B0b h r⟩
theorem Cxx(fs:Array Field)(W:World)(hf:∀f∈fs.toList,∃fi,P.info? f.type=some fi) :
  ((fs.mapM fun f=>do pure (f.offset,←sizeOf f.type)):Sem (Array (Nat×Nat))).run P W = .ok (fs.map fun f=>(f.offset,P.cellsOf f.type)) W:=by
 obtain⟨l⟩:=fs
 simp only[List.mapM_toArray,List.map_toArray]at *
 simp only[Sem.run_map]
 have:∀l:List Field,(∀f∈l,∃fi,P.info? f.type=some fi)→((l.mapM fun f=>do pure (f.offset,←sizeOf f.type)):Sem (List (Nat×Nat))).run P W = .ok (l.map fun f=>(f.offset,P.cellsOf f.type)) W:=by
  intro l
  induction l with
  |nil=>intro _;simp
  |cons f r ih=>
   intro h
   obtain⟨fi,hfi⟩:=h f (by simp)
   have:=ih (fun g hg=>h g (by simp[hg]))
   simp only[List.mapM_cons,Sem.run_bind,Agq hfi,Result.andThen_ok,Sem.run_pure,this]
   simp[Program.cellsOf,hfi]
 rw[this l hf];rfl
end
end
end Go.AX
namespace Go.AX
noncomputable section
section
variable {P:Program}
theorem C33{tt:TT}(htt:Aj1 P tt){T:TypeId}{parts:List (Nat×AV)}{R:Type}{K:AV→Option R}{res:R}(h:Cth tt T parts K=some res) :
  ∃v,K v=some res∧∀F ρ hp W (rparts:Array (Nat×Value)),Abs (fun (p:Nat×AV) (q:Nat×Value)=>p.1=q.1∧RV F ρ hp p.2 q.2) parts rparts.toList→
   ∃r,(Instr.build T rparts).run P W = .ok r W∧RV F ρ hp v r:=by
 unfold Cth at h
 split at h
 case h_2=>cases h
 rename_i i hi
 obtain⟨u,hu,hd⟩:=(htt T i hi).under
 split at h
 ·rename_i zs fs hz hdd
  rw[hdd]at hd
  split at h
  case h_2=>cases h
  rename_i cs hfill
  refine⟨_,h,fun F ρ hp W rparts hp'=>?_⟩
  obtain⟨z,hz1,hz2⟩:=Bpf htt hi hz F ρ hp W
  cases u with
  |struct gs=>
   simp only[Abz]at hd
   have hpl:∀(j o n:Nat),(match (fs[j]?:Option (Nat×Nat×TypeId)) with|some f=>some (f.1,f.2.1)|none=>none)=some (o,n)→(gs.map fun f=>(f.offset,P.cellsOf f.type))[j]? = some (o,n):=by
    intro j o n hj
    subst hd
    simp only[List.getElem?_map,Array.getElem?_toList]at hj
    cases e:gs[j]? with
    |none=>rw[e]at hj;simp at hj
    |some f=>rw[e]at hj;simp at hj;simp[e,hj]
   obtain⟨rs',i1,i2,_⟩:=A2c hfill hp' hz2 hpl
   refine⟨.agg rs',?_,rs',rfl,i2⟩
   simp only[Instr.build,Sem.run_bind,hz1,Result.andThen_ok,Aaj hu,Cxx gs W ((htt T i hi).fields gs hu)]
   rw[i1];rfl
  | _=>simp[Abz]at hd
 ·rename_i zs n E hz hdd
  rw[hdd]at hd
  split at h
  case h_2=>cases h
  rename_i ei hei
  split at h
  case h_2=>cases h
  rename_i cs hfill
  refine⟨_,h,fun F ρ hp W rparts hp'=>?_⟩
  obtain⟨z,hz1,hz2⟩:=Bpf htt hi hz F ρ hp W
  obtain⟨fe,hfe,hse,_,_⟩:=(htt E ei hei).info
  cases u with
  |array m E'=>
   obtain⟨rfl,rfl⟩:=hd
   obtain⟨rs',i1,i2,_⟩:=A2c (place':=fun i=>some (i*fe.size,fe.size)) hfill hp' hz2 (by
    intro j o n hj;simp at hj;obtain⟨rfl,rfl⟩:=hj;simp[hse])
   refine⟨.agg rs',?_,rs',rfl,i2⟩
   simp only[Instr.build,Sem.run_bind,hz1,Result.andThen_ok,Aaj hu,Agq hfe]
   rw[i1];rfl
  | _=>simp[Abz]at hd
 ·rename_i n E hz hdd
  rw[hdd]at hd
  split at h
  case h_2=>cases h
  rename_i v _ hb hei
  obtain⟨fe,hfe,_⟩:=(htt E _ hei).info
  refine⟨_,h,fun F ρ hp W rparts hp'=>?_⟩
  have hp0:rparts = #[]:=by
   apply Array.ext'
   simpa using hp'.nil_left
  subst hp0
  obtain⟨f,z,hf,hz1,hz2⟩:=(htt T i hi).big v n E hb hdd
  cases u with
  |array n' E'=>
   obtain⟨rfl,rfl⟩:=hd
   refine⟨.agg z.cells,?_,hz2⟩
   simp[Instr.build,zeroValue,Aqu hf,hz1,Aaj hu,Agq hfe,Instr.fill]
  | _=>simp[Abz]at hd
 ·cases h
theorem Cd6{zs:List Aby}:∀n,(Bvt n zs).length=n*zs.length
 |0=>by simp[Bvt]
 |n+1=>by simp[Bvt,Cd6 n,Nat.add_mul];omega
theorem Cpi{R:Aby→Value→Prop}{zs:List Aby}{z:Array Value}(h:Abs R zs z.toList)(hp:0<z.size):∀n,Abs R (Bvt n zs) (((Array.range (n*z.size)).map (z[· % z.size]!)).toList):=by
 intro n
 have hl:z.size=zs.length:=by simpa using h.length.symm
 refine Abs.of_get (by simp[Cd6,hl]) fun i a b ha hb=>?_
 have:∀(n i:Nat) (a:Aby),(Bvt n zs)[i]? = some a→i<n*z.size∧zs[i%z.size]? = some a:=by
  intro n
  induction n with
  |zero=>intro i a h;simp[Bvt]at h
  |succ n ih=>
   intro i a h
   simp only[Bvt]at h
   by_cases hi:i<zs.length
   ·rw[List.getElem?_append_left hi]at h
    exact⟨by rw[Nat.add_mul];omega,by rw[Nat.mod_eq_of_lt (by omega)];exact h⟩
   ·rw[List.getElem?_append_right (by omega)]at h
    obtain⟨h1,h2⟩:=ih _ _ h
    refine⟨by rw[Nat.add_mul];omega,?_⟩
    rw[←hl]at h2
    rwa [←Nat.mod_eq_sub_mod (by omega)]at h2
 obtain⟨h1,h2⟩:=this n i a ha
 obtain⟨c,h3,h4⟩:=h.get _ _ h2
 have hlt:i%z.size<z.size:=Nat.mod_lt _ hp
 simp[h1,hlt]at hb
 rw[←hb]
 have e2:z[i%z.size]=c:=by simp[hlt]at h3;exact h3
 rw[e2];exact h4
theorem Clo{tt:TT}(htt:Aj1 P tt){g:List Bool}{hq:Aam}{T:TypeId}{len:Nat}{parts:List (Nat×AV)}{dst:Nat}{R:Type}{K:KD R}{res:R}(h:Bvu tt hq T len parts dst K=some res) :
  ∃l v,K l v=some res∧∀F ρ hp W (rparts:Array (Nat×Value)),Abx F ρ hp W→(∀id b,hq id=some b→hp id=some b)→(hq (Aa5 dst 0)=none→hp (Aa5 dst 0)=none)→Af5 g hp l=true→
   Abs (fun (p:Nat×AV) (q:Nat×Value)=>p.1=q.1∧RV F ρ hp p.2 q.2) parts rparts.toList→
   ∃r W',(Instr.buildSlice T len rparts).run P W = .ok r W'∧Aif g F ρ hp W (Aa3 hp l) v r W':=by
 unfold Bvu at h
 split at h
 case h_2=>cases h
 rename_i i hi
 obtain⟨u,hu,hd⟩:=(htt T i hi).under
 split at h
 case h_2=>cases h
 rename_i E hdd
 rw[hdd]at hd
 split at h
 ·rename_i ei t hei ht hn
  split at h
  case h_2=>cases h
  rename_i zs hz hsz hl1 hl2
  have hsz:=Aa8 hsz
  have hl1:=Nat.le_of_ble_eq_true hl1
  have hl2:=Nat.le_of_ble_eq_true hl2
  split at h
  case h_2=>cases h
  rename_i cs hzl hfill
  have hzl:=Aa8 hzl
  split at h
  case h_2=>cases h
  rename_i cs' fr hfr
  split at h
  case h_2=>cases h
  rename_i xs hxs
  refine⟨_,_,h,fun F ρ hp W rparts hh hs hnew hg hparts=>?_⟩
  obtain⟨hg1,_⟩:=A93 hg
  rw[Azc]
  obtain⟨F1,hfz⟩:=Cpg hh hs (A66 hfr) hg1
  obtain⟨z,hz1,hz2⟩:=Bpf htt hei hz F ρ hp W
  obtain⟨fe,hfe,hse,_,_⟩:=(htt E ei hei).info
  have htp:=t.size_pos
  have hzs:z.cells.size=ei.size:=by have:=hz2.length;simp at this;omega
  cases u with
  |slice E'=>
   simp only[Abz]at hd;subst hd
   have hcop:=Cpi (z:=z.cells) hz2 (by omega) len
   rw[hzs]at hcop
   obtain⟨rs',i1,i2,i3⟩:=A2c (place':=fun i=>some (i*fe.size,fe.size)) hfill hparts hcop (by
     intro j o n hj;simp at hj;obtain⟨rfl,rfl⟩:=hj;simp[hse])
   have i2':=Biq hh hs hfr i2 F1 hfz.ext.fmono hfz.snap
   obtain⟨j1,j2,j3⟩:=Bpr hxs i2'
   refine⟨.slice (some ⟨W.heap.size,0,none⟩) len len,{W with heap:=W.heap.push (.cells rs' E')},?_,Aif.frozen hfz ?_⟩
   ·have hbig:¬(len*fe.size > 2^24):=by
     rw[hse]
     have:=Nat.mul_le_mul hl1 hl2
     omega
    simp only[Instr.buildSlice,Sem.run_bind,Aaj hu,Result.andThen_ok,Agq hfe]
    rw[if_neg hbig]
    rw[hse]at i1
    by_cases h0:len=0
    ·subst h0
     have a1:((Array.range (0*ei.size)).map (z.cells[· % ei.size]!)) = #[]:=by simp
     rw[a1]at i1
     have r0:Array.range 0 = #[]:=rfl
     simp[hse,r0,i1,Aqe]
    ·have hne:¬(len*fe.size=0):=by rw[hse];exact Nat.mul_ne_zero h0 (by omega)
     rw[if_neg hne]
     simp only[Sem.run_bind,hz1,Result.andThen_ok,Sem.run_pure,hse,hzs]
     rw[i1]
     simp[Aqe]
   ·have hnb:Bcu W (.cells rs' E') {W with heap:=W.heap.push (.cells rs' E')}:=⟨rfl,rfl,rfl,rfl⟩
    have hrs:rs'.size=len*t.size:=by simpa using j2
    have:=Cfg (g:=g) (xs:=xs) (cap:=len) (E:=E') hfz.ok (hfz.none _ (hnew hn)) (Anp dst 0) hnb (nf0 _) hrs (by omega) (fun i hi=>by
     simpa [Afk]using j3 i (by omega))
    rw[j1]at this
    exact this
  | _=>simp[Abz]at hd
 ·rename_i ei hei ht hn
  split at h
  case h_2=>cases h
  rename_i zs hz hl1 hl2
  simp only[Bool.and_eq_true]at hl1 hl2
  obtain⟨hl0,hl1⟩:=hl1
  obtain⟨hs0,hs1⟩:=hl2
  have hl0:=Nat.le_of_ble_eq_true hl0
  have hl1:=Nat.le_of_ble_eq_true hl1
  have hs0:=Nat.le_of_ble_eq_true hs0
  have hs1:=Nat.le_of_ble_eq_true hs1
  split at h
  case h_2=>cases h
  rename_i cs hzl hfill
  have hzl:=Aa8 hzl
  refine⟨_,_,h,fun F ρ hp W rparts hh hs hnew hg hparts=>?_⟩
  obtain⟨z,hz1,hz2⟩:=Bpf htt hei hz F ρ hp W
  obtain⟨fe,hfe,hse,_,_⟩:=(htt E ei hei).info
  have hzs:z.cells.size=ei.size:=by have:=hz2.length;simp at this;omega
  cases u with
  |slice E'=>
   simp only[Abz]at hd;subst hd
   have hcop:=Cpi (z:=z.cells) hz2 (by omega) len
   rw[hzs]at hcop
   obtain⟨rs',i1,i2,i3⟩:=A2c (place':=fun i=>some (i*fe.size,fe.size)) hfill hparts hcop (by
     intro j o n hj;simp at hj;obtain⟨rfl,rfl⟩:=hj;simp[hse])
   refine⟨.slice (some ⟨W.heap.size,0,none⟩) len len,{W with heap:=W.heap.push (.cells rs' E')},?_,?_⟩
   ·have hbig:¬(len*fe.size > 2^24):=by
     rw[hse]
     have:=Nat.mul_le_mul hl1 hs1
     omega
    simp only[Instr.buildSlice,Sem.run_bind,Aaj hu,Result.andThen_ok,Agq hfe]
    rw[if_neg hbig]
    rw[hse]at i1
    have hne:¬(len*fe.size=0):=by rw[hse];exact Nat.mul_ne_zero (by omega) (by omega)
    rw[if_neg hne]
    simp only[Sem.run_bind,hz1,Result.andThen_ok,Sem.run_pure,hse,hzs]
    rw[i1]
    simp[Aqe]
   ·have hnb:Bcu W (.cells rs' E') {W with heap:=W.heap.push (.cells rs' E')}:=⟨rfl,rfl,rfl,rfl⟩
    have hpt:=Ayk.fresh (g:=g) (F:=F) (ρ:=ρ) (cap:=0) (b:=.cells E' cs) (hnew hn) (Anp dst 0) rfl hnb
    simp only[Aa3]
    refine hpt.good hh ?_ ⟨_,Afw _ _ _,_,_,_,rfl,rfl,rfl,W.heap.size,by simp,rfl⟩
    exact⟨W.heap.size,rs',(0,0),by simp,hnb.at_,fun o _ h=>by omega,i2.mono fun _ _=>Abm.mono (fun _ _ h=>h) hpt.keep⟩
  | _=>simp[Abz]at hd
 ·cases h
theorem C6u{tt:TT}(htt:Aj1 P tt){g:List Bool}{T E:TypeId}{i ei:TI}{t:Ty}{z:t.den}(hi:tt.get T=some i)(hd:i.d = .slice E)(hei:tt.get E=some ei)(hsz:ei.size=t.size)(hz:B52 tt t E=some z){l c:Int}(hb:0≤l∧l≤c∧c*(ei.bytes:Int)≤(LIM:Int)){F:Fz}{ρ:Rho}{hp:Aam}{W:World}{id:Nat}{k k':IntKind}(hh:Abx F ρ hp W)(hn:hp id=none)(h32:32≤id)(hlim:c≤4611686018427387904) :
  ∃r W',(Instr.makeSlice T (.int k l) (.int k' c)).run P W = .ok r W'∧Aif g F ρ hp W (Aht hp id (.row E t 0 false (List.replicate l.toNat z))) (.at (.slf id 0)) r W':=by
 obtain⟨u,hu,hdm⟩:=(htt T i hi).under
 rw[hd]at hdm
 obtain⟨fe,hfe,hse,hbe,_⟩:=(htt E ei hei).info
 obtain⟨zs,hzs,hzt⟩:∃zs,ei.zero=some zs∧Bar t zs=some z:=by
  unfold B52 at hz;rw[hei]at hz;simp only at hz
  split at hz
  ·exact⟨_,by assumption,hz⟩
  ·cases hz
 obtain⟨zv,hz1,hz2⟩:=Bpf htt hei hzs F ρ hp W
 have hzrc:=Bb6 hzt hz2
 have hzl:=hzrc.length
 have htp:=t.size_pos
 obtain⟨h0,hlc,hbd⟩:=hb
 cases u with
 |slice E'=>
  simp only[Abz]at hdm;subst hdm
  have wl:IntKind.i64.wrap l=l:=by unfold IntKind.wrap;simp[IntKind.bits,IntKind.signed];omega
  have wc:IntKind.i64.wrap c=c:=by unfold IntKind.wrap;simp[IntKind.bits,IntKind.signed];omega
  let rs:Array Value:=(Array.range (c.toNat*ei.size)).map (zv.cells[· % zv.cells.size]!)
  refine⟨.slice (some ⟨W.heap.size,0,none⟩) l.toNat c.toNat,{W with heap:=W.heap.push (.cells rs E')},?_,?_⟩
  ·have hbig:¬((fe.bytes:Int)*c > 2^48):=by
    rw[hbe,Int.mul_comm]
    have:(LIM:Int)=70368744177664:=rfl
    omega
   have hbig':¬((fe.bytes:Int)*l > 2^48):=by
    rw[hbe]
    have h1:(ei.bytes:Int)*l≤(ei.bytes:Int)*c:=Int.mul_le_mul_of_nonneg_left hlc (by omega)
    rw[Int.mul_comm (ei.bytes:Int) c]at h1
    have:(LIM:Int)=70368744177664:=rfl
    omega
   simp only[Instr.makeSlice,Sem.run_bind,Aaj hu,Result.andThen_ok,asInt,asIntOf,Sem.run_pure,Aqu hfe,wl,wc]
   rw[if_neg (by simp;omega)]
   simp only[Sem.run_bind,run_askRoom,Result.andThen_ok,Agq hfe,hse]
   by_cases hz0:c.toNat*ei.size=0
   ·rw[if_pos hz0]
    have r0:Array.range 0 = #[]:=rfl
    have e:rs = #[]:=by simp[rs,hz0,r0]
    simp[Aqe,hz0,e,r0]
   ·rw[if_neg hz0]
    simp only[Sem.run_bind,hz1,Sem.run_pure,Result.andThen_ok]
    simp[Aqe,rs]
  ·have hnb:Bcu W (.cells rs E') {W with heap:=W.heap.push (.cells rs E')}:=⟨rfl,rfl,rfl,rfl⟩
   have hrs:rs.size=c.toNat*t.size:=by simp[rs,hsz]
   have:=Cfg (g:=g) (xs:=List.replicate l.toNat z) (cap:=c.toNat) (E:=E') hh hn h32 hnb (nf0 _) hrs (by simp;omega) (fun i hi=>by
    simp at hi
    have e1:(List.replicate l.toNat z).getD i t.dflt=z:=by simp[List.getD_eq_getElem?_getD,hi]
    rw[e1]
    have hlt:(i+1)*t.size≤c.toNat*t.size:=Nat.mul_le_mul_right _ (by omega)
    rw[Nat.add_mul,Nat.one_mul]at hlt
    have hzsz:zv.cells.size=t.size:=by simpa using hzl
    have e2:Afk rs (i*t.size) t.size=zv.cells.toList:=by
     apply List.ext_getElem?
     intro j
     by_cases hj:j<t.size
     ·rw[Bg3 hj]
      have:i*t.size+j<c.toNat*ei.size:=by rw[hsz];omega
      have hm:(i*t.size+j)%t.size=j:=by
       rw[Nat.mul_comm,Nat.mul_add_mod,Nat.mod_eq_of_lt hj]
      simp[rs,this,hzsz,hm,hj,getElem!_def]
     ·rw[List.getElem?_eq_none (by simp[Afk];omega),List.getElem?_eq_none (by simp[hzsz];omega)]
    rw[e2];exact hzrc)
   simpa using this
 | _=>simp[Abz]at hdm
theorem C9q{tt:TT}{g:List Bool}{hq:Aam}{T:TypeId}{n dst:Nat}{v:Value}{R:Type}{K:KD R}{res:R}(h:C6s tt hq T n v dst K=some res) :
  ∃l w,K l w=some res∧hq (Aa5 dst 0)=none∧∀F ρ hp W rv,Abx F ρ hp W→hp (Aa5 dst 0)=none→RV F ρ hp (.z n v) rv→
   ∃r W',(Instr.box T rv).run P W = .ok r W'∧Aif g F ρ hp W (Aa3 hp l) w r W':=by
 unfold C6s at h
 split at h
 case h_2=>cases h
 rename_i i hi hn
 split at h
 case h_2=>cases h
 rename_i m E hd
 split at h
 case h_2=>cases h
 rename_i t ht
 split at h
 case h_2=>cases h
 rename_i z hc hz
 simp only[Bool.and_eq_true]at hc
 have h1:=Aa8 hc.1
 have h3:=Nat.le_of_ble_eq_true hc.2.2
 refine⟨_,_,h,hn,fun F ρ hp W rv hh hn' hv=>?_⟩
 have hnb:Bcu W (.cells rv.cells T) {W with heap:=W.heap.push (.cells rv.cells T)}:=⟨rfl,rfl,rfl,rfl⟩
 have hpt:=Ayk.fresh (g:=g) (F:=F) (ρ:=ρ) (cap:=n) (b:=.row T t 0 false (Bz4 n z)) hn' (Anp dst 0) rfl hnb
 refine⟨.pointer (some ⟨W.heap.size,0,none⟩),{W with heap:=W.heap.push (.cells rv.cells T)},by simp[Instr.box,newVar,Aqe],?_⟩
 simp only[Aa3]
 have hcl:rv.cells=Array.replicate n v:=hv
 have hlen:(Bz4 n z).length=n:=by simp[Bz4]
 refine hpt.good hh (.inr ⟨W.heap.size,rv.cells,(0,0),by simp,hnb.at_,nf0 _,by rw[hcl,h1];simp,by rw[hlen];simp,fun j hj=>?_,fun h=>by cases h⟩) ⟨_,Afw _ _ _,Nat.le_refl _,_,rfl,fun _=>⟨by rw[hlen];omega,W.heap.size,by simp,by simp⟩⟩
 rw[hlen]at hj
 have e1:(Bz4 n z).getD j t.dflt=z:=by simp[Bz4,List.getD_eq_getElem?_getD,hj]
 have e2:Afk rv.cells (j*t.size) t.size=[v]:=by
  rw[hcl,h1,Nat.mul_one]
  simp only[Afk,Array.toList_replicate,List.drop_replicate,List.take_replicate]
  rw[show min 1 (n-j)=1 by omega];rfl
 rw[e1,e2]
 exact Aby.get_ok hz (Afx F ρ hp v)
end
end
end Go.AX
namespace Go.AX
noncomputable section
section
variable {P:Program}
structure Bt6(P:Program)(F:Fz)(t:Ty)(ys:List t.den)(W:World)(rx:Value):Prop where
 len:(Builtin.lenOf rx).run P W = .ok ys.length W
 cells:∀n,n≤ys.length→∃arr:Array Value,(Builtin.firstCells t.size n rx).run P W = .ok arr W∧arr.size=n*t.size∧∀i,i<n→RC F t (ys.getD i t.dflt) (Afk arr (i*t.size) t.size)
theorem Bpg{P:Program}{F:Fz}{t:Ty}{ys:List t.den}{W:World}{A:Option Addr}{cap:Nat}{b o:Nat}{c:Array Value}{T:TypeId}{fr:Nat×Nat}(hA:0<ys.length→A=some ⟨b,o,none⟩∧W.heap[b]? = some (.cells c T fr)∧o+ys.length*t.size≤c.size∧∀i,i<ys.length→RC F t (ys.getD i t.dflt) (Afk c (o+i*t.size) t.size)) :
  Bt6 P F t ys W (.slice A ys.length cap):=by
 refine⟨by simp[Builtin.lenOf],fun n hn=>?_⟩
 by_cases h0:n=0
 ·subst h0
  refine⟨#[],?_,by simp,fun i hi=>by omega⟩
  cases A with
  |none=>simp[Builtin.firstCells]
  |some a=>simp[Builtin.firstCells,loadCells,loadCellsFrom]
 ·obtain⟨rfl,hb,ho,hr⟩:=hA (by omega)
  have hle:n*t.size≤ys.length*t.size:=Nat.mul_le_mul_right _ hn
  refine⟨(Afk c o (n*t.size)).toArray,?_,by simp[Afk];omega,fun i hi=>?_⟩
  ·simp[Builtin.firstCells,Bk6 hb (show o+n*t.size≤c.size by omega)]
  ·have:=hr i (by omega)
   have hlt:(i+1)*t.size≤n*t.size:=Nat.mul_le_mul_right _ (by omega)
   rw[Nat.add_mul,Nat.one_mul]at hlt
   have e:Afk (Afk c o (n*t.size)).toArray (i*t.size) t.size=Afk c (o+i*t.size) t.size:=by
    unfold Afk
    rw[List.drop_take,List.drop_drop,List.take_take,Nat.min_eq_left (by omega)]
   rw[e];exact this
theorem C6v{P:Program}{F:Fz}{ρ:Rho}{hp:Aam}{W:World}(hh:Abx F ρ hp W){t:Ty}{ys:List t.den}{rx:Value}(h:RC F (.list t) ys [rx]):Bt6 P F t ys W rx:=by
 obtain⟨A,cap,e,hl,hn,hc⟩:=h
 cases e
 by_cases h0:0<List.length ys
 ·obtain⟨b,o,c,T,fr,rfl,hF,ho,hr⟩:=hc h0
  exact Bpg fun _=>⟨rfl,hh.fz _ _ hF,ho,hr⟩
 ·exact Bpg (b:=0) (o:=0) (c:=#[]) (T:=0) (fr:=(0,0)) fun h=>absurd h h0
theorem C9r{P:Program}{F:Fz}{W:World}(s:List UInt8):Bt6 P F (.int .u8) (s.map fun b=>(b.toNat:Int)) W (.string ⟨s.toArray⟩):=by
 refine⟨by simp[Builtin.lenOf,ByteArray.size],fun n hn=>?_⟩
 simp at hn
 refine⟨((s.take n).map fun b=>Value.int .u8 (b.toNat:Int)).toArray,?_,by simp[Ty.size];omega,fun i hi=>?_⟩
 ·simp[Builtin.firstCells]
 ·simp only[Ty.size,Nat.mul_one]
  have hlt:i<s.length:=by omega
  have h1:((s.take n).drop i).take 1=[s[i]]:=by
   rw[List.drop_take,List.take_take,Nat.min_eq_left (by omega),List.drop_eq_getElem_cons hlt];rfl
  have h2:Afk ((s.take n).map fun b=>Value.int .u8 (b.toNat:Int)).toArray i 1=[.int .u8 (s[i].toNat:Int)]:=by
   unfold Afk
   rw[←List.map_drop,←List.map_take,h1];rfl
  rw[h2]
  simp[RC,List.getD_eq_getElem?_getD,hlt]
theorem C9s{hq:Aam}{x:Apg}{s:List UInt8}{l:List Nat}(h:x.frz hq=some (.val .str s,l)):x = .val .str s:=by
 cases x with
 |slf id ver=>
  simp only[Apg.frz]at h
  split at h
  ·split at h<;>cases h
  ·cases h
 |sl id ver off len=>
  simp only[Apg.frz]at h
  split at h
  ·split at h<;>cases h
  ·cases h
 | _=>simp only[Apg.frz]at h;cases h<;>rfl
theorem Bau{hq:Aam}{t:Ty}{x:AV}{ys:List t.den}(h:Bt0 hq t x=some ys){F:Fz}{ρ:Rho}{hp:Aam}{W:World}(hh:Abx F ρ hp W)(hs:∀id b,hq id=some b→hp id=some b){rx:Value}(hx:RV F ρ hp x rx):Bt6 P F t ys W rx:=by
 unfold Bt0 at h
 split at h
 case h_2=>cases h
 rename_i x
 split at h
 case h_2=>cases h
 rename_i y l hf
 split at h
 ·rename_i s
  split at h
  ·rename_i e
   subst e
   cases h
   have e2:x = .val .str s:=C9s hf
   subst e2
   have:rx = .string ⟨(s:List UInt8).toArray⟩:=by
    have:=hx;simp only[RV,RV1,Abm,RA,RC]at this;cases this;rfl
   subst this
   exact C9r s
  ·cases h
 ·rename_i y' hne
  cases x with
  |slf id ver=>
   simp only[Apg.frz]at hf
   split at hf
   case h_2=>cases hf
   rename_i E t' ver' fz xs hb
   split at hf
   case h_2=>cases hf
   rename_i e;have e:=Aa8 e;subst e
   cases hf
   simp only[Apg.get]at h
   split at h
   case isFalse=>cases h
   rename_i e
   cases e
   cases h
   have hb':=hs _ _ hb
   obtain⟨b,hb2,hv,A,l',c,rfl,hc⟩:=hx
   rw[hb']at hb2;cases hb2
   obtain⟨rfl,rfl,hA⟩:=hc rfl
   rcases hh.blocks id _ hb' with ⟨_,i2,_⟩|⟨bb,rs,fr,i1,i2,i3,i4,i5,i6,i7⟩
   ·subst i2;exact Bpg (b:=0) (o:=0) (c:=#[]) (T:=0) (fr:=(0,0)) fun h=>absurd h (by simp)
   ·refine Bpg (b:=bb) (o:=0) (c:=rs) (T:=E) (fr:=fr) fun _=>⟨hA bb i1,i2,?_,fun i hi=>by rw[Nat.zero_add];exact i6 i hi⟩
    rw[Nat.zero_add,i4];exact Nat.mul_le_mul_right _ i5
  |sl id ver off len=>
   simp only[Apg.frz]at hf
   split at hf
   case h_2=>cases hf
   rename_i E t' ver' fz xs hb
   split at hf
   case h_2=>cases hf
   rename_i e;have e:=Aa8 e;subst e
   cases hf
   simp only[Apg.get]at h
   split at h
   case isFalse=>cases h
   rename_i e
   cases e
   cases h
   have hb':=hs _ _ hb
   obtain⟨b,hb2,hv,A,l',c,rfl,hc⟩:=hx
   rw[hb']at hb2;cases hb2
   obtain⟨e0,h2,h3,h4,hA⟩:=hc rfl
   subst l'
   have hlen:(List.take len (List.drop off xs)).length=len:=by simp;omega
   have key:Bt6 P F t (List.take len (List.drop off xs)) W (.slice A (List.take len (List.drop off xs)).length c):=by
    rcases hh.blocks id _ hb' with ⟨_,i2,_⟩|⟨bb,rs,fr,i1,i2,i3,i4,i5,i6,i7⟩
    ·subst i2;refine Bpg (b:=0) (o:=0) (c:=#[]) (T:=0) (fr:=(0,0)) fun h=>?_;simp at h
    ·refine Bpg (b:=bb) (o:=off*t.size) (c:=rs) (T:=E) (fr:=fr) fun hp'=>?_
     rw[hlen]at hp' ⊢
     refine⟨?_,i2,?_,fun i hi=>?_⟩
     ·rcases hA bb i1 with h|h
      ·omega
      ·exact h
     ·rw[i4,←Nat.add_mul];exact Nat.mul_le_mul_right _ (by omega)
     ·have:=i6 (off+i) (by omega)
      have e1:(List.take len (List.drop off xs)).getD i t.dflt=xs.getD (off+i) t.dflt:=by
       simp[List.getD_eq_getElem?_getD,List.getElem?_drop,hi]
      rw[e1,←Nat.add_mul];exact this
   rw[hlen]at key
   exact key
  | _=>
   simp only[Apg.frz]at hf
   cases hf
   exact C6v hh (Apg.get_ok (ρ:=ρ) (hp:=hp) h hx)
end
end
end Go.AX
namespace Go.AX
noncomputable section
theorem RC.ones{F:Fz}:∀{t:Ty} {v:t.den} {cs:List Value},RC F t v cs→∀x∈cs,x.oneCell'=true
 | .pair a b,v,cs,h,x,hx=>by
  obtain⟨c,d,rfl,hc,hd⟩:=h
  simp at hx
  rcases hx with hx|hx
  ·exact hc.ones x hx
  ·exact hd.ones x hx
 | .bool,v,cs,h,x,hx=>by simp only[RC]at h;subst h;simp at hx;subst hx;rfl
 | .int k,v,cs,h,x,hx=>by simp only[RC]at h;subst h;simp at hx;subst hx;rfl
 | .str,v,cs,h,x,hx=>by simp only[RC]at h;subst h;simp at hx;subst hx;rfl
 | .list t,v,cs,h,x,hx=>by obtain⟨A,cap,rfl,_⟩:=h;simp at hx;subst hx;rfl
theorem Cfh{F:Fz}{t:Ty}{ys:List t.den}{arr:Array Value}{n:Nat}(hsz:arr.size=n*t.size)(h:∀i,i<n→RC F t (ys.getD i t.dflt) (Afk arr (i*t.size) t.size)):∀x∈arr.toList,x.oneCell'=true:=by
 intro x hx
 obtain⟨j,hj⟩:=List.getElem?_of_mem hx
 have htp:=t.size_pos
 have hlt:j<arr.size:=by
  rcases Nat.lt_or_ge j arr.size with h|h
  ·exact h
  ·rw[List.getElem?_eq_none (by simpa using h)]at hj;cases hj
 have hi:j/t.size<n:=by rw[Nat.div_lt_iff_lt_mul htp];omega
 refine (h _ hi).ones x ?_
 have hm:=Nat.mod_lt j htp
 have e:=Bg3 (c:=arr) (o:=j/t.size*t.size) (n:=t.size) (i:=j%t.size) hm
 have e2:j/t.size*t.size+j%t.size=j:=Nat.div_add_mod' j t.size
 rw[e2]at e
 have:(Afk arr (j/t.size*t.size) t.size)[j%t.size]? = some x:=by rw[e];simpa using hj
 exact List.mem_of_getElem? this
theorem Bn3{F:Fz}{t:Ty}{xs ys:List t.den}{a b c:List Value}(ha:a.length=xs.length*t.size)(hb:b.length=ys.length*t.size)(hx:∀i,i<xs.length→RC F t (xs.getD i t.dflt) ((a.drop (i*t.size)).take t.size))(hy:∀i,i<ys.length→RC F t (ys.getD i t.dflt) ((b.drop (i*t.size)).take t.size)) :
  ∀i,i<(xs++ys).length→RC F t ((xs++ys).getD i t.dflt) (((a++b++c).drop (i*t.size)).take t.size):=by
 intro i hi
 simp only[List.length_append]at hi
 by_cases h:i<xs.length
 ·have hle:(i+1)*t.size≤xs.length*t.size:=Nat.mul_le_mul_right _ (by omega)
  rw[Nat.add_mul,Nat.one_mul]at hle
  have e1:(xs++ys).getD i t.dflt=xs.getD i t.dflt:=by simp[List.getD_eq_getElem?_getD,List.getElem?_append_left h]
  rw[e1,List.append_assoc,List.drop_append_of_le_length (by omega),List.take_append_of_le_length (by simp;omega)]
  exact hx i h
 ·have hlt:i-xs.length<ys.length:=by omega
  have e1:(xs++ys).getD i t.dflt=ys.getD (i-xs.length) t.dflt:=by simp[List.getD_eq_getElem?_getD,List.getElem?_append_right (Nat.le_of_not_lt h)]
  have hle:(i-xs.length+1)*t.size≤ys.length*t.size:=Nat.mul_le_mul_right _ (by omega)
  rw[Nat.add_mul,Nat.one_mul]at hle
  have e2:i*t.size=a.length+(i-xs.length)*t.size:=by
   rw[ha,←Nat.add_mul];congr 1;omega
  rw[e1,e2,List.append_assoc,List.drop_append,List.drop_of_length_le (by omega),List.nil_append,Nat.add_sub_cancel_left,List.drop_append_of_le_length (by omega),List.take_append_of_le_length (by simp;omega)]
  exact hy _ hlt
section
variable {P:Program}
structure Ctm(P:Program)(T Tx E:TypeId)(size bytes:Nat):Prop where
 under:P.underlying T=some (.slice E)
 xint:(∃e,P.underlying Tx=some (.slice e))∨P.underlying Tx=some .string
 info:∃f z,P.info? E=some f∧f.size=size∧f.bytes=bytes∧f.zero=some z∧z.cells.size=size
theorem Bt7{T Tx E:TypeId}{size bytes:Nat}{W:World}(h:Ctm P T Tx E size bytes){sLen sCap n:Nat}{rx:Value}{ty:TypeId}{arr:Array Value}(hlen:(Builtin.lenOf rx).run P W = .ok n W)(hcells:(Builtin.firstCells size n rx).run P W = .ok arr W){b o:Nat}{W':World}(hle:sLen+n≤sCap)(hst:(storeCells ⟨b,o+sLen*size,none⟩ arr.toList).run P W = .ok () W') :
  (Builtin.append_ #[T,Tx] ty #[.slice (some ⟨b,o,none⟩) sLen sCap,rx]).run P W = .ok (.slice (some ⟨b,o,none⟩) (sLen+n) sCap) W':=by
 obtain⟨hu,hx,f,z,hf,hs,hb,hz,hzs⟩:=h
 rcases hx with ⟨e,hx⟩|hx <;>
  simp[Builtin.append_,Aaj hu,Aaj hx,Agq hf,hs,hlen,hcells,hle,Awo,hst]
theorem Bcv{T Tx E:TypeId}{size bytes:Nat}{W:World}(h:Ctm P T Tx E size bytes){sLen sCap:Nat}{A:Option Addr}{rx:Value}{ty:TypeId}(hlen:(Builtin.lenOf rx).run P W = .ok 0 W)(hcells:(Builtin.firstCells size 0 rx).run P W = .ok #[] W)(hle:sLen≤sCap) :
  (Builtin.append_ #[T,Tx] ty #[.slice A sLen sCap,rx]).run P W = .ok (.slice A sLen sCap) W:=by
 obtain⟨hu,hx,f,z,hf,hs,hb,hz,hzs⟩:=h
 rcases hx with ⟨e,hx⟩|hx<;>cases A <;>
  simp[Builtin.append_,Aaj hu,Aaj hx,Agq hf,hs,hlen,hcells,hle,storeCells]
theorem Clp{T Tx E:TypeId}{size bytes:Nat}{W:World}(h:Ctm P T Tx E size bytes){sLen sCap n:Nat}{A:Option Addr}{rx:Value}{ty:TypeId}{arr old:Array Value}(hlen:(Builtin.lenOf rx).run P W = .ok n W)(hcells:(Builtin.firstCells size n rx).run P W.drew = .ok arr W.drew)(hold:(Builtin.firstCells size sLen (.slice A sLen sCap)).run P W.drew = .ok old W.drew)(hle:¬sLen+n≤sCap)(hlim:(sLen+n)*bytes≤LIM)(hmax:sLen+n≤9223372036854775807) :
  ∃newCap rest W',sLen+n≤newCap∧(Builtin.append_ #[T,Tx] ty #[.slice A sLen sCap,rx]).run P W = .ok (.slice (some ⟨W.heap.size,0,none⟩) (sLen+n) newCap) W'∧
    Bcu W (.cells (old++arr++rest) E) W'∧rest.size=(newCap-(sLen+n))*size:=by
 obtain⟨hu,hx,f,z,hf,hs,hb,hz,hzs⟩:=h
 have hfits:=growslice_fits (need:=sLen+n) (old:=sCap) (bytes:=bytes) (by omega) (by unfold LIM at hlim;omega)
 have h63':¬(9223372036854775807<((sLen:Int)+(n:Int))):=by omega
 have h48':¬(281474976710656<Builtin.nextslicecap (sLen+n) sCap*bytes):=by omega
 refine⟨grownCap W (sLen+n) sCap E,Builtin.zeroCells z.cells (grownCap W (sLen+n) sCap E-(sLen+n)),{W.drew with heap:=W.drew.heap.push (.cells (old++arr++Builtin.zeroCells z.cells (grownCap W (sLen+n) sCap E-(sLen+n))) E)},?_,?_,⟨rfl,rfl,rfl,rfl⟩,by simp[Builtin.zeroCells,hzs]⟩
 ·unfold grownCap;simp[Question.cut]
 ·rcases hx with ⟨e,hx⟩|hx <;>
  simp[Builtin.append_,Aaj hu,Aaj hx,Agq hf,Aqu hf,zeroValue,hs,hb,hz,hlen,hcells,hold,hle,h63',h48',Question.forced,Aqe,grownCap]<;>rfl
theorem Abx.dr{F:Fz}{ρ:Rho}{hp:Aam}{W:World}(h:Abx F ρ hp W):Abx F ρ hp W.drew :=
 ⟨fun id b hb=>by have:=h.blocks id b hb;cases b<;>exact this,h.inj,h.fz,h.apart⟩
theorem Cib{g:List Bool}{T Tx E:TypeId}{bytes:Nat}{t:Ty}(h:Ctm P T Tx E t.size bytes){F:Fz}{ρ:Rho}{hp:Aam}{W:World}{id ver:Nat}{xs ys:List t.den}{rs rx:Value}{ty:TypeId}(hh:Abx F ρ hp W)(hb:hp id=some (.row E t ver false xs))(hs:RA F ρ hp (.slf id ver) rs)(hx:Bt6 P F t ys W rx)(hx':Bt6 P F t ys W.drew rx)(hlim:(xs.length+ys.length)*bytes≤LIM)(hbp:0<bytes)(hg:id<32→g.getD id false=true)(hro:Aqs g=true→32≤id) :
  ∃r W',(Builtin.append_ #[T,Tx] ty #[rs,rx]).run P W = .ok r W'∧Aif g F ρ hp W (Aht hp id (.row E t (ver+1) false (xs++ys))) (.at (.slf id (ver+1))) r W':=by
 obtain⟨b,hb2,hv,A,l,c,rfl,hc⟩:=hs
 rw[hb]at hb2;cases hb2
 obtain⟨rfl,rfl,hA⟩:=hc rfl
 have hmax:xs.length+ys.length≤9223372036854775807:=by
  have:xs.length+ys.length≤(xs.length+ys.length)*bytes:=Nat.le_mul_of_pos_right _ hbp
  unfold LIM at hlim;omega
 have keep:∀f,Aml (ρ id) (.row E t ver false xs) f (.row E t (ver+1) false (xs++ys)):=fun f=>⟨by simp[Aau.ver],fun h=>(by simp[Aau.isMap]at h),fun h=>(by simp[Aau.ver]at h),trivial⟩
 have evo:∀f,id<32→Evo (g.getD id false) (ρ id) f (.row E t ver false xs) (.row E t (ver+1) false (xs++ys)):=fun f hi=>⟨rfl,rfl,rfl,fun h=>(by rw[hg hi]at h;cases h)⟩
 have grown:∀(old:Array Value),old.size=xs.length*t.size→(∀i,i<xs.length→RC F t (xs.getD i t.dflt) (Afk old (i*t.size) t.size))→
   (Builtin.firstCells t.size xs.length (.slice A xs.length (ρ id).cap)).run P W.drew = .ok old W.drew→¬xs.length+ys.length≤(ρ id).cap→
   ∃r W',(Builtin.append_ #[T,Tx] ty #[.slice A xs.length (ρ id).cap,rx]).run P W = .ok r W'∧Aif g F ρ hp W (Aht hp id (.row E t (ver+1) false (xs++ys))) (.at (.slf id (ver+1))) r W':=by
  intro old hos hor hold hle
  obtain⟨arr,ha1,ha2,ha3⟩:=hx'.cells ys.length (Nat.le_refl _)
  obtain⟨newCap,rest,W',hc,hrun,hnb,hrest⟩:=Clp (ty:=ty) h hx.len ha1 hold hle hlim hmax
  refine⟨_,W',hrun,?_⟩
  have hpt:Ayk g F ρ hp W id ⟨[W.heap.size],newCap⟩ (.row E t (ver+1) false (xs++ys)) W' :=
   ⟨hnb.os,hnb.tape,hnb.output,by rw[hnb.heap];simp,fun k hk _=>hnb.old hk,fun k hk=>.inr (by simp at hk;omega),fun b0 h0=>by rw[hb]at h0;cases h0;exact⟨rfl,keep _,evo _⟩,(fun h=>by rw[hb]at h;cases h),rfl,hro⟩
  refine hpt.good hh ?_ ⟨_,Afw _ _ _,Nat.le_refl _,_,_,_,rfl,fun _=>⟨by simp,by simp,fun bb h=>by simp at h;rw[h]⟩⟩
  refine .inr ⟨W.heap.size,_,(0,0),by simp,hnb.at_,nf0 _,?_,by simpa using hc,?_,fun h=>by cases h⟩
  ·simp[hos,ha2,hrest,←Nat.add_mul];congr 1;omega
  ·have:=Bn3 (c:=rest.toList) (a:=old.toList) (b:=arr.toList) (by simpa using hos) (by simpa using ha2) hor ha3
   intro i hi
   simpa [Afk]using this i hi
 rcases hh.blocks id _ hb with ⟨i1,i2,i3⟩|⟨bb,rs,fr,i1,i2,i3,i4,i5,i6,i7⟩
 ·subst i2
  by_cases h0:ys.length=0
  ·have hy:ys=[]:=List.eq_nil_of_length_eq_zero h0
   subst hy
   obtain⟨arr,ha1,ha2,_⟩:=hx.cells 0 (Nat.le_refl _)
   have:arr = #[]:=by simp at ha2;exact ha2
   subst this
   refine⟨_,W,Bcv (ty:=ty) h (by simpa using hx.len) ha1 (by simp),?_⟩
   have hpt:Ayk g F ρ hp W id ⟨[],0⟩ (.row E t (ver+1) false ([]++[])) W :=
    ⟨rfl,rfl,rfl,Nat.le_refl _,fun _ _ _=>rfl,fun k hk=>by simp at hk,fun b0 h0=>by rw[hb]at h0;cases h0;exact⟨rfl,keep _,evo _⟩,(fun h=>by rw[hb]at h;cases h),rfl,hro⟩
   refine hpt.good hh (.inl ⟨by simp,rfl,by simp⟩) ⟨_,Afw _ _ _,Nat.le_refl _,_,_,_,rfl,fun _=>⟨by simp,by simp[i3],fun bb h=>by simp at h⟩⟩
  ·refine grown #[] (by simp) (fun i hi=>by simp at hi) ?_ (by rw[i3];simp only[List.length_nil];omega)
   cases A<;>simp[Builtin.firstCells,loadCells,loadCellsFrom]
 ·have hAA:=hA bb i1
  subst hAA
  by_cases hle:xs.length+ys.length≤(ρ id).cap
  ·obtain⟨arr,ha1,ha2,ha3⟩:=hx.cells ys.length (Nat.le_refl _)
   have hbound:(xs.length+ys.length)*t.size≤(ρ id).cap*t.size:=Nat.mul_le_mul_right _ hle
   rw[←i4,Nat.add_mul]at hbound
   obtain⟨W',hst,hset⟩:=Azd (P:=P) arr.toList W rs (0+xs.length*t.size) 0 i2 i3 (by simp;omega) (Cfh ha2 ha3)
   refine⟨_,W',Bt7 (ty:=ty) h hx.len ha1 hle hst,?_⟩
   have hpt:=Ayk.inplace (g:=g) (F:=F) (b:=.row E t (ver+1) false (xs++ys)) hb rfl rfl i1 hset (keep _) (evo _) hro
   refine hpt.good hh ?_ ⟨_,Afw _ _ _,Nat.le_refl _,_,_,_,rfl,fun _=>⟨by simp,by rw[Ans],fun b' h=>by rw[Ans,i1]at h;cases h;rfl⟩⟩
   rw[Ans]
   refine .inr ⟨bb,_,fr,i1,hset.at_,?_,?_,by simpa using hle,?_,fun h=>by cases h⟩
   ·have e:(rs.toList.take (0+xs.length*t.size+0)++arr.toList++rs.toList.drop (0+xs.length*t.size+0+arr.toList.length)).toArray.size=rs.size:=by simp;omega
    rw[e];exact i3
   ·rw[←i4];simp;omega
   ·have:=Bn3 (c:=rs.toList.drop (xs.length*t.size+arr.size)) (a:=rs.toList.take (xs.length*t.size)) (b:=arr.toList) (xs:=xs) (ys:=ys) (F:=F) (t:=t) (by simp;omega) (by simpa using ha2) (fun i hi=>by
     have hlt:(i+1)*t.size≤xs.length*t.size:=Nat.mul_le_mul_right _ (by omega)
     rw[Nat.add_mul,Nat.one_mul]at hlt
     rw[List.drop_take,List.take_take,Nat.min_eq_left (by omega)]
     exact i6 i hi) ha3
    intro i hi
    simpa [Afk]using this i hi
  ·have hcap:xs.length*t.size≤rs.size:=by rw[i4];exact Nat.mul_le_mul_right _ i5
   refine grown (Afk rs 0 (xs.length*t.size)).toArray (by simp[Afk];omega) (fun i hi=>?_) ?_ hle
   ·have hlt:(i+1)*t.size≤xs.length*t.size:=Nat.mul_le_mul_right _ (by omega)
    rw[Nat.add_mul,Nat.one_mul]at hlt
    have:=i6 i hi
    unfold Afk at this ⊢
    simp only[List.drop_zero]
    rw[List.drop_take,List.take_take,Nat.min_eq_left (by omega)]
    exact this
   ·have:W.drew.heap[bb]? = some (.cells rs E fr):=i2
    simp[Builtin.firstCells,Bk6 this (show 0+xs.length*t.size≤rs.size by omega)]
end
end
end Go.AX
namespace Go.AX
noncomputable section
theorem C34(hp:Aam)(id:Nat)(a b:Aau):Aht (Aht hp id a) id b=Aht hp id b:=by
 funext i
 by_cases e:i=id
 ·subst e;simp
 ·rw[Ad6 e,Ad6 e,Ad6 e]
theorem Cic{F:Fz}{t:Ty}{xs ys:List t.den}{rs arr:List Value}{k:Nat}(hk:k+ys.length≤xs.length)(hl:xs.length*t.size≤rs.length)(hb:arr.length=ys.length*t.size)(hx:∀i,i<xs.length→RC F t (xs.getD i t.dflt) ((rs.drop (i*t.size)).take t.size))(hy:∀i,i<ys.length→RC F t (ys.getD i t.dflt) ((arr.drop (i*t.size)).take t.size)) :
  ∀i,i<(xs.take k++ys++xs.drop (k+ys.length)).length→RC F t ((xs.take k++ys++xs.drop (k+ys.length)).getD i t.dflt)
   (((rs.take (k*t.size)++arr++rs.drop (k*t.size+arr.length)).drop (i*t.size)).take t.size):=by
 have h1:k*t.size≤xs.length*t.size:=Nat.mul_le_mul_right _ (by omega)
 have h2:(k+ys.length)*t.size≤xs.length*t.size:=Nat.mul_le_mul_right _ hk
 rw[Nat.add_mul]at h2
 have hta:(rs.take (k*t.size)).length=(xs.take k).length*t.size:=by
  simp;rw[Nat.min_eq_left (by omega),Nat.min_eq_left (by omega)]
 have hxa:∀i,i<(xs.take k).length→RC F t ((xs.take k).getD i t.dflt) (((rs.take (k*t.size)).drop (i*t.size)).take t.size):=by
  intro i hi
  simp at hi
  have hi1:i<k:=by omega
  have hi2:i<xs.length:=by omega
  have e1:(xs.take k).getD i t.dflt=xs.getD i t.dflt:=by simp[List.getD_eq_getElem?_getD,hi1]
  have hlt:(i+1)*t.size≤k*t.size:=Nat.mul_le_mul_right _ (by omega)
  rw[Nat.add_mul,Nat.one_mul]at hlt
  rw[e1,List.drop_take,List.take_take,Nat.min_eq_left (by omega)]
  exact hx i hi2
 have first:=Bn3 (c:=[]) hta hb hxa hy
 simp only[List.append_nil]at first
 have hlen2:(xs.drop (k+ys.length)).length*t.size=xs.length*t.size-(k*t.size+ys.length*t.size):=by
  simp;rw[Nat.sub_mul,Nat.add_mul]
 have htb:((rs.drop (k*t.size+arr.length)).take ((xs.drop (k+ys.length)).length*t.size)).length=(xs.drop (k+ys.length)).length*t.size:=by
  rw[List.length_take,Nat.min_eq_left]
  rw[hlen2,List.length_drop,hb];omega
 have hab:(rs.take (k*t.size)++arr).length=(xs.take k++ys).length*t.size:=by
  rw[List.length_append,hta,hb,List.length_append,Nat.add_mul]
 have second:=Bn3 (xs:=xs.take k++ys) (ys:=xs.drop (k+ys.length)) (a:=rs.take (k*t.size)++arr) (b:=(rs.drop (k*t.size+arr.length)).take ((xs.drop (k+ys.length)).length*t.size))
  (c:=(rs.drop (k*t.size+arr.length)).drop ((xs.drop (k+ys.length)).length*t.size)) hab htb first (fun i hi=>by
   have hi2:k+ys.length+i<xs.length:=by simp at hi;omega
   have e1:(xs.drop (k+ys.length)).getD i t.dflt=xs.getD (k+ys.length+i) t.dflt:=by simp[List.getD_eq_getElem?_getD,List.getElem?_drop]
   have hlt:(i+1)*t.size≤(xs.drop (k+ys.length)).length*t.size:=Nat.mul_le_mul_right _ (by omega)
   rw[Nat.add_mul,Nat.one_mul]at hlt
   rw[e1,List.drop_take,List.take_take,Nat.min_eq_left (by omega),List.drop_drop]
   have:=hx _ hi2
   rw[Nat.add_mul,Nat.add_mul,←hb]at this
   exact this)
 intro i hi
 have:=second i hi
 rw[List.append_assoc (rs.take (k*t.size)++arr),List.take_append_drop]at this
 exact this
section
variable {P:Program}
theorem C9t{tt:TT}(htt:Aj1 P tt){T Tx E:TypeId}{ti xi ei:TI}{t:Ty}{zs:List Aby}(hi:tt.get T=some ti)(hd:ti.d = .slice E)(hxi:tt.get Tx=some xi)(hxd:(match xi.d with | .slice _=>true | .str=>true | _=>false)=true)(hei:tt.get E=some ei)(hz:ei.zero=some zs)(hsz:ei.size=t.size)(hzl:zs.length=ei.size):Ctm P T Tx E t.size ei.bytes:=by
 obtain⟨u,hu,hm⟩:=(htt T ti hi).under
 obtain⟨xu,hxu,hxm⟩:=(htt Tx xi hxi).under
 obtain⟨f,hf,hs,hb,hzz⟩:=(htt E ei hei).info
 obtain⟨z,h1,h2,_⟩:=hzz zs hz
 rw[hd]at hm
 refine⟨?_,?_,f,z,hf,hs.trans hsz,hb,h1,?_⟩
 ·cases u<;>simp[Abz]at hm
  subst hm;exact hu
 ·cases hxx:xi.d<;>rw[hxx]at hxd hxm<;>simp at hxd<;>cases xu<;>simp[Abz]at hxm
  ·exact .inr hxu
  ·exact .inl ⟨_,hxu⟩
 ·have:=congrArg List.length h2
  simp at this;omega
theorem C0y{tt:TT}(htt:Aj1 P tt){g:List Bool}{hq:Aam}{T Tx:TypeId}{s x:AV}{dst:Nat}{R:Type}{K:KD R}{res:R}(h:Clf tt hq T Tx s x dst K=some res) :
  ∃l v,K l v=some res∧∀F ρ hp W rs rx ty,Abx F ρ hp W→(∀id b,hq id=some b→hp id=some b)→(hq (Aa5 dst 0)=none→hp (Aa5 dst 0)=none)→Af5 g hp l=true→
   RV F ρ hp s rs→RV F ρ hp x rx→∃r W',(Builtin.append_ #[T,Tx] ty #[rs,rx]).run P W = .ok r W'∧Aif g F ρ hp W (Aa3 hp l) v r W':=by
 unfold Clf at h
 split at h
 case h_2=>cases h
 rename_i ti xi hi hxi
 split at h
 case h_2=>cases h
 rename_i E hd hxd
 split at h
 case h_2=>cases h
 rename_i ei t hei ht
 split at h
 case h_2=>cases h
 rename_i zs hz hsz
 simp only[Bool.and_eq_true]at hsz
 have hbp:0<ei.bytes:=by have:=hsz.2;simpa [Nat.blt_eq]using this
 have hsz:=Aa8 hsz.1
 split at h
 case h_1=>cases h
 rename_i ys hys0
 obtain⟨hzl,hys⟩:zs.length=ei.size∧Bt0 hq t x=some ys:=by
  split at hys0
  ·rename_i e;exact⟨Aa8 e,hys0⟩
  ·cases hys0
 have hT:=C9t htt hi hd hxi hxd hei hz hsz hzl
 have fromNil:∀(hn:hq (Aa5 dst 0)=none) (hlim:ys.length*ei.bytes≤LIM),∀F ρ hp W A rx ty,Abx F ρ hp W→(∀id b,hq id=some b→hp id=some b)→(hq (Aa5 dst 0)=none→hp (Aa5 dst 0)=none)→
   RV F ρ hp x rx→∃r W',(Builtin.append_ #[T,Tx] ty #[.slice A 0 0,rx]).run P W = .ok r W'∧Aif g F ρ hp W (Aa3 hp [(Aa5 dst 0,.row E t 1 false ys)]) (.at (.slf (Aa5 dst 0) 1)) r W':=by
  intro hn hlim F ρ hp W A rx ty hh hs hnew hx
  have hnp:=hnew hn
  have h32:=Anp dst 0
  have hpt:Ayk g F ρ hp W (Aa5 dst 0) ⟨[],0⟩ (.row E t 0 false []) W :=
   ⟨rfl,rfl,rfl,Nat.le_refl _,fun _ _ _=>rfl,fun k hk=>by simp at hk,fun b0 h0=>by (rw[hnp]at h0;cases h0),fun _=>h32,rfl,fun _=>h32⟩
  have hg1:Aif g F ρ hp W (Aht hp (Aa5 dst 0) (.row E t 0 false [])) (.at (.slf (Aa5 dst 0) 0)) (.slice A 0 0) W :=
   hpt.good hh (.inl ⟨by simp,rfl,by simp⟩) ⟨_,Afw _ _ _,Nat.le_refl _,_,_,_,rfl,fun _=>⟨by simp,by simp,fun bb h=>by simp at h⟩⟩
  have hstep:∀F1 ρ1,Abx F1 ρ1 (Aht hp (Aa5 dst 0) (.row E t 0 false [])) W→RV F1 ρ1 (Aht hp (Aa5 dst 0) (.row E t 0 false [])) (.at (.slf (Aa5 dst 0) 0)) (.slice A 0 0)→RV F1 ρ1 (Aht hp (Aa5 dst 0) (.row E t 0 false [])) x rx→
    ∃r W',(Builtin.append_ #[T,Tx] ty #[.slice A 0 0,rx]).run P W = .ok r W'∧Aif g F1 ρ1 (Aht hp (Aa5 dst 0) (.row E t 0 false [])) W (Aa3 hp [(Aa5 dst 0,.row E t 1 false ys)]) (.at (.slf (Aa5 dst 0) 1)) r W':=by
   intro F1 ρ1 a1 c1 b1
   have hss:∀id b,hq id=some b→Aht hp (Aa5 dst 0) (.row E t 0 false []) id=some b:=by
    intro id b hb
    have e:id≠Aa5 dst 0:=by rintro rfl;rw[hn]at hb;cases hb
    rw[Ad6 e];exact hs _ _ hb
   have sx:=Bau (P:=P) hys a1 hss b1
   have sx':=Bau (P:=P) hys a1.dr hss b1
   have:=Cib (g:=g) (ty:=ty) hT a1 (Afw _ _ _) c1 sx sx' (by simpa using hlim) hbp (fun hlt=>absurd hlt (by omega)) (fun _=>Anp _ _)
   simpa [C34,Aa3]using this
  obtain⟨F1,ρ1,a1,b1,c1,d1⟩:=hg1
  obtain⟨r,W',hr,F2,ρ2,a2,b2,c2,d2⟩:=hstep F1 ρ1 a1 c1 (b1 _ _ hx)
  exact⟨r,W',hr,F2,ρ2,a2,fun x y h=>b2 x y (b1 x y h),c2,d1.trans d2⟩
 split at h
 ·split at h
  case h_2=>cases h
  rename_i hn
  split at h
  case isFalse=>cases h
  rename_i hlim
  refine⟨_,_,h,fun F ρ hp W rs rx ty hh hs hnew _ hsr hx=>?_⟩
  simp only[RV,RV1,Abm,RA]at hsr
  subst hsr
  exact fromNil hn hlim F ρ hp W none rx ty hh hs hnew hx
 ·split at h
  case h_2=>cases h
  rename_i hn
  split at h
  case isFalse=>cases h
  rename_i hlim
  refine⟨_,_,h,fun F ρ hp W rs rx ty hh hs hnew _ hsr hx=>?_⟩
  obtain⟨A,rfl⟩:=hsr
  exact fromNil hn hlim F ρ hp W A rx ty hh hs hnew hx
 ·rename_i id ver
  split at h
  case h_2=>cases h
  rename_i E' t' ver' xs hb
  split at h
  case h_2=>cases h
  rename_i hv hE
  have hv:=Aa8 hv;have hE:=Aa8 hE;subst hv;subst hE
  split at h
  case isFalse=>cases h
  rename_i e
  subst e
  split at h
  case isFalse=>cases h
  rename_i hlim
  refine⟨_,_,h,fun F ρ hp W rs rx ty hh hs hnew hg hsr hx=>?_⟩
  have sx:=Bau (P:=P) hys hh hs hx
  have sx':=Bau (P:=P) hys hh.dr hs hx
  have hgr:=(A65 hg).2
  have:=Cib (g:=g) (ty:=ty) hT hh (hs _ _ hb) hsr sx sx' hlim hbp (fun hlt=>by
   obtain⟨b0,h0,hm⟩:=hgr hlt
   rw[hs _ _ hb]at h0;cases h0
   simp at hm;exact hm) (Alb hg)
  simpa [Aa3]using this
 ·rename_i id ver off len
  split at h
  case h_2=>cases h
  rename_i E' t' ver' xs hb
  split at h
  case h_2=>cases h
  rename_i hv
  have hv:=Aa8 hv;subst hv
  split at h
  case isFalse=>cases h
  rename_i e
  subst e
  split at h
  case isFalse=>cases h
  rename_i hfit
  refine⟨_,_,h,fun F ρ hp W rs rx ty hh hs hnew hg hsr hx=>?_⟩
  have hb':=hs _ _ hb
  have sx:=Bau (P:=P) hys hh hs hx
  obtain⟨b,hb2,hv,A,l',c,rfl,hc⟩:=hsr
  rw[hb']at hb2;cases hb2
  obtain⟨e0,h2,h3,h4,hA⟩:=hc rfl
  subst l'
  have keep:Aml (ρ id) (.row E' t' ver false xs) (ρ id) (.row E' t' ver false (xs.take (off+len)++ys++xs.drop (off+len+ys.length))) :=
   ⟨Nat.le_refl _,fun h=>(by simp[Aau.isMap]at h),fun _=>⟨rfl,by simp;omega,rfl⟩,trivial⟩
  have evo:id<32→Evo (g.getD id false) (ρ id) (ρ id) (.row E' t' ver false xs) (.row E' t' ver false (xs.take (off+len)++ys++xs.drop (off+len+ys.length))) :=
   fun _=>⟨rfl,rfl,rfl,fun _=>⟨by simp;omega,rfl⟩⟩
  have hle:len+ys.length≤c:=by omega
  rcases hh.blocks id _ hb' with ⟨i1,i2,i3⟩|⟨bb,rs,fr,i1,i2,i3,i4,i5,i6,i7⟩
  ·subst i2
   simp at hfit h2
   have hy:ys=[]:=List.eq_nil_of_length_eq_zero (by omega)
   subst hy
   obtain⟨arr,ha1,ha2,_⟩:=sx.cells 0 (Nat.le_refl _)
   have:arr = #[]:=by simp at ha2;exact ha2
   subst this
   refine⟨_,W,Bcv (ty:=ty) hT (by simpa using sx.len) ha1 (by omega),?_⟩
   have hpt:Ayk g F ρ hp W id (ρ id) (.row E' t' ver false (List.take (off+len) []++[]++List.drop (off+len+List.length ([]:List t'.den)) [])) W :=
    ⟨rfl,rfl,rfl,Nat.le_refl _,fun _ _ _=>rfl,fun k hk=>.inl ⟨_,hb',hk⟩,fun b0 h0=>by (rw[hb']at h0;cases h0;exact⟨rfl,keep,evo⟩),fun h=>by (rw[hb']at h;cases h),rfl,Alb hg⟩
   simp only[Aa3]
   refine hpt.good hh (.inl ⟨by simpa using i1,by simp,by simpa using i3⟩) ⟨_,Afw _ _ _,Nat.le_refl _,_,_,_,rfl,fun _=>⟨by simp,by simp;omega,by simp,by rw[Ans];exact h4,fun bb h=>by rw[Ans,i1]at h;cases h⟩⟩
  ·by_cases hc0:c=0
   ·have hy:ys=[]:=List.eq_nil_of_length_eq_zero (by omega)
    subst hy
    obtain⟨arr,ha1,ha2,_⟩:=sx.cells 0 (Nat.le_refl _)
    have:arr = #[]:=by simp at ha2;exact ha2
    subst this
    refine⟨_,W,Bcv (ty:=ty) hT (by simpa using sx.len) ha1 (by omega),?_⟩
    have e:Aa3 hp [(id,.row E' t' ver false (xs.take (off+len)++[]++xs.drop (off+len+List.length ([]:List t'.den))))]=hp:=by
     simp only[Aa3,List.append_nil,List.length_nil,Nat.add_zero,List.take_append_drop]
     exact Ca7 hb'
    rw[e]
    refine Aif.val hh ⟨_,hb',Nat.le_refl _,_,_,_,rfl,fun _=>⟨by simp,by simpa using h2,h3,h4,hA⟩⟩
   ·have hAA:=(hA bb i1).resolve_left hc0
    subst hAA
    obtain⟨arr,ha1,ha2,ha3⟩:=sx.cells ys.length (Nat.le_refl _)
    have hb3:(off+len+ys.length)*t'.size≤(ρ id).cap*t'.size:=Nat.mul_le_mul_right _ (by omega)
    rw[←i4,Nat.add_mul,Nat.add_mul]at hb3
    obtain⟨W',hst,hset⟩:=Azd (P:=P) arr.toList W rs (off*t'.size+len*t'.size) 0 i2 i3 (by simp;omega) (Cfh ha2 ha3)
    refine⟨_,W',Bt7 (ty:=ty) hT sx.len ha1 hle hst,?_⟩
    have hpt:=Ayk.inplace (g:=g) (F:=F) hb' rfl rfl i1 hset keep evo (Alb hg)
    simp only[Aa3]
    refine hpt.good hh ?_ ⟨_,Afw _ _ _,Nat.le_refl _,_,_,_,rfl,fun _=>⟨rfl,by simp;omega,by simp;omega,by rw[Ans];exact h4,fun b' h=>by rw[Ans,i1]at h;cases h;exact .inr rfl⟩⟩
    rw[Ans]
    refine .inr ⟨bb,_,fr,i1,hset.at_,?_,?_,by simp;omega,?_,fun h=>by cases h⟩
    ·have e:(rs.toList.take (off*t'.size+len*t'.size+0)++arr.toList++rs.toList.drop (off*t'.size+len*t'.size+0+arr.toList.length)).toArray.size=rs.size:=by simp;omega
     rw[e];exact i3
    ·rw[←i4];simp;omega
    ·have hl6:xs.length*t'.size≤rs.toList.length:=by simp;rw[i4];exact Nat.mul_le_mul_right _ i5
     have:=Cic (k:=off+len) (rs:=rs.toList) (arr:=arr.toList) hfit hl6 (by simpa using ha2) i6 ha3
     intro i hi
     have:=this i hi
     rw[Nat.add_mul]at this
     simpa [Afk]using this
 ·cases h
end
end
end Go.AX
namespace Go.AX
noncomputable section
section
variable {P:Program}
theorem C6w{tt:TT}(htt:Aj1 P tt){g:List Bool}{hq:Aam}{T:TypeId}{d x:AV}{R:Type}{K:KD R}{res:R}(h:C0s tt hq T d x K=some res) :
  ∃l v,K l v=some res∧∀F ρ hp W rd rx ats ty,ats[0]? = some T→Abx F ρ hp W→(∀id b,hq id=some b→hp id=some b)→Af5 g hp l=true→RV F ρ hp d rd→RV F ρ hp x rx→
   ∃r W',(Builtin.copy_ ats ty #[rd,rx]).run P W = .ok r W'∧Aif g F ρ hp W (Aa3 hp l) v r W':=by
 unfold C0s at h
 split at h
 case h_2=>cases h
 rename_i ti hi
 obtain⟨u,hu,hm⟩:=(htt T ti hi).under
 split at h
 case h_2=>cases h
 rename_i E hd
 rw[hd]at hm
 split at h
 case h_2=>cases h
 rename_i ei hei
 obtain⟨fe,hfe,hse,_,_⟩:=(htt E ei hei).info
 cases u with
 |slice E1=>
  simp only[Abz]at hm;subst hm
  have fin:∀{id ver off len:Nat},(match hq id with
     |some (.row E' t ver' false xs)=>match Nat.beq ver ver',Nat.beq ei.size t.size,Bt0 hq t x with
      |true,true,some ys=>K [(id,.row E' t ver false (xs.take off++ys.take (min ys.length len)++xs.drop (off+min ys.length len)))] (vi (min ys.length len:Nat))
      | _,_,_=>none
     | _=>none)=some res→∃l v,K l v=some res∧∀F ρ hp W A c rx ats ty,ats[0]? = some T→Abx F ρ hp W→(∀id b,hq id=some b→hp id=some b)→Af5 g hp l=true→RV F ρ hp x rx→
      (∀E' t xs,hp id=some (.row E' t ver false xs)→off+len≤xs.length∧∀bb,(ρ id).bs=[bb]→len=0∨A=some ⟨bb,off*t.size,none⟩)→
      ∃r W',(Builtin.copy_ ats ty #[.slice A len c,rx]).run P W = .ok r W'∧Aif g F ρ hp W (Aa3 hp l) v r W':=by
   intro id ver off len h
   split at h
   case h_2=>cases h
   rename_i E' t ver' xs hb
   split at h
   case h_2=>cases h
   rename_i ys hv hsz hys
   have hv:=Aa8 hv;subst hv
   have hsz:=Aa8 hsz
   refine⟨_,_,h,fun F ρ hp W A c rx ats ty hat hh hs hg hx hA=>?_⟩
   have hb':=hs _ _ hb
   obtain⟨hol,hA⟩:=hA _ _ _ hb'
   have sx:=Bau (P:=P) hys hh hs hx
   have hmn:Nat.min ys.length len=min ys.length len:=rfl
   obtain⟨arr,ha1,ha2,ha3⟩:=sx.cells (min ys.length len) (Nat.min_le_left _ _)
   have hylen:(ys.take (min ys.length len)).length=min ys.length len:=by simp
   have keep:Aml (ρ id) (.row E' t ver false xs) (ρ id) (.row E' t ver false (xs.take off++ys.take (min ys.length len)++xs.drop (off+min ys.length len))) :=
    ⟨Nat.le_refl _,fun h=>(by simp[Aau.isMap]at h),fun _=>⟨rfl,by simp;omega,rfl⟩,trivial⟩
   have evo:id<32→Evo (g.getD id false) (ρ id) (ρ id) (.row E' t ver false xs) (.row E' t ver false (xs.take off++ys.take (min ys.length len)++xs.drop (off+min ys.length len))) :=
    fun _=>⟨rfl,rfl,rfl,fun _=>⟨by simp;omega,rfl⟩⟩
   have hrun0:∀W',(∀b o,A=some ⟨b,o,none⟩→(storeCells ⟨b,o,none⟩ arr.toList).run P W = .ok () W')→(arr.toList=[]→W'=W)→(A=none∨(∃a,A=some a∧arr.toList=[])∨∃b o,A=some ⟨b,o,none⟩)→(A=none→W'=W)→
     (Builtin.copy_ ats ty #[.slice A len c,rx]).run P W = .ok (.int .i64 (Nat.min ys.length len:Nat)) W':=by
    intro W' hst hemp hAc hn
    have hh1:(Builtin.firstCells fe.size (Nat.min ys.length len) rx).run P W = .ok arr W:=by rw[hse,hsz];exact ha1
    rcases hAc with hA' |⟨a,hA',he⟩|⟨b,o,hA'⟩
    ·have:=hn hA';subst this;subst hA'
     simp[Builtin.copy_,hat,Aaj hu,sx.len,Agq hfe,hh1,goInt]
    ·have:=hemp he;subst this;subst hA'
     simp[Builtin.copy_,hat,Aaj hu,sx.len,Agq hfe,hh1,goInt,he,storeCells]
    ·subst hA'
     simp[Builtin.copy_,hat,Aaj hu,sx.len,Agq hfe,hh1,goInt,hst b o rfl]
   rcases hh.blocks id _ hb' with ⟨i1,i2,i3⟩|⟨bb,rs,fr,i1,i2,i3,i4,i5,i6,i7⟩
   ·subst i2
    simp at hol
    have hl0:len=0:=by omega
    subst hl0
    have harr:arr.toList=[]:=by
     have:arr.size=0:=by rw[ha2];simp
     simpa using this
    have e:Aa3 hp [(id,.row E' t ver false (List.take off []++ys.take (min ys.length 0)++List.drop (off+min ys.length 0) []))]=hp:=by
     simp only[Aa3,Nat.min_zero,List.take_zero,List.take_nil,List.drop_nil,List.append_nil]
     exact Ca7 hb'
    rw[e]
    refine⟨_,W,hrun0 W (fun b o _=>by rw[harr];simp[storeCells]) (fun _=>rfl) ?_ (fun _=>rfl),Aif.val hh rfl⟩
    cases A with
    |none=>exact .inl rfl
    |some a=>exact .inr (.inl ⟨a,rfl,harr⟩)
   ·by_cases hl0:len=0
    ·subst hl0
     have harr:arr.toList=[]:=by
      have:arr.size=0:=by rw[ha2];simp
      simpa using this
     have e:Aa3 hp [(id,.row E' t ver false (xs.take off++ys.take (min ys.length 0)++xs.drop (off+min ys.length 0)))]=hp:=by
      simp only[Aa3,Nat.min_zero,List.take_zero,List.append_nil,Nat.add_zero,List.take_append_drop]
      exact Ca7 hb'
     rw[e]
     refine⟨_,W,hrun0 W (fun b o _=>by rw[harr];simp[storeCells]) (fun _=>rfl) ?_ (fun _=>rfl),Aif.val hh rfl⟩
     cases A with
     |none=>exact .inl rfl
     |some a=>exact .inr (.inl ⟨a,rfl,harr⟩)
    ·have hAA:=(hA bb i1).resolve_left hl0
     subst hAA
     have hb3:(off+min ys.length len)*t.size≤(ρ id).cap*t.size:=Nat.mul_le_mul_right _ (by omega)
     rw[←i4,Nat.add_mul]at hb3
     obtain⟨W',hst,hset⟩:=Azd (P:=P) arr.toList W rs (off*t.size) 0 i2 i3 (by simp;omega) (Cfh ha2 (ys:=ys) (fun i hi=>ha3 i hi))
     refine⟨_,W',hrun0 W' (fun b o e=>by cases e;exact hst) (fun he=>?_) (.inr (.inr ⟨_,_,rfl⟩)) (fun h=>by cases h),?_⟩
     ·rw[he]at hst;simp[storeCells]at hst;exact hst.symm
     have hpt:=Ayk.inplace (g:=g) (F:=F) hb' rfl rfl i1 hset keep evo (Alb hg)
     simp only[Aa3]
     refine hpt.good hh ?_ rfl
     rw[Ans]
     refine .inr ⟨bb,_,fr,i1,hset.at_,?_,?_,by simp;omega,?_,fun h=>by cases h⟩
     ·have e:(rs.toList.take (off*t.size+0)++arr.toList++rs.toList.drop (off*t.size+0+arr.toList.length)).toArray.size=rs.size:=by simp;omega
      rw[e];exact i3
     ·rw[←i4];simp;omega
     ·have hl6:xs.length*t.size≤rs.toList.length:=by simp;rw[i4];exact Nat.mul_le_mul_right _ i5
      have:=Cic (k:=off) (xs:=xs) (ys:=ys.take (min ys.length len)) (rs:=rs.toList) (arr:=arr.toList) (F:=F) (t:=t) (by rw[hylen];omega) hl6 (by rw[hylen];simpa using ha2) i6 (fun i hi=>by
       rw[hylen]at hi
       have hi':i<ys.length:=by omega
       have e1:(ys.take (min ys.length len)).getD i t.dflt=ys.getD i t.dflt:=by simp[List.getD_eq_getElem?_getD,hi,hi']
       rw[e1];exact ha3 i hi)
      rw[hylen]at this
      intro i hi
      simpa [Afk]using this i hi
  split at h
  ·rename_i id ver
   split at h
   case h_2=>cases h
   rename_i E' t ver0 fz xs hb
   obtain⟨l,v,hK,hf⟩:=fin h
   refine⟨l,v,hK,fun F ρ hp W rd rx ats ty hat hh hs hg hdr hx=>?_⟩
   obtain⟨b,hb2,hv,A,l',c,rfl,hc⟩:=hdr
   have hb':=hs _ _ hb
   rw[hb']at hb2;cases hb2
   by_cases e:ver0=ver
   ·subst e
    obtain⟨rfl,rfl,hA⟩:=hc rfl
    refine hf F ρ hp W A _ rx ats ty hat hh hs hg hx fun E'' t' xs' h'=>?_
    rw[hb']at h';cases h'
    exact⟨by omega,fun bb hbb=>.inr (by simpa using hA bb hbb)⟩
   ·exfalso
    have:=h
    simp only[hb]at this
    split at this
    ·rename_i heq
     cases heq
     split at this
     ·rename_i hv' _ _;exact e (Aa8 hv').symm
     ·cases this
    ·cases this
  ·rename_i id ver off len
   obtain⟨l,v,hK,hf⟩:=fin h
   refine⟨l,v,hK,fun F ρ hp W rd rx ats ty hat hh hs hg hdr hx=>?_⟩
   obtain⟨b,hb2,hv,A,l',c,rfl,hc⟩:=hdr
   have hq':∃E' t xs,hq id=some (.row E' t ver false xs):=by
    have:=h
    dsimp only at this
    split at this
    case h_2=>cases this
    rename_i hb
    split at this
    ·rename_i hv' _ _;have:=Aa8 hv';subst this;exact⟨_,_,_,hb⟩
    ·cases this
   obtain⟨E',t,xs,hb⟩:=hq'
   have hb':=hs _ _ hb
   rw[hb']at hb2;cases hb2
   obtain⟨e0,h2,h3,h4,hA⟩:=hc rfl
   subst l'
   refine hf F ρ hp W A _ rx ats ty hat hh hs hg hx fun E'' t' xs' h'=>?_
   rw[hb']at h';cases h'
   refine⟨h2,fun bb hbb=>?_⟩
   rcases hA bb hbb with h|h
   ·exact .inl (by omega)
   ·exact .inr h
  ·cases h
 | _=>simp[Abz]at hm
theorem B54(a b:List UInt8):((⟨a.toArray⟩:ByteArray)==⟨b.toArray⟩)=(a==b):=by
 have:((⟨a.toArray⟩:ByteArray)==⟨b.toArray⟩)=(a.toArray==b.toArray):=by unfold BEq.beq;rfl
 simp[this]
structure B0c(P:Program)(T:TypeId)(kt:Ty)(K:TypeId)(u:TypeDesc):Prop where
 under:∃E,P.underlying T=some (.map K E)
 key:P.underlying K=some u
 is:(kt = .bool∧u = .bool)∨(∃i,kt = .int i∧u = .int i)∨(kt = .str∧u = .string)
theorem A4q{tt:TT}(htt:Aj1 P tt){T:TypeId}{kt:Ty}(h:Bz8 tt T=some kt):∃K E u i,tt.get T=some i∧i.d = .map K E∧P.underlying T=some (.map K E)∧B0c P T kt K u:=by
 unfold Bz8 at h
 split at h
 case h_2=>cases h
 rename_i i hi
 split at h
 case h_2=>cases h
 rename_i k e hd
 split at h
 case h_2=>cases h
 rename_i ki hki
 obtain⟨u,hu,hm⟩:=(htt T i hi).under
 obtain⟨w,hw,hwm⟩:=(htt k ki hki).under
 rw[hd]at hm
 cases u<;>simp[Abz]at hm
 obtain⟨rfl,rfl⟩:=hm
 split at h
 ·rename_i hkd;rw[hkd]at hwm;cases h
  cases w<;>simp[Abz]at hwm
  exact⟨_,_,_,i,hi,hd,hu,⟨_,hu⟩,hw,.inl ⟨rfl,rfl⟩⟩
 ·rename_i k' hkd;rw[hkd]at hwm;cases h
  cases w<;>simp[Abz]at hwm
  subst hwm
  exact⟨_,_,_,i,hi,hd,hu,⟨_,hu⟩,hw,.inr (.inl ⟨_,rfl,rfl⟩)⟩
 ·rename_i hkd;rw[hkd]at hwm;cases h
  cases w<;>simp[Abz]at hwm
  exact⟨_,_,_,i,hi,hd,hu,⟨_,hu⟩,hw,.inr (.inr ⟨rfl,rfl⟩)⟩
 ·cases h
theorem C6x{F:Fz}{T K:TypeId}{kt:Ty}{u:TypeDesc}(hk:B0c P T kt K u){k k':kt.den}{r r':Value}(h:RC F kt k [r])(h':RC F kt k' [r']):Instr.sameNow u r r'=some (kt.beq k k'):=by
 rcases hk.is with ⟨rfl,rfl⟩|⟨i,rfl,rfl⟩|⟨rfl,rfl⟩
 ·simp only[RC]at h h';cases h;cases h';rfl
 ·simp only[RC]at h h';cases h;cases h';simp[Instr.sameNow,Ty.beq]
 ·simp only[RC]at h h';cases h;cases h'
  simp only[Instr.sameNow,Ty.beq,B54]
theorem C6y{F:Fz}{T K:TypeId}{kt:Ty}{u:TypeDesc}(hk:B0c P T kt K u){k k':kt.den}{r r':Value}(h:RC F kt k [r])(h':RC F kt k' [r'])(he:kt.beq k k'=true):Instr.sameBits 10000 r' r=true:=by
 rcases hk.is with ⟨rfl,rfl⟩|⟨i,rfl,rfl⟩|⟨rfl,rfl⟩
 ·simp only[RC]at h h';cases h;cases h';simp[Ty.beq]at he;subst he;simp[Instr.sameBits]
 ·simp only[RC]at h h';cases h;cases h';simp[Ty.beq]at he;subst he;simp[Instr.sameBits]
 ·simp only[RC]at h h';cases h;cases h';simp[Ty.beq]at he;subst he;simp[Instr.sameBits,B54]
theorem C0z{T K:TypeId}{kt:Ty}{u:TypeDesc}(hk:B0c P T kt K u)(b:Bool)(n:Nat)(v:Value)(W:World):(Instr.checkKey b (n+1) K v).run P W = .ok () W:=by
 have:=hk.key
 rcases hk.is with ⟨rfl,rfl⟩|⟨i,rfl,rfl⟩|⟨rfl,rfl⟩<;>simp only[Instr.checkKey,Sem.run_bind,Aaj this,Result.andThen_ok,Sem.run_pure]
theorem Ai9{T K:TypeId}{kt:Ty}{u:TypeDesc}(hk:B0c P T kt K u)(b:Bool)(v:Value)(W:World):(Instr.checkKey b 10000 K v).run P W = .ok () W :=
 C0z hk b 9999 v W
abbrev C6z(F:Fz)(kt et:Ty):(kt.den×et.den)→MapEntry→Prop:=fun kv e=>RC F kt kv.1 [e.key]∧RC F et kv.2 [e.val]
theorem Bg4{F:Fz}{T K:TypeId}{kt et:Ty}{u:TypeDesc}(hk:B0c P T kt K u){k:kt.den}{r:Value}(hr:RC F kt k [r]):∀{m:List (kt.den×et.den)} {es:List MapEntry} (i:Nat),Abs (C6z F kt et) m es→
  (Instr.findNow u r es i=some none∧A8c k m=none∧(∀v:et.den,Bas k v m=m++[(k,v)])∧Bpm k m=m)∨
  (∃j e v0,es[j]? = some e∧Instr.findNow u r es i=some (some (i+j,e.val))∧A8c k m=some v0∧RC F et v0 [e.val]∧(∀v:et.den,Bas k v m=m.set j (k,v))∧Bpm k m=m.eraseIdx j∧Instr.sameBits 10000 e.key r=true)
 |[],es,i,h=>by
  have:=h.nil_left;subst this
  exact .inl ⟨rfl,rfl,fun _=>rfl,rfl⟩
 |(k',v')::m,es,i,h=>by
  obtain⟨e,es,rfl,⟨h1,h2⟩,h3⟩:=h.cons_left
  have hs:=C6x hk hr h1
  cases hb:kt.beq k k' with
  |true=>
   rw[hb]at hs
   exact .inr ⟨0,e,v',by simp,by simp[Instr.findNow,hs],by simp[A8c,hb],h2,fun v=>by simp[Bas,hb],by simp[Bpm,hb],C6y hk hr h1 hb⟩
  |false=>
   rw[hb]at hs
   rcases Bg4 hk hr (i+1) h3 with ⟨a,b,c,d⟩|⟨j,e',v0,a,b,c,d,f,q,w⟩
   ·exact .inl ⟨by simp[Instr.findNow,hs,a],by simp[A8c,hb,b],fun v=>by simp[Bas,hb,c v],by simp[Bpm,hb,d]⟩
   ·exact .inr ⟨j+1,e',v0,by simpa using a,by simp[Instr.findNow,hs,b];omega,by simp[A8c,hb,c],d,fun v=>by simp[Bas,hb,f v],by simp[Bpm,hb,q],w⟩
theorem Ahd{T K:TypeId}{kt:Ty}{u:TypeDesc}(hk:B0c P T kt K u){r:Value}{es:List MapEntry}{o:Option (Nat×Value)}(h:Instr.findNow u r es 0=some o)(W:World):(Instr.findKey K r es).run P W = .ok o W:=by
 simp[Instr.findKey,Aaj hk.key,h]
theorem Ahu{W:World}{b:Nat}{es:Array MapEntry}{clk:Nat}(h:W.heap[b]? = some (.map es clk)):(getObj b).run P W = .ok (.map es clk) W:=by
 simp[getObj,Sem.run,h]
theorem Aqf{W:World}{b:Nat}{es:Array MapEntry}{clk:Nat}(h:W.heap[b]? = some (.map es clk))(o:Obj):(setObj b o).run P W = .ok () {W with heap:=W.heap.setIfInBounds b o}:=by
 simp[setObj,Sem.run,h]
abbrev Ca8(F:Fz)(ρ:Rho)(hp:Aam)(k:IntKind):(Int×Aby)→MapEntry→Prop:=fun kv e=>e.key = .int k kv.1∧Abm F ρ hp kv.2 e.val
theorem Czu{R:Type}{n:Int}{K0:Option R}{K:Aby→Option R}{res:R}:∀{m:List (Int×Aby)},C0t n K0 K m=some res→
  ∃o:Option (Nat×Aby),(match o with|none=>K0|some (_,c)=>K c)=some res∧∀(F:Fz) (ρ:Rho) (hp:Aam) (k:IntKind) (es:List MapEntry) (i:Nat),Abs (Ca8 F ρ hp k) m es→
   match o with
   |none=>Instr.findNow (.int k) (.int k n) es i=some none
   |some (j,c)=>∃e,es[j]? = some e∧Instr.findNow (.int k) (.int k n) es i=some (some (i+j,e.val))∧Abm F ρ hp c e.val
 |[],h=>⟨none,h,fun F ρ hp k es i hes=>by have:=hes.nil_left;subst this;rfl⟩
 |(k',c)::r,h=>by
  simp only[C0t]at h
  split at h
  ·rename_i hk
   subst hk
   refine⟨some (0,c),h,fun F ρ hp k es i hes=>?_⟩
   obtain⟨e,es,rfl,⟨h1,h2⟩,h3⟩:=hes.cons_left
   exact⟨e,by simp,by simp[Instr.findNow,h1,Instr.sameNow],h2⟩
  ·rename_i hk
   obtain⟨o,h1,h2⟩:=Czu h
   cases o with
   |none=>
    refine⟨none,h1,fun F ρ hp k es i hes=>?_⟩
    obtain⟨e,es,rfl,⟨g1,g2⟩,g3⟩:=hes.cons_left
    have:=h2 F ρ hp k es (i+1) g3
    simpa [Instr.findNow,g1,Instr.sameNow,show (n==k')=false from by simpa using hk]using this
   |some p=>
    obtain⟨j,d⟩:=p
    refine⟨some (j+1,d),h1,fun F ρ hp k es i hes=>?_⟩
    obtain⟨e,es,rfl,⟨g1,g2⟩,g3⟩:=hes.cons_left
    obtain⟨e',a,b,q⟩:=h2 F ρ hp k es (i+1) g3
    exact⟨e',by simpa using a,by simp[Instr.findNow,g1,Instr.sameNow,show (n==k')=false from by simpa using hk,b];omega,q⟩
theorem Czv{R:Type}{n:Int}{c:Aby}{K:List (Int×Aby)→Option R}{res:R}:∀{m pre:List (Int×Aby)},C0u n c K pre m=some res→
  ∃o:Option Nat,K (pre++(match o with|none=>m++[(n,c)]|some j=>m.set j (n,c)))=some res∧∀(F:Fz) (ρ:Rho) (hp:Aam) (k:IntKind) (es:List MapEntry) (i:Nat),Abs (Ca8 F ρ hp k) m es→
   match o with
   |none=>Instr.findNow (.int k) (.int k n) es i=some none
   |some j=>∃e,es[j]? = some e∧Instr.findNow (.int k) (.int k n) es i=some (some (i+j,e.val))∧e.key = .int k n
 |[],pre,h=>⟨none,h,fun F ρ hp k es i hes=>by have:=hes.nil_left;subst this;rfl⟩
 |(k',c')::r,pre,h=>by
  simp only[C0u]at h
  split at h
  ·rename_i hk
   subst hk
   refine⟨some 0,h,fun F ρ hp k es i hes=>?_⟩
   obtain⟨e,es,rfl,⟨h1,h2⟩,h3⟩:=hes.cons_left
   exact⟨e,by simp,by simp[Instr.findNow,h1,Instr.sameNow],h1⟩
  ·rename_i hk
   obtain⟨o,h1,h2⟩:=Czv h
   cases o with
   |none=>
    refine⟨none,by simpa using h1,fun F ρ hp k es i hes=>?_⟩
    obtain⟨e,es,rfl,⟨g1,g2⟩,g3⟩:=hes.cons_left
    have:=h2 F ρ hp k es (i+1) g3
    simpa [Instr.findNow,g1,Instr.sameNow,show (n==k')=false from by simpa using hk]using this
   |some j=>
    refine⟨some (j+1),by simpa using h1,fun F ρ hp k es i hes=>?_⟩
    obtain⟨e,es,rfl,⟨g1,g2⟩,g3⟩:=hes.cons_left
    obtain⟨e',a,b,q⟩:=h2 F ρ hp k es (i+1) g3
    exact⟨e',by simpa using a,by simp[Instr.findNow,g1,Instr.sameNow,show (n==k')=false from by simpa using hk,b];omega,q⟩
abbrev Cid(bs:List Nat)(k:IntKind):(Int×Nat)→MapEntry→Prop:=fun kv e=>e.key = .int k kv.1∧PoR bs (some kv.2) e.val
theorem B0d{bs:List Nat}{n:Int}{k:IntKind}:∀{m:List (Int×Nat)} {es:List MapEntry} (i:Nat),Abs (Cid bs k) m es→
  (Instr.findNow (.int k) (.int k n) es i=some none∧Bcr n m=none∧(∀v,Bg1 n v m=m++[(n,v)])∧Bk4 n m=m)∨
  (∃j e v0,es[j]? = some e∧Instr.findNow (.int k) (.int k n) es i=some (some (i+j,e.val))∧Bcr n m=some v0∧PoR bs (some v0) e.val∧(∀v,Bg1 n v m=m.set j (n,v))∧Bk4 n m=m.eraseIdx j∧e.key = .int k n)
 |[],es,i,h=>by
  have:=h.nil_left;subst this
  exact .inl ⟨rfl,rfl,fun _=>rfl,rfl⟩
 |(k',v')::m,es,i,h=>by
  obtain⟨e,es,rfl,⟨h1,h2⟩,h3⟩:=h.cons_left
  by_cases hb:n=k'
  ·subst hb
   exact .inr ⟨0,e,v',by simp,by simp[Instr.findNow,h1,Instr.sameNow],by simp[Bcr],h2,fun v=>by simp[Bg1],by simp[Bk4],h1⟩
  ·have hs:(n==k')=false:=by simpa using hb
   rcases B0d (i+1) h3 with ⟨a,b,c,d⟩|⟨j,e',v0,a,b,c,d,f,q,w⟩
   ·exact .inl ⟨by simpa [Instr.findNow,h1,Instr.sameNow,hs]using a,by simp[Bcr,hb,b],fun v=>by simp[Bg1,hb,c v],by simp[Bk4,hb,d]⟩
   ·exact .inr ⟨j+1,e',v0,by simpa using a,by simp[Instr.findNow,h1,Instr.sameNow,hs,b];omega,by simp[Bcr,hb,c],d,fun v=>by simp[Bg1,hb,f v],by simp[Bk4,hb,q],w⟩
theorem Abs.erase{α β:Type}{R:α→β→Prop}:∀{l:List α} {m:List β} (i:Nat),Abs R l m→Abs R (l.eraseIdx i) (m.eraseIdx i)
 |[],[],_,_=>trivial
 | _::_,_::_,0,h=>h.2
 | _::_,_::_,i+1,h=>⟨h.1,Abs.erase i h.2⟩
 |[],_::_,_,h=>h.elim
 | _::_,[],_,h=>h.elim
theorem Ctn{g:List Bool}{F:Fz}{ρ:Rho}{hp:Aam}{W:World}{id pid bb clk':Nat}{T':TypeId}{ki:IntKind}{f f':List (Int×Nat)}{es':Array MapEntry}{v:AV}{r:Value}(hh:Abx F ρ hp W)(hb:hp id=some (.pmap T' ki pid f))(h1:(ρ id).bs=[bb])(hes:Abs (Cid (ρ pid).bs ki) f' es'.toList)(hv:∀F ρ hp,RV F ρ hp v r)(hro:Aqs g=true→32≤id) :
  Aif g F ρ hp W (Aht hp id (.pmap T' ki pid f')) v r {W with heap:=W.heap.setIfInBounds bb (.map es' clk')}:=by
 have keep:Aml (ρ id) (.pmap T' ki pid f) (ρ id) (.pmap T' ki pid f'):=⟨Nat.le_refl _,fun h=>⟨rfl,rfl⟩,fun _=>rfl,trivial⟩
 have hlt:=(hh.blocks id _ hb).lt (k:=bb) (by simp[h1])
 have hpt:Ayk g F ρ hp W id (ρ id) (.pmap T' ki pid f') {W with heap:=W.heap.setIfInBounds bb (.map es' clk')} :=
  ⟨rfl,rfl,rfl,by simp,fun k hk hn=>by
   have:bb≠k:=fun e=>hn _ hb (by simp[h1,e])
   simp[Array.getElem?_setIfInBounds_ne this],fun k hk=>.inl ⟨_,hb,hk⟩,fun b0 h0=>by (rw[hb]at h0;cases h0;exact⟨rfl,keep,fun _=>⟨rfl,rfl,rfl,rfl⟩⟩),fun h=>by (rw[hb]at h;cases h),rfl,hro⟩
 refine hpt.good hh ?_ (hv _ _ _)
 rw[Ans]
 obtain⟨⟨Tp,tp,xp,hpp⟩,_⟩:=hh.blocks id _ hb
 have hne:pid≠id:=fun e=>by rw[e,hb]at hpp;cases hpp
 exact⟨⟨Tp,tp,xp,by rw[Ad6 hne];exact hpp⟩,bb,es',clk',h1,by simp[hlt],hes⟩
theorem Cxy{g:List Bool}{F:Fz}{ρ:Rho}{hp:Aam}{W:World}{b pid:Nat}{E:TypeId}{cs:List Aby}{t:Ty}{xs:List (t.den×Option Nat)}{x:t.den}(ho:Abx F ρ hp W)(hb:hp b=some (.cells E cs))(hpp:hp pid=some (.pool E t xs))(hl:cs.length=t.size+1)(h32:32≤b)(hx:Bar t (cs.take t.size)=some x)(hn:cs[t.size]? = some (.a .nilptr))(hro:Aqs g=true→32≤pid) :
  ∃ρ',Abx F ρ' (Aht (Aht hp b (.row 0 .bool 1 false [])) pid (.pool E t (xs++[(x,none)]))) W∧
   (∀u w,RV F ρ hp u w→RV F ρ' (Aht (Aht hp b (.row 0 .bool 1 false [])) pid (.pool E t (xs++[(x,none)]))) u w)∧
   Ext g F ρ hp W F ρ' (Aht (Aht hp b (.row 0 .bool 1 false [])) pid (.pool E t (xs++[(x,none)]))) W∧
   (∀rv,RA F ρ hp (.ptr b 0 0 0) rv→PoR (ρ' pid).bs (some xs.length) rv)∧(∀i,i≠b→i≠pid→ρ' i=ρ i)∧(∀(k bb:Nat),(ρ pid).bs[k]? = some bb→(ρ' pid).bs[k]? = some bb):=by
 have hne:b≠pid:=fun e=>by rw[e,hpp]at hb;cases hb
 obtain⟨bb,rs,fr,h1,h2,h3,h4⟩:=ho.blocks b _ hb
 obtain⟨p1,p2,p3⟩:=ho.blocks pid _ hpp
 let ρ':Rho:=Bk5 (Bk5 ρ b ⟨[],0⟩) pid ⟨(ρ pid).bs++[bb],(ρ pid).cap⟩
 have e1:ρ' b=⟨[],0⟩:=by simp only[ρ'];rw[At5 hne,Bb5]
 have e2:ρ' pid=⟨(ρ pid).bs++[bb],(ρ pid).cap⟩:=by simp only[ρ'];rw[Bb5]
 have e3:∀i,i≠b→i≠pid→ρ' i=ρ i:=fun i h h'=>by simp only[ρ'];rw[At5 h',At5 h]
 have pre:∀(k c:Nat),(ρ pid).bs[k]? = some c→(ρ' pid).bs[k]? = some c:=fun k c h=>by
  rw[e2];simp only
  rw[List.getElem?_append_left (List.getElem?_eq_some_iff.1 h).1];exact h
 have hbn:bb∉(ρ pid).bs:=fun hm=>hne (ho.inj b pid _ _ bb hb hpp (by simp[h1]) hm)
 generalize hH:Aht (Aht hp b (.row 0 .bool 1 false [])) pid (.pool E t (xs++[(x,none)]))=hp'
 have g1:hp' b=some (.row 0 .bool 1 false []):=by rw[←hH,Ad6 hne];simp
 have g2:hp' pid=some (.pool E t (xs++[(x,none)])):=by rw[←hH];simp
 have g3:∀i,i≠b→i≠pid→hp' i=hp i:=fun i h h'=>by rw[←hH,Ad6 h',Ad6 h]
 have hk:∀i x,hp i=some x→∃y,hp' i=some y∧Aml (ρ i) x (ρ' i) y:=by
  intro i y hy
  by_cases hi:i=b
  ·subst hi;rw[hb]at hy;cases hy
   exact⟨_,g1,by simp[Aau.ver],fun h=>(by simp[Aau.isMap]at h),fun h=>(by simp[Aau.ver]at h),trivial⟩
  ·by_cases hj:i=pid
   ·subst hj;rw[hpp]at hy;cases hy
    exact⟨_,g2,Nat.le_refl _,fun h=>(by simp[Aau.isMap]at h),fun _=>trivial,pre⟩
   ·exact⟨y,by rw[g3 i hi hj];exact hy,by rw[e3 i hi hj];exact Aml.refl _ _⟩
 have back:∀{i y},hp' i=some y→∃z,hp i=some z:=by
  intro i y hy
  by_cases hi:i=b
  ·subst hi;exact⟨_,hb⟩
  ·by_cases hj:i=pid
   ·subst hj;exact⟨_,hpp⟩
   ·rw[g3 i hi hj]at hy;exact⟨_,hy⟩
 have own:∀{i k},k∈(ρ' i).bs→(i≠b∧k∈(ρ i).bs)∨(i=pid∧k=bb):=by
  intro i k hk
  by_cases hi:i=b
  ·subst hi;rw[e1]at hk;cases hk
  ·by_cases hj:i=pid
   ·subst hj;rw[e2]at hk
    rcases List.mem_append.1 hk with h|h
    ·exact .inl ⟨hi,h⟩
    ·exact .inr ⟨rfl,by simpa using h⟩
   ·rw[e3 i hi hj]at hk;exact .inl ⟨hi,hk⟩
 have prov:∀k,Own hp' ρ' k→Own hp ρ k:=by
  rintro k ⟨i,y,hy,hz,hm⟩
  rcases own hm with ⟨hi,hm'⟩|⟨_,rfl⟩
  ·by_cases hj:i=pid
   ·subst hj;exact⟨_,_,hpp,rfl,hm'⟩
   ·rw[g3 i hi hj]at hy;exact⟨i,y,hy,hz,hm'⟩
  ·exact⟨b,_,hb,rfl,by simp[h1]⟩
 refine⟨ρ',⟨?_,?_,ho.fz,fun k h=>ho.apart k (prov k h)⟩,fun x y=>RV.mono (fun _ _ h=>h) hk,⟨rfl,rfl,rfl,Nat.le_refl _,fun _ _ _=>rfl,fun k h=>.inl (prov k h),fun _ _ h=>h,fun _ h=>.inl h,?_,fun hr i hi y hy=>⟨e3 i (by omega) (by have:=hro hr;omega),fun _ _=>rfl⟩⟩,?_,e3,pre⟩
 ·intro i y hy
  by_cases hi:i=b
  ·subst hi;rw[g1]at hy;cases hy
   exact .inl ⟨by rw[e1],rfl,by rw[e1]⟩
  ·by_cases hj:i=pid
   ·subst hj;rw[g2]at hy;cases hy
    refine⟨by rw[e2];exact List.nodup_append.2 ⟨p1,by simp,fun a ha c hc=>by (simp at hc;subst hc;exact fun e=>hbn (e▸ha))⟩,by rw[e2];simp[p2],fun k z hz=>?_⟩
    by_cases hlt:k<xs.length
    ·rw[List.getElem?_append_left hlt]at hz
     obtain⟨b2,rs2,fr2,v,q1,q2,q3,q4,q5⟩:=p3 k z hz
     exact⟨b2,rs2,fr2,v,pre _ _ q1,q2,q3,q4,q5.mono pre⟩
    ·have hke:k=xs.length:=by have:=(List.getElem?_eq_some_iff.1 hz).1;simp at this;omega
     subst hke
     rw[List.getElem?_append_right (Nat.le_refl _)]at hz
     simp at hz;subst hz
     have hrl:rs.toList.length=t.size+1:=by rw[←h4.length,hl]
     obtain⟨v,hv1,hv2⟩:=h4.get _ _ hn
     have hsp:rs=(rs.toList.take t.size++[v]).toArray:=by
      apply Array.toList_inj.1
      have:=List.take_append_drop t.size rs.toList
      have hd:rs.toList.drop t.size=[v]:=by
       have hdl:t.size<rs.toList.length:=by omega
       rw[List.drop_eq_getElem_cons hdl]
       rw[List.getElem?_eq_getElem hdl]at hv1
       cases hv1
       rw[List.drop_eq_nil_of_le (by omega)]
      rw[hd]at this
      exact this.symm
     refine⟨bb,rs.toList.take t.size,fr,v,by rw[e2];simp[←p2],by rw[←hsp];exact h2,?_,Bb6 hx (h4.take _),hv2⟩
     have:(rs.toList.take t.size).length+1=rs.size:=by rw[List.length_take];simp at hrl ⊢;omega
     rw[this];exact h3
   ·rw[g3 i hi hj]at hy
    exact BR.mono (fun _ _ h=>h) hk (e3 i hi hj) (fun _ _=>rfl) (ho.blocks i y hy)
 ·intro i j y z k hy hz hi hj
  obtain⟨y',hy'⟩:=back hy;obtain⟨z',hz'⟩:=back hz
  rcases own hi with ⟨ni,mi⟩|⟨ei,ki⟩<;>rcases own hj with ⟨nj,mj⟩|⟨ej,kj⟩
  ·exact ho.inj i j _ _ k hy' hz' mi mj
  ·subst kj;exact absurd (ho.inj i b _ _ _ hy' hb mi (by simp[h1])) ni
  ·subst ki;exact absurd (ho.inj j b _ _ _ hz' hb mj (by simp[h1])) nj
  ·rw[ei,ej]
 ·intro i hi y hy
  have hib:i≠b:=by omega
  by_cases hj:i=pid
  ·subst hj;rw[hpp]at hy;cases hy
   exact⟨_,g2,rfl,rfl,pre⟩
  ·exact⟨y,by rw[g3 i hib hj];exact hy,by rw[e3 i hib hj];exact Evo.refl _ _ _⟩
 ·intro rv hr
  obtain⟨b1,hb1,_,ad,rfl,hc⟩:=hr
  rw[hb]at hb1;cases hb1
  obtain⟨_,b2,hb2,rfl⟩:=hc rfl
  rw[h1]at hb2;cases hb2
  exact⟨bb,by rw[e2];simp[←p2],rfl⟩
theorem C00{tt:TT}(htt:Aj1 P tt){hq:Aam}{T:TypeId}{m k:AV}{ok:Bool}{R:Type}{K:AV→Option R}{res:R}(h:Cli tt hq T m k ok K=some res) :
  ∃v,K v=some res∧∀F ρ hp W rm rk,Abx F ρ hp W→(∀id b,hq id=some b→hp id=some b)→RV F ρ hp m rm→RV F ρ hp k rk→∃r,(Instr.lookup T rm rk ok).run P W = .ok r W∧RV F ρ hp v r:=by
 unfold Cli at h
 split at h
 case h_2=>cases h
 rename_i ti hi
 split at h
 case h_2=>cases h
 rename_i Kt E id hd
 split at h
 ·rename_i Tm kt et f hb
  split at h
  case h_2=>cases h
  rename_i kt' hkt
  split at h
  case h_2=>cases h
  rename_i kv z hkv hdec hz
  simp only[Bool.and_eq_true,decide_eq_true_eq]at hdec
  obtain⟨e,hsz⟩:=hdec
  subst e
  have hsz:=Aa8 hsz
  obtain⟨K',E',u,i',hi',hd',hu,hkey⟩:=A4q htt hkt
  rw[hi]at hi';cases hi'
  rw[hd]at hd';cases hd'
  split at h
  case h_1=>cases h
  all_goals
   rename_i hagg
   have zero:∀(F:Fz) (ρ:Rho) (hp:Aam) (W:World),∃zv,(zeroValue E).run P W = .ok zv W∧RC F et z [zv]:=by
    intro F ρ hp W
    unfold B52 at hz
    split at hz
    case h_2=>cases hz
    rename_i ei hei
    split at hz
    case h_2=>cases hz
    rename_i zs hzs
    rw[hei]at hagg
    simp at hagg
    obtain⟨f',hf',_,_,hzz⟩:=(htt E ei hei).info
    obtain⟨zv,h1,h2,h3⟩:=hzz zs hzs
    refine⟨zv,by simp[zeroValue,Aqu hf',h1],?_⟩
    have h4:Abs (Abm F ρ hp) zs zv.cells.toList:=by
     rw[←h2]
     exact Abs.map (Abs.of_get rfl fun i a b ha hb=>by rw[ha]at hb;cases hb;exact Afx F ρ hp _)
    rw[h3 hagg]at h4
    exact Bb6 hz h4
   refine⟨_,h,fun F ρ hp W rm rk hh hs hm hkr=>?_⟩
   obtain⟨b1,bb,hb1,_,hbs,rfl⟩:=hm
   have hb':=hs _ _ hb
   rw[hb']at hb1;cases hb1
   obtain⟨bb',es,clk,h1,h2,h3⟩:=hh.blocks id _ hb'
   rw[h1]at hbs;cases hbs
   have hkrc:=AV.get_ok hkv hkr
   obtain⟨zv,hz1,hz2⟩:=zero F ρ hp W
   rcases Bg4 hkey hkrc 0 h3 with ⟨a,b,_,_⟩|⟨j,e,v0,a,b,c,d,_,_,_⟩
   ·rw[b]
    first
     |exact⟨zv,by simp[Instr.lookup,Aaj hu,Ahu h2,Ai9 hkey,Ahd hkey a,hz1],hz2⟩
     |exact⟨.tuple #[zv,.bool false],by simp[Instr.lookup,Aaj hu,Ahu h2,Ai9 hkey,Ahd hkey a,hz1],_,rfl,hz2,rfl,trivial⟩
   ·rw[c]
    first
     |exact⟨e.val,by simp[Instr.lookup,Aaj hu,Ahu h2,Ai9 hkey,Ahd hkey b],d⟩
     |exact⟨.tuple #[e.val,.bool true],by simp[Instr.lookup,Aaj hu,Ahu h2,Ai9 hkey,Ahd hkey b],_,rfl,d,rfl,trivial⟩
 ·rename_i Tm ki f hb
  split at h
  case h_2=>cases h
  rename_i kt' ei hkt hei
  split at h
  case h_2=>cases h
  rename_i kv z hkv hz hdec
  simp only[Bool.and_eq_true,decide_eq_true_eq,Bool.not_eq_true']at hdec
  obtain⟨e,hagg,hok⟩:=hdec
  subst e
  subst hok
  obtain⟨K',E',u,i',hi',hd',hu,hkey⟩:=A4q htt hkt
  rw[hi]at hi';cases hi'
  rw[hd]at hd';cases hd'
  have hu':u = .int ki:=by
   rcases hkey.is with ⟨h,_⟩|⟨i,h,h'⟩|⟨h,_⟩
   ·cases h
   ·cases h;exact h'
   ·cases h
  subst hu'
  obtain⟨o,hK,hf⟩:=Czu h
  refine⟨.v (.one (match o with|none=>z|some (_,c)=>c)),by cases o<;>exact hK,fun F ρ hp W rm rk hh hs hm hkr=>?_⟩
  obtain⟨b1,bb,hb1,_,hbs,rfl⟩:=hm
  have hb':=hs _ _ hb
  rw[hb']at hb1;cases hb1
  obtain⟨bb',es,clk,h1,h2,h3⟩:=hh.blocks id _ hb'
  rw[h1]at hbs;cases hbs
  have hkrc:=AV.get_ok hkv hkr
  simp only[RC]at hkrc
  cases hkrc
  have:=hf F ρ hp ki es.toList 0 h3
  cases o with
  |none=>
   obtain⟨f',hf',_,_,hzz⟩:=(htt E ei hei).info
   obtain⟨zv,z1,z2,z3⟩:=hzz [z] hz
   have h4:Abs (Abm F ρ hp) [z] zv.cells.toList:=by
    rw[←z2]
    exact Abs.map (Abs.of_get rfl fun i a b ha hb=>by rw[ha]at hb;cases hb;exact Afx F ρ hp _)
   rw[z3 hagg]at h4
   exact⟨zv,by simp[Instr.lookup,Aaj hu,Ahu h2,Ai9 hkey,Ahd hkey this,zeroValue,Aqu hf',z1],h4.1⟩
  |some q=>
   obtain⟨j,c⟩:=q
   obtain⟨e,a,b,d⟩:=this
   exact⟨e.val,by simp[Instr.lookup,Aaj hu,Ahu h2,Ai9 hkey,Ahd hkey b],d⟩
 ·rename_i Tm ki pid f hb
  split at h
  case h_2=>cases h
  rename_i kt' hkt
  split at h
  case h_2=>cases h
  rename_i kv hkv hdec hz
  simp only[decide_eq_true_eq]at hdec
  subst hdec
  obtain⟨K',E',u,i',hi',hd',hu,hkey⟩:=A4q htt hkt
  rw[hi]at hi';cases hi'
  rw[hd]at hd';cases hd'
  have hu':u = .int ki:=by
   rcases hkey.is with ⟨h,_⟩|⟨i,h,h'⟩|⟨h,_⟩
   ·cases h
   ·cases h;exact h'
   ·cases h
  subst hu'
  refine⟨_,h,fun F ρ hp W rm rk hh hs hm hkr=>?_⟩
  obtain⟨b1,bb,hb1,_,hbs,rfl⟩:=hm
  have hb':=hs _ _ hb
  rw[hb']at hb1;cases hb1
  obtain⟨hpool,bb',es,clk,h1,h2,h3⟩:=hh.blocks id _ hb'
  rw[h1]at hbs;cases hbs
  have hkrc:=AV.get_ok hkv hkr
  simp only[RC]at hkrc
  cases hkrc
  rcases B0d (n:=kv) 0 h3 with ⟨a,b,_,_⟩|⟨j,e,v0,a,b,c,d,_,_,_⟩
  ·split at hz
   case h_2=>cases hz
   rename_i ei hei
   split at hz
   case h_2=>cases hz
   rename_i hzz
   obtain⟨f',hf',_,_,hz3⟩:=(htt E ei hei).info
   obtain⟨zv,z1,z2,z3⟩:=hz3 _ hzz
   have h4:Abs (Abm F ρ hp) [.a .nilptr] zv.cells.toList:=by
    rw[←z2]
    exact Abs.map (Abs.of_get rfl fun i a b ha hb=>by rw[ha]at hb;cases hb;exact Afx F ρ hp _)
   have hag:ei.d.agg=false:=by simpa using hz
   rw[z3 hag]at h4
   refine⟨zv,by simp[Instr.lookup,Aaj hu,Ahu h2,Ai9 hkey,Ahd hkey a,zeroValue,Aqu hf',z1],?_⟩
   rw[b]
   exact⟨fun h=>(by cases h),h4.1⟩
  ·rw[c]
   exact⟨e.val,by simp[Instr.lookup,Aaj hu,Ahu h2,Ai9 hkey,Ahd hkey b],fun _=>hpool,d⟩
 ·cases h
theorem Cie{tt:TT}(htt:Aj1 P tt){g:List Bool}{hq:Aam}{T:TypeId}{m k v:AV}{R:Type}{K:KD R}{res:R}(h:Clg tt hq T m k v K=some res) :
  ∃l,K l (.at .undef)=some res∧∀F ρ hp W rm rk rv,Abx F ρ hp W→(∀id b,hq id=some b→hp id=some b)→Af5 g hp l=true→RV F ρ hp m rm→RV F ρ hp k rk→RV F ρ hp v rv→
   ∃W',(Instr.mapUpdate T rm rk rv).run P W = .ok () W'∧Aif g F ρ hp W (Aa3 hp l) (.at .undef) undef W':=by
 unfold Clg at h
 split at h
 case h_2=>cases h
 rename_i id
 split at h
 ·rename_i T' kt et f kt' hb hkt
  split at h
  case h_2=>cases h
  rename_i kv vv hkv hvv hdec
  simp only[decide_eq_true_eq]at hdec
  subst hdec
  obtain⟨K',E',u,i',hi',hd',hu,hkey⟩:=A4q htt hkt
  refine⟨_,h,fun F ρ hp W rm rk rv hh hs hg hm hkr hvr=>?_⟩
  obtain⟨b1,bb,hb1,_,hbs,rfl⟩:=hm
  have hb':=hs _ _ hb
  rw[hb']at hb1;cases hb1
  obtain⟨bb',es,clk,h1,h2,h3⟩:=hh.blocks id _ hb'
  rw[h1]at hbs;cases hbs
  have hkrc:=AV.get_ok hkv hkr
  have hvrc:=AV.get_ok hvv hvr
  have hlt:=(hh.blocks id _ hb').lt (k:=bb) (by simp[h1])
  have fin:∀(es':Array MapEntry) (clk':Nat),Abs (C6z F kt' et) (Bas kv vv f) es'.toList→
    Aif g F ρ hp W (Aa3 hp [(id,.amap T' kt' et (Bas kv vv f))]) (.at .undef) undef {W with heap:=W.heap.setIfInBounds bb (.map es' clk')}:=by
   intro es' clk' hes
   simp only[Aa3]
   have keep:Aml (ρ id) (.amap T' kt' et f) (ρ id) (.amap T' kt' et (Bas kv vv f)):=⟨Nat.le_refl _,fun h=>⟨rfl,rfl⟩,fun _=>rfl,trivial⟩
   have hpt:Ayk g F ρ hp W id (ρ id) (.amap T' kt' et (Bas kv vv f)) {W with heap:=W.heap.setIfInBounds bb (.map es' clk')} :=
    ⟨rfl,rfl,rfl,by simp,fun k hk hn=>by
     have:bb≠k:=fun e=>hn _ hb' (by simp[h1,e])
     simp[Array.getElem?_setIfInBounds_ne this],fun k hk=>.inl ⟨_,hb',hk⟩,fun b0 h0=>by (rw[hb']at h0;cases h0;exact⟨rfl,keep,fun _=>⟨rfl,rfl,rfl,rfl⟩⟩),fun h=>by (rw[hb']at h;cases h),rfl,Alb hg⟩
   refine hpt.good hh ?_ trivial
   rw[Ans]
   exact⟨bb,es',clk',h1,by simp[hlt],hes⟩
  rcases Bg4 hkey hkrc 0 h3 with ⟨a,b,c,_⟩|⟨j,e,v0,a,b,c,d,q,_,w⟩
  ·refine⟨_,?_,fin (es.push {key:=rk,val:=rv,born:=clk}) (clk+1) ?_⟩
   ·simp[Instr.mapUpdate,Aaj hu,Ahu h2,Ai9 hkey,Ahd hkey a,Aqf h2]
   ·rw[c];simp only[Array.toList_push]
    exact h3.append ⟨⟨hkrc,hvrc⟩,trivial⟩
  ·refine⟨_,?_,fin (es.modify j fun e=>{e with key:=rk,val:=rv}) clk ?_⟩
   ·have e1:es[j]? = some e:=by simpa using a
    simp[Instr.mapUpdate,Aaj hu,Ahu h2,Ai9 hkey,Ahd hkey b,Aqf h2,e1,Instr.keyThatStays,w]
   ·rw[q]
    have hj:j<es.size:=by
     rcases Nat.lt_or_ge j es.size with h|h
     ·exact h
     ·rw[List.getElem?_eq_none (by simpa using h)]at a;cases a
    refine Abs.of_get (by have:=h3.length;simp at this ⊢;exact this) fun i x y hx hy=>?_
    by_cases e:i=j
    ·subst e
     have hi:i<f.length:=by have:=h3.length;simp at this;omega
     rw[List.getElem?_set_self hi]at hx;cases hx
     simp only[Array.getElem?_toList,Array.getElem?_modify,if_true]at hy
     rw[Array.getElem?_eq_getElem hj]at hy
     simp at hy;subst hy
     exact⟨hkrc,hvrc⟩
    ·rw[List.getElem?_set_ne (Ne.symm e)]at hx
     simp only[Array.getElem?_toList,Array.getElem?_modify]at hy
     rw[if_neg (Ne.symm e)]at hy
     obtain⟨z,hz1,hz2⟩:=h3.get i x hx
     have:z=y:=by
      have:es[i]? = some z:=by simpa using hz1
      rw[this]at hy;cases hy;rfl
     subst this;exact hz2
 ·rename_i T' ki f kt' hb hkt
  split at h
  case h_2=>cases h
  rename_i kv c hkv hdec
  simp only[decide_eq_true_eq]at hdec
  subst hdec
  obtain⟨K',E',u,i',hi',hd',hu,hkey⟩:=A4q htt hkt
  have hu':u = .int ki:=by
   rcases hkey.is with ⟨h,_⟩|⟨i,h,h'⟩|⟨h,_⟩
   ·cases h
   ·cases h;exact h'
   ·cases h
  subst hu'
  obtain⟨o,hK,hf⟩:=Czv h
  refine⟨_,hK,fun F ρ hp W rm rk rv hh hs hg hm hkr hvr=>?_⟩
  obtain⟨b1,bb,hb1,_,hbs,rfl⟩:=hm
  have hb':=hs _ _ hb
  rw[hb']at hb1;cases hb1
  obtain⟨bb',es,clk,h1,h2,h3⟩:=hh.blocks id _ hb'
  rw[h1]at hbs;cases hbs
  have hkrc:=AV.get_ok hkv hkr
  simp only[RC]at hkrc
  cases hkrc
  have hlt:=(hh.blocks id _ hb').lt (k:=bb) (by simp[h1])
  have hval:Abm F ρ hp c rv:=hvr
  have fin:∀(f':List (Int×Aby)) (es':Array MapEntry) (clk':Nat),Abs (Ca8 F ρ hp ki) f' es'.toList→
    Aif g F ρ hp W (Aa3 hp [(id,.fmap T' ki f')]) (.at .undef) undef {W with heap:=W.heap.setIfInBounds bb (.map es' clk')}:=by
   intro f' es' clk' hes
   simp only[Aa3]
   have keep:Aml (ρ id) (.fmap T' ki f) (ρ id) (.fmap T' ki f'):=⟨Nat.le_refl _,fun h=>⟨rfl,rfl⟩,fun _=>rfl,trivial⟩
   have hpt:Ayk g F ρ hp W id (ρ id) (.fmap T' ki f') {W with heap:=W.heap.setIfInBounds bb (.map es' clk')} :=
    ⟨rfl,rfl,rfl,by simp,fun k hk hn=>by
     have:bb≠k:=fun e=>hn _ hb' (by simp[h1,e])
     simp[Array.getElem?_setIfInBounds_ne this],fun k hk=>.inl ⟨_,hb',hk⟩,fun b0 h0=>by (rw[hb']at h0;cases h0;exact⟨rfl,keep,fun _=>⟨rfl,rfl,rfl⟩⟩),fun h=>by (rw[hb']at h;cases h),rfl,Alb hg⟩
   refine hpt.good hh ?_ trivial
   have hkp:=hpt.keep
   rw[Ans]at hkp ⊢
   exact⟨bb,es',clk',h1,by simp[hlt],hes.mono fun _ _ ⟨p,q⟩=>⟨p,Abm.mono (fun _ _ h=>h) hkp q⟩⟩
  have this:=hf F ρ hp ki es.toList 0 h3
  cases o with
  |none=>
   refine⟨_,?_,fin _ (es.push {key:=.int ki kv,val:=rv,born:=clk}) (clk+1) ?_⟩
   ·simp[Instr.mapUpdate,Aaj hu,Ahu h2,Ai9 hkey,Ahd hkey this,Aqf h2]
   ·simp only[Array.toList_push,List.nil_append]
    exact h3.append ⟨⟨rfl,hval⟩,trivial⟩
  |some j=>
   obtain⟨e,a,b,w⟩:=this
   refine⟨_,?_,fin _ (es.modify j fun e=>{e with key:=.int ki kv,val:=rv}) clk ?_⟩
   ·have e1:es[j]? = some e:=by simpa using a
    have w':Instr.sameBits 10000 e.key (.int ki kv)=true:=by rw[w];simp[Instr.sameBits]
    simp[Instr.mapUpdate,Aaj hu,Ahu h2,Ai9 hkey,Ahd hkey b,Aqf h2,e1,Instr.keyThatStays,w']
   ·have hj:j<es.size:=by
     rcases Nat.lt_or_ge j es.size with h|h
     ·exact h
     ·rw[List.getElem?_eq_none (by simpa using h)]at a;cases a
    simp only[List.nil_append]
    refine Abs.of_get (by have:=h3.length;simp at this ⊢;exact this) fun i x y hx hy=>?_
    by_cases e:i=j
    ·subst e
     have hi:i<f.length:=by have:=h3.length;simp at this;omega
     rw[List.getElem?_set_self hi]at hx;cases hx
     simp only[Array.getElem?_toList,Array.getElem?_modify,if_true]at hy
     rw[Array.getElem?_eq_getElem hj]at hy
     simp at hy;subst hy
     exact⟨rfl,hval⟩
    ·rw[List.getElem?_set_ne (Ne.symm e)]at hx
     simp only[Array.getElem?_toList,Array.getElem?_modify]at hy
     rw[if_neg (Ne.symm e)]at hy
     obtain⟨z,hz1,hz2⟩:=h3.get i x hx
     have:z=y:=by
      have:es[i]? = some z:=by simpa using hz1
      rw[this]at hy;cases hy;rfl
     subst this;exact hz2
 ·rename_i T' ki pid f kt' hb hkt
  split at h
  case h_2=>cases h
  rename_i kv ob hkv hdec
  simp only[decide_eq_true_eq]at hdec
  subst hdec
  obtain⟨K',E',u,i',hi',hd',hu,hkey⟩:=A4q htt hkt
  have hu':u = .int ki:=by
   rcases hkey.is with ⟨h,_⟩|⟨i,h,h'⟩|⟨h,_⟩
   ·cases h
   ·cases h;exact h'
   ·cases h
  subst hu'
  unfold C3y at h
  split at h
  case h_2=>cases h
  rename_i E cs E' t xs hbo hbp
  split at h
  case h_2=>cases h
  rename_i x hc hx hn
  simp only[Bool.and_eq_true,Bool.not_eq_true']at hc
  obtain⟨c1,c2,c3,c4⟩:=hc
  have c1:=Aa8 c1;have c2:=Aa8 c2;have c3:=Nat.le_of_ble_eq_true c3
  subst c1
  refine⟨_,h,fun F ρ hp W rm rk rv hh hs hg hm hkr hvr=>?_⟩
  obtain⟨b1,bb,hb1,_,hbs,rfl⟩:=hm
  have hb':=hs _ _ hb
  have hbo':=hs _ _ hbo
  have hbp':=hs _ _ hbp
  rw[hb']at hb1;cases hb1
  obtain⟨_,bb',es,clk,h1,h2,h3⟩:=hh.blocks id _ hb'
  rw[h1]at hbs;cases hbs
  have hkrc:=AV.get_ok hkv hkr
  simp only[RC]at hkrc
  cases hkrc
  have n1:id≠ob:=fun e=>by rw[e,hbo']at hb';cases hb'
  have n2:id≠pid:=fun e=>by rw[e,hbp']at hb';cases hb'
  obtain⟨ρ1,ho1,m1,x1,hpo,hoth,pre⟩:=Cxy (g:=g) hh hbo' hbp' c2 c3 hx hn (fun hr=>Bt5 hg hr (pid,_) (List.mem_append_left _ (List.mem_cons_of_mem _ (List.mem_cons_self ..))))
  have hpor:=hpo rv hvr
  have hid:Aht (Aht hp ob (.row 0 .bool 1 false [])) pid (.pool E t (xs++[(x,none)])) id=some (.pmap T' ki pid f):=by
   rw[Ad6 n2,Ad6 n1];exact hb'
  have hes:Abs (Cid (ρ1 pid).bs ki) f es.toList:=h3.mono fun _ _ ⟨p,q⟩=>⟨p,q.mono pre⟩
  have fin:∀(es':Array MapEntry) (clk':Nat),Abs (Cid (ρ1 pid).bs ki) (Bg1 kv xs.length f) es'.toList→
    Aif g F ρ hp W (Aa3 hp ([(ob,.row 0 .bool 1 false []),(pid,.pool E t (xs++[(x,none)]))]++[(id,.pmap T' ki pid (Bg1 kv xs.length f))])) (.at .undef) undef {W with heap:=W.heap.setIfInBounds bb (.map es' clk')}:=by
   intro es' clk' he
   obtain⟨F2,ρ2,a,b,c,d⟩:=Ctn (g:=g) (v:=.at .undef) (r:=undef) (clk':=clk') ho1 hid (by rw[hoth id n1 n2];exact h1) he (fun _ _ _=>trivial) (Alb (A93 hg).2)
   exact⟨F2,ρ2,a,fun x y h=>b _ _ (m1 _ _ h),c,x1.trans d⟩
  rcases B0d (n:=kv) 0 hes with ⟨a,b,c,_⟩|⟨j,e,v0,a,b,c,d,q,_,w⟩
  ·refine⟨_,?_,fin (es.push {key:=.int ki kv,val:=rv,born:=clk}) (clk+1) ?_⟩
   ·simp[Instr.mapUpdate,Aaj hu,Ahu h2,Ai9 hkey,Ahd hkey a,Aqf h2]
   ·rw[c];simp only[Array.toList_push]
    exact hes.append ⟨⟨rfl,hpor⟩,trivial⟩
  ·refine⟨_,?_,fin (es.modify j fun e=>{e with key:=.int ki kv,val:=rv}) clk ?_⟩
   ·have e1:es[j]? = some e:=by simpa using a
    have w':Instr.sameBits 10000 e.key (.int ki kv)=true:=by rw[w];simp[Instr.sameBits]
    simp[Instr.mapUpdate,Aaj hu,Ahu h2,Ai9 hkey,Ahd hkey b,Aqf h2,e1,Instr.keyThatStays,w']
   ·rw[q]
    have hj:j<es.size:=by
     rcases Nat.lt_or_ge j es.size with h|h
     ·exact h
     ·rw[List.getElem?_eq_none (by simpa using h)]at a;cases a
    refine Abs.of_get (by have:=hes.length;simp at this ⊢;exact this) fun i x y hx hy=>?_
    by_cases e:i=j
    ·subst e
     have hi:i<f.length:=by have:=hes.length;simp at this;omega
     rw[List.getElem?_set_self hi]at hx;cases hx
     simp only[Array.getElem?_toList,Array.getElem?_modify,if_true]at hy
     rw[Array.getElem?_eq_getElem hj]at hy
     simp at hy;subst hy
     exact⟨rfl,hpor⟩
    ·rw[List.getElem?_set_ne (Ne.symm e)]at hx
     simp only[Array.getElem?_toList,Array.getElem?_modify]at hy
     rw[if_neg (Ne.symm e)]at hy
     obtain⟨z,hz1,hz2⟩:=hes.get i x hx
     have:z=y:=by
      have:es[i]? = some z:=by simpa using hz1
      rw[this]at hy;cases hy;rfl
     subst this;exact hz2
 ·cases h
theorem C01{tt:TT}(htt:Aj1 P tt){g:List Bool}{hq:Aam}{T:TypeId}{m k:AV}{R:Type}{K:KD R}{res:R}(h:Clh tt hq T m k K=some res) :
  ∃l,K l (.tup [])=some res∧∀F ρ hp W rm rk (ats:Array TypeId) ty,ats[0]? = some T→Abx F ρ hp W→(∀id b,hq id=some b→hp id=some b)→Af5 g hp l=true→RV F ρ hp m rm→RV F ρ hp k rk→
   ∃W',(Builtin.delete_ ats ty #[rm,rk]).run P W = .ok (.tuple #[]) W'∧Aif g F ρ hp W (Aa3 hp l) (.tup []) (.tuple #[]) W':=by
 unfold Clh at h
 split at h
 case h_2=>cases h
 rename_i id
 split at h
 ·rename_i T' kt et f kt' hb hkt
  split at h
  case h_2=>cases h
  rename_i kv hkv hdec
  simp only[decide_eq_true_eq]at hdec
  subst hdec
  obtain⟨K',E',u,i',hi',hd',hu,hkey⟩:=A4q htt hkt
  refine⟨_,h,fun F ρ hp W rm rk ats ty hat hh hs hg hm hkr=>?_⟩
  obtain⟨b1,bb,hb1,_,hbs,rfl⟩:=hm
  have hb':=hs _ _ hb
  rw[hb']at hb1;cases hb1
  obtain⟨bb',es,clk,h1,h2,h3⟩:=hh.blocks id _ hb'
  rw[h1]at hbs;cases hbs
  have hkrc:=AV.get_ok hkv hkr
  have hlt:=(hh.blocks id _ hb').lt (k:=bb) (by simp[h1])
  have fin:∀(es':Array MapEntry) (clk':Nat),Abs (C6z F kt' et) (Bpm kv f) es'.toList→
    Aif g F ρ hp W (Aa3 hp [(id,.amap T' kt' et (Bpm kv f))]) (.tup []) (.tuple #[]) {W with heap:=W.heap.setIfInBounds bb (.map es' clk')}:=by
   intro es' clk' hes
   simp only[Aa3]
   have keep:Aml (ρ id) (.amap T' kt' et f) (ρ id) (.amap T' kt' et (Bpm kv f)):=⟨Nat.le_refl _,fun h=>⟨rfl,rfl⟩,fun _=>rfl,trivial⟩
   have hpt:Ayk g F ρ hp W id (ρ id) (.amap T' kt' et (Bpm kv f)) {W with heap:=W.heap.setIfInBounds bb (.map es' clk')} :=
    ⟨rfl,rfl,rfl,by simp,fun k hk hn=>by
     have:bb≠k:=fun e=>hn _ hb' (by simp[h1,e])
     simp[Array.getElem?_setIfInBounds_ne this],fun k hk=>.inl ⟨_,hb',hk⟩,fun b0 h0=>by (rw[hb']at h0;cases h0;exact⟨rfl,keep,fun _=>⟨rfl,rfl,rfl,rfl⟩⟩),fun h=>by (rw[hb']at h;cases h),rfl,Alb hg⟩
   refine hpt.good hh ?_ ⟨_,rfl,trivial⟩
   rw[Ans]
   exact⟨bb,es',clk',h1,by simp[hlt],hes⟩
  rcases Bg4 hkey hkrc 0 h3 with ⟨a,b,c,d⟩|⟨j,e,v0,a,b,c,d,q,r,w⟩
  ·refine⟨_,?_,fin es clk (by rw[d];exact h3)⟩
   simp[Builtin.delete_,hat,Aaj hu,Ahu h2,Ai9 hkey,Ahd hkey a,Aqf h2]
  ·refine⟨_,?_,fin (es.eraseIdxIfInBounds j) clk (by rw[r,Array.toList_eraseIdxIfInBounds];exact h3.erase j)⟩
   simp[Builtin.delete_,hat,Aaj hu,Ahu h2,Ai9 hkey,Ahd hkey b,Aqf h2]
 ·rename_i T' ki pid f kt' hb hkt
  split at h
  case h_2=>cases h
  rename_i kv hkv hdec
  simp only[decide_eq_true_eq]at hdec
  subst hdec
  obtain⟨K',E',u,i',hi',hd',hu,hkey⟩:=A4q htt hkt
  have hu':u = .int ki:=by
   rcases hkey.is with ⟨h,_⟩|⟨i,h,h'⟩|⟨h,_⟩
   ·cases h
   ·cases h;exact h'
   ·cases h
  subst hu'
  refine⟨_,h,fun F ρ hp W rm rk ats ty hat hh hs hg hm hkr=>?_⟩
  obtain⟨b1,bb,hb1,_,hbs,rfl⟩:=hm
  have hb':=hs _ _ hb
  rw[hb']at hb1;cases hb1
  obtain⟨_,bb',es,clk,h1,h2,h3⟩:=hh.blocks id _ hb'
  rw[h1]at hbs;cases hbs
  have hkrc:=AV.get_ok hkv hkr
  simp only[RC]at hkrc
  cases hkrc
  have fin:∀(es':Array MapEntry) (clk':Nat),Abs (Cid (ρ pid).bs ki) (Bk4 kv f) es'.toList→
    Aif g F ρ hp W (Aa3 hp [(id,.pmap T' ki pid (Bk4 kv f))]) (.tup []) (.tuple #[]) {W with heap:=W.heap.setIfInBounds bb (.map es' clk')} :=
   fun es' clk' hes=>Ctn hh hb' h1 hes (fun _ _ _=>⟨_,rfl,trivial⟩) (Alb hg)
  rcases B0d (n:=kv) 0 h3 with ⟨a,b,c,d⟩|⟨j,e,v0,a,b,c,d,q,r,w⟩
  ·refine⟨_,?_,fin es clk (by rw[d];exact h3)⟩
   simp[Builtin.delete_,hat,Aaj hu,Ahu h2,Ai9 hkey,Ahd hkey a,Aqf h2]
  ·refine⟨_,?_,fin (es.eraseIdxIfInBounds j) clk (by rw[r,Array.toList_eraseIdxIfInBounds];exact h3.erase j)⟩
   simp[Builtin.delete_,hat,Aaj hu,Ahu h2,Ai9 hkey,Ahd hkey b,Aqf h2]
 ·cases h
end
end
end Go.AX

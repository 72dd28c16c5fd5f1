/- A reading of the model's code over typed data,proved sound: laws. -/
import Derived.Test.YtjdklngopfpjgaaGreatX5
import Derived.ChangeArms
import Derived.Carry
import Derived.SizedLaws
namespace Go.AX
noncomputable section
def Bg6(rd:TypeId→Option Ty):List (Nat×Nat×TypeId)→Nat→Option Ty
 |[],_=>none
 |[f],o=>match rd f.2.2 with
  |some t=>match Nat.beq f.1 o&&Nat.beq f.2.1 t.size with
   |true=>some t
   |false=>none
  |none=>none
 |f::g::fs,o=>match rd f.2.2,Bg6 rd (g::fs) (o+f.2.1) with
  |some a,some b=>match Nat.beq f.1 o&&Nat.beq f.2.1 a.size with
   |true=>some (.pair a b)
   |false=>none
  | _,_=>none
def Bi9(tt:TT):Nat→TypeId→Option Ty
 |0,_=>none
 |n+1,T=>match tt.get T with
  |some i=>match i.d with
   | .bool=>some .bool
   | .int k=>some (.int k)
   | .str=>some .str
   | .slice e=>match tt.get e,Bi9 tt n e with
    |some ei,some t=>match Nat.beq ei.size t.size&&Nat.blt 0 ei.bytes with
     |true=>some (.list t)
     |false=>none
    | _,_=>none
   | .struct fs=>match Bg6 (Bi9 tt n) fs 0 with
    |some t=>match Nat.beq i.size t.size with
     |true=>some t
     |false=>none
    |none=>none
   | _=>none
  |none=>none
def Wf:(t:Ty)→t.den→Prop
 | .bool,_=>True
 | .int k,n=>(Lit.int k n).wf=true
 | .str,s=>List.length (α:=UInt8) s≤reachBytes
 | .list t,l=>List.length l≤reachBytes∧∀i,i<List.length l→Wf t (List.getD l i t.dflt)
 | .pair a b,v=>Wf a v.1∧Wf b v.2
theorem Ct0(b o i:Nat):(⟨b,o,none⟩:Addr).add i=⟨b,o+i,none⟩:=by
 unfold Addr.add
 split
 ·rename_i h;subst h;rfl
 ·rfl
theorem cells?_seg{w:World}{base:Nat}{a:Addr}{n:Nat}{cs:List Value}(hn:0<n)(h:w.cells? base a n=some cs) :
  ∃c T fr,a=⟨a.block,a.off,none⟩∧w.heap[a.block]? = some (.cells c T fr)∧a.off+n≤c.size∧cs=Afk c a.off n:=by
 unfold World.cells? at h
 split at h
 case isFalse=>cases h
 have hl:cs.length=n:=by simpa using mapM_some_length h
 have hg:∀i,i<n→w.cell? (a.add i)=cs[i]?:=fun i hi=>mapM_some_get h i i (by simp[hi])
 have h0:=hg 0 hn
 have hs:cs[0]? = some (cs[0]'(by omega)):=by simp[hl,hn]
 rw[hs,show a.add 0=a from by simp[Addr.add]]at h0
 unfold World.cell? at h0
 split at h0
 case h_2=>cases h0
 rename_i c T fr hc
 split at h0
 ·cases h0
 rename_i hsp
 obtain⟨ab,ao,asp⟩:=a
 have hsp:asp=none:=by
  cases e:asp with
  |none=>rfl
  |some x=>simp[e]at hsp
 subst hsp
 have at_:∀i,i<n→c[ao+i]? = cs[i]?:=by
  intro i hi
  have:=hg i hi
  rw[Ct0]at this
  unfold World.cell? at this
  simp only at hc
  simp only[hc]at this
  simpa using this
 refine⟨c,T,fr,rfl,hc,?_,?_⟩
 ·have:=at_ (n-1) (by omega)
  rw[show cs[n-1]? = some (cs[n-1]'(by omega)) by simp]at this
  have:=(Array.getElem?_eq_some_iff.1 this).1
  simp only
  omega
 ·apply List.ext_getElem?
  intro i
  unfold Afk
  by_cases hi:i<n
  ·rw[←at_ i hi]
   simp[hi]
  ·rw[List.getElem?_eq_none (by omega),List.getElem?_eq_none (by simp;omega)]
theorem Cee{α:Type}(d:α)(p:Nat→α→Prop):∀n,(∀i,i<n→∃x,p i x)→∃l:List α,l.length=n∧∀i,i<n→p i (l.getD i d)
 |0,_=>⟨[],rfl,fun i h=>by omega⟩
 |n+1,h=>by
  obtain⟨l,h1,h2⟩:=Cee d p n fun i hi=>h i (by omega)
  obtain⟨x,hx⟩:=h n (by omega)
  refine⟨l++[x],by simp[h1],fun i hi=>?_⟩
  by_cases e:i<n
  ·have:=h2 i e
   rw[List.getD_eq_getElem?_getD]at this ⊢
   rw[List.getElem?_append_left (by omega)];exact this
  ·have:i=n:=by omega
   subst this
   rw[List.getD_eq_getElem?_getD,List.getElem?_append_right (by omega)]
   simpa [h1]using hx
section
variable {P:Program} {H:Type} {enc:TypeId×Value→H} {w:World} {base:Nat} {spare:Nat→Bool} {held:Bool}
def B0j(l:List Nat):Prop:=∀n,n∈l→n≤reachBytes
theorem Bxe{e:TypeId}{d:DataW H}{n:Nat}(hn:n∈d.weights P e):∀{l:List (DataW H)},d∈l→n∈DataW.weightsAll P e l
 |[],h=>by simp at h
 |x::r,h=>by
  simp only[DataW.weightsAll,List.mem_append]
  simp only[List.mem_cons]at h
  rcases h with rfl|h
  ·exact .inl hn
  ·exact .inr (Bxe hn h)
def fzW{w:World}(hw:Bvv fun b=>w.heap[b]?):Fz:=⟨_,hw⟩
theorem Bxf(hw:Bvv fun b=>w.heap[b]?){tt:TT}(htt:Aj1 P tt):∀(k:Nat) (T:TypeId) (t:Ty),Bi9 tt k T=some t→∀(fuel:Nat) (cs:List Value) (x:DataW H×List MemPlace),DataW.trod enc P w base spare held fuel T cs=some x→B0j (x.1.weights P T)→
  ∃v:t.den,RC (fzW hw) t v cs∧Wf t v
 |0,T,t,h=>by simp[Bi9]at h
 |k+1,T,t,h=>by
  intro fuel cs x hx hsm
  unfold Bi9 at h
  split at h
  case h_2=>cases h
  rename_i i hi
  obtain⟨u,hu,hm⟩:=(htt T i hi).under
  split at h
  ·rename_i hd
   cases h
   rw[hd]at hm
   have:u = .bool:=by cases u<;>simp[Abz]at hm ⊢
   subst this
   obtain⟨b,rfl,_⟩:=DataW.trod_bool hu hx
   exact⟨b,rfl,trivial⟩
  ·rename_i kk hd
   cases h
   rw[hd]at hm
   have:u = .int kk:=by cases u<;>simp[Abz]at hm ⊢;exact hm
   subst this
   obtain⟨n,rfl,_,hw⟩:=DataW.trod_int hu hx
   exact⟨n,rfl,hw⟩
  ·rename_i hd
   cases h
   rw[hd]at hm
   have:u = .string:=by cases u<;>simp[Abz]at hm ⊢
   subst this
   obtain⟨s,rfl,rfl,hs⟩:=DataW.trod_string hu hx
   refine⟨s.data.toList,?_,?_⟩
   ·simp[RC]
   ·exact hsm _ (by simp[DataW.weights])
  ·rename_i e hd
   rw[hd]at hm
   have:u = .slice e:=by cases u<;>simp[Abz]at hm ⊢;exact hm
   subst this
   split at h
   case h_2=>cases h
   rename_i ei te hei hte
   split at h
   case h_2=>cases h
   rename_i hz
   cases h
   simp only[Bool.and_eq_true]at hz
   have hz1:=Aa8 hz.1
   have hz2:=Nat.blt_eq.mp hz.2
   obtain⟨fi,f1,f2,f3,_⟩:=(htt e ei hei).info
   have hcells:P.cellsOf e=te.size:=by simp[Program.cellsOf,f1,f2,hz1]
   have hbytes:1≤P.bytesOf e:=by simp only[Program.bytesOf,f1,Option.map_some,Option.getD_some,f3];omega
   rcases DataW.trod_slice hu hx with ⟨rfl,rfl⟩|⟨a,len,cap,elems,rest,n,_,rfl,rfl,hb,hl,hc,hlen,hel,_,_⟩
   ·exact⟨([]:List te.den),⟨none,0,rfl,by simp,fun _=>rfl,fun h=>by simp at h⟩,by simp,fun i hi=>by simp at hi⟩
   ·have hsm':∀n,n∈(elems.map (·.1)).flatMap (fun d=>d.weights P e)→n≤reachBytes:=by
     intro m hm'
     apply hsm
     simp only[DataW.weights,hu,List.mem_cons,List.mem_append]
     right;left
     obtain⟨d,hd1,hd2⟩:=List.mem_flatMap.1 hm'
     exact Bxe hd2 hd1
    have hlw:len≤reachBytes:=by
     have:=hsm ((elems.length+rest.length)*P.bytesOf e) (by simp[DataW.weights,hu])
     have h2:elems.length*1≤(elems.length+rest.length)*P.bytesOf e:=Nat.mul_le_mul (by omega) hbytes
     omega
    have hspot:0<len→a=⟨a.block,a.off,none⟩:=by
     intro hp
     have h1:=hel 0 hp
     have hget:elems[0]? = some (elems[0]'(by omega)):=by simp[hlen,hp]
     rw[hget,Option.bind_eq_some_iff]at h1
     obtain⟨cs',h2,_⟩:=h1
     rw[hcells,Nat.zero_mul,show a.add 0=a from by simp[Addr.add]]at h2
     obtain⟨c,T',fr,g1,_⟩:=cells?_seg (Ty.size_pos te) h2
     exact g1
    have each:∀i,i<len→∃v:te.den,∃c T fr,a=⟨a.block,a.off,none⟩∧w.heap[a.block]? = some (.cells c T fr)∧a.off+i*te.size+te.size≤c.size∧RC (fzW hw) te v (Afk c (a.off+i*te.size) te.size)∧Wf te v:=by
     intro i hi
     have h1:=hel i hi
     have hget:elems[i]? = some (elems[i]'(by omega)):=by simp[hlen,hi]
     rw[hget,Option.bind_eq_some_iff]at h1
     obtain⟨cs',h2,h3⟩:=h1
     rw[hcells,hspot (by omega),Ct0]at h2
     obtain⟨c,T',fr,g1,g2,g3,g4⟩:=cells?_seg (Ty.size_pos te) h2
     have hs:B0j ((elems[i]'(by omega)).1.weights P e):=fun m hm'=>hsm' m (List.mem_flatMap.2 ⟨_,List.mem_map.2 ⟨_,List.getElem_mem _,rfl⟩,hm'⟩)
     obtain⟨v,v1,v2⟩:=Bxf hw htt k e te hte n cs' _ h3 hs
     refine⟨v,c,T',fr,hspot (by omega),g2,g3,?_,v2⟩
     rw[g4]at v1;exact v1
    obtain⟨l,l1,l2⟩:=Cee te.dflt (fun i v=>∃c T fr,a=⟨a.block,a.off,none⟩∧w.heap[a.block]? = some (.cells c T fr)∧a.off+i*te.size+te.size≤c.size∧RC (fzW hw) te v (Afk c (a.off+i*te.size) te.size)∧Wf te v) len each
    refine⟨l,⟨some a,cap,by rw[l1],by omega,(fun h=>by cases h),(fun hp=>?_)⟩,by omega,fun i hi=>?_⟩
    ·obtain⟨c,T',fr,e1,e2,e3,_,_⟩:=l2 (len-1) (by omega)
     refine⟨a.block,a.off,c,T',fr,by rw[←e1],e2,?_,fun i hi=>?_⟩
     ·rw[l1]
      have:len*te.size=(len-1)*te.size+te.size:=by rw[←Nat.succ_mul];congr 1;omega
      omega
     ·obtain⟨c',T'',fr',_,e2',_,e4,_⟩:=l2 i (by omega)
      rw[e2]at e2';cases e2'
      exact e4
    ·obtain⟨_,_,_,_,_,_,_,e5⟩:=l2 i (by omega)
     exact e5
  ·rename_i gs hd
   rw[hd]at hm
   have:∃fs,u = .struct fs∧gs=fs.toList.map fun f=>(f.offset,P.cellsOf f.type,f.type):=by cases u<;>simp[Abz]at hm ⊢;exact hm
   obtain⟨fs,rfl,rfl⟩:=this
   split at h
   case h_2=>cases h
   rename_i t' hfs
   split at h
   case h_2=>cases h
   rename_i hz
   cases h
   have hz:=Aa8 hz
   obtain⟨fi,f1,f2,f3,_⟩:=(htt T i hi).info
   have hcells:P.cellsOf T=t.size:=by simp[Program.cellsOf,f1,f2,hz]
   obtain⟨xs,n,_,rfl,hlen,hxl,hget⟩:=DataW.trod_struct hu hx
   have hsm':∀(j:Nat) f,fs.toList[j]? = some f→∃y,DataW.trod enc P w base spare held n f.type ((cs.drop f.offset).take (P.cellsOf f.type))=some y∧B0j (y.1.weights P f.type):=by
    intro j f hf
    have hj:j<xs.length:=by
     have:=(List.getElem?_eq_some_iff.1 hf).1
     simp at this;omega
    refine⟨xs[j],by rw[hget j f (by simpa using hf)];simp[hj],fun m hm'=>hsm m ?_⟩
    simp only[DataW.weights,hu]
    exact DataW.weights_mem_each (j:=j) (t:=f.type) (d:=xs[j].1) (by simp at hf ⊢;simp[hf]) (by simp[hj]) m hm'
   have fields:∀(l:List Field) (o:Nat) (t:Ty),Bg6 (Bi9 tt k) (l.map fun f=>(f.offset,P.cellsOf f.type,f.type)) o=some t→
     (∀f,f∈l→∃y,DataW.trod enc P w base spare held n f.type ((cs.drop f.offset).take (P.cellsOf f.type))=some y∧B0j (y.1.weights P f.type))→
     ∃v:t.den,RC (fzW hw) t v ((cs.drop o).take t.size)∧Wf t v:=by
    intro l
    induction l with
    |nil=>intro o t h;simp[Bg6]at h
    |cons f l ih=>
     intro o t h hy
     cases l with
     |nil=>
      simp only[List.map_cons,List.map_nil,Bg6]at h
      split at h
      case h_2=>cases h
      rename_i tf htf
      split at h
      case h_2=>cases h
      rename_i hc
      cases h
      simp only[Bool.and_eq_true]at hc
      have h1:=Aa8 hc.1;have h2:=Aa8 hc.2
      obtain⟨y,y1,y2⟩:=hy f (by simp)
      obtain⟨v,v1,v2⟩:=Bxf hw htt k f.type t htf n _ y y1 y2
      exact⟨v,by rw[h1,h2]at v1;exact v1,v2⟩
     |cons f2 l=>
      simp only[List.map_cons,Bg6]at h
      split at h
      case h_2=>cases h
      rename_i ta tb hta htb
      split at h
      case h_2=>cases h
      rename_i hc
      cases h
      simp only[Bool.and_eq_true]at hc
      have h1:=Aa8 hc.1;have h2:=Aa8 hc.2
      obtain⟨y,y1,y2⟩:=hy f (by simp)
      obtain⟨v,v1,v2⟩:=Bxf hw htt k f.type ta hta n _ y y1 y2
      obtain⟨v',v1',v2'⟩:=ih (o+P.cellsOf f.type) tb (by simpa using htb) (fun g hg=>hy g (by simp at hg ⊢;exact .inr hg))
      refine⟨(v,v'),⟨_,_,?_,v1,v1'⟩,v2,v2'⟩
      rw[h1,h2]
      simp only[Ty.size]
      rw[List.take_add,List.drop_drop]
   obtain⟨v,v1,v2⟩:=fields fs.toList 0 t hfs fun f hf=>by
    obtain⟨j,hj⟩:=List.getElem?_of_mem hf
    exact hsm' j f hj
   refine⟨v,?_,v2⟩
   rw[List.drop_zero,List.take_of_length_le (by omega)]at v1
   exact v1
  ·cases h
end
end
end Go.AX
namespace Go.AX
noncomputable section
open Go.RowKit
def Ct1:Rho:=fun _=>⟨[],0⟩
theorem B0k(id:Nat):Af4 [] [] id=none:=by
 simp only[Af4]
 split<;>simp
theorem C95{W:World}(hw:Bvv fun b=>W.heap[b]?):Abx (fzW hw) Ct1 (Af4 [] []) W:=by
 refine⟨fun id b h=>?_,fun i j x y b h=>?_,fun b o h=>h,fun b h=>?_⟩
 ·rw[B0k]at h;cases h
 ·rw[B0k]at h;cases h
 ·obtain⟨id,blk,h,_⟩:=h
  rw[B0k]at h;cases h
theorem C4f{P:Program}{f:FuncId}{s:Aad}(hS:Azb P f s){args:List AV}{W:World}(hw:Bvv fun b=>W.heap[b]?){rargs:Array Value}(hargs:Abs (RV (fzW hw) Ct1 (Af4 [] [])) args rargs.toList)(hrun:s.run AV args [] (fun v _ _=>some v)=some (vb true)) :
  Calls P f rargs W fun e W'=>e = .returned (.bool true)∧Below W.heap.size W W':=by
 obtain⟨v,bl',nw,hK,hc⟩:=hS AV args [] _ _ hrun
 cases hK
 refine (hc _ Ct1 W rargs hargs (C95 hw)).mono fun e W' ⟨r,F',ρ',he,hv,_,hext⟩=>?_
 have hr:r = .bool true:=by
  have:[r]=[Value.bool true]:=hv
  simpa using this
 subst hr
 refine⟨he,hext.os,hext.tape,hext.output,hext.size,fun k hk=>hext.frame k hk fun ho=>?_⟩
 obtain⟨id,blk,h,_⟩:=ho
 rw[B0k]at h;cases h
def Bua(agg:Bool)(t:Ty)(x:t.den):AV:=match agg with
 |true=>.v (.agg (cellsOf t x))
 |false=>.at (.val t x)
theorem C65{F:Fz}{ρ:Rho}{hp:Aam}{t:Ty}{x:t.den}{v:Value}(h:RC F t x [v]):RV F ρ hp (Bua false t x) v:=h
theorem C4g{F:Fz}{ρ:Rho}{hp:Aam}{t:Ty}{x:t.den}{cs:Array Value}(h:RC F t x cs.toList):RV F ρ hp (Bua true t x) (.agg cs):=⟨cs,rfl,Awn h⟩
theorem Ct2{P:Program}{H:Type}{ts:List TypeId}{ds:List (DataW H)}(h:(DataW.weightsEach P ts ds).all (·≤reachBytes)=true){j:Nat}{t:TypeId}{d:DataW H}(ht:ts[j]? = some t)(hd:ds[j]? = some d):B0j (d.weights P t):=by
 intro n hn
 have:=List.all_eq_true.1 h n (DataW.weights_mem_each ht hd n hn)
 simpa using this
theorem C66{P:Program}{H:Type}{enc:TypeId×Value→H}{W:World}{base:Nat}{spare:Nat→Bool}{held:Bool}(hw:Bvv fun b=>W.heap[b]?){tt:TT}(htt:Aj1 P tt){k:Nat}{T:TypeId}{t:Ty}(ht:Bi9 tt k T=some t){v:Value}{d:DataW H}{ps:List MemPlace}(h:DataW.Trod enc P W base spare held T v d ps)(hs:B0j (d.weights P T))(hc:v.cells = #[v]):∃x:t.den,RV (fzW hw) Ct1 (Af4 [] []) (Bua false t x) v∧Wf t x:=by
 obtain⟨fuel,hf⟩:=h
 rw[hc]at hf
 obtain⟨x,h1,h2⟩:=Bxf hw htt k T t ht fuel _ _ hf hs
 exact⟨x,C65 h1,h2⟩
theorem C67{P:Program}{H:Type}{enc:TypeId×Value→H}{W:World}{base:Nat}{spare:Nat→Bool}{held:Bool}(hw:Bvv fun b=>W.heap[b]?){tt:TT}(htt:Aj1 P tt){k:Nat}{T:TypeId}{t:Ty}(ht:Bi9 tt k T=some t){v:Value}{d:DataW H}{ps:List MemPlace}(h:DataW.Trod enc P W base spare held T v d ps)(hs:B0j (d.weights P T))(hc:∃cs,v = .agg cs):∃x:t.den,RV (fzW hw) Ct1 (Af4 [] []) (Bua true t x) v∧Wf t x:=by
 obtain⟨cs,rfl⟩:=hc
 obtain⟨fuel,hf⟩:=h
 obtain⟨x,h1,h2⟩:=Bxf hw htt k T t ht fuel _ _ hf hs
 exact⟨x,C4g h1,h2⟩
end
end Go.AX
namespace Go.AX
noncomputable section
def Ct3(P:Program):TypeDesc→TD
 | .bool=>.bool
 | .int k=>.int k
 | .string=>.str
 | .pointer e=>.ptr e
 | .slice e=>.slice e
 | .array n e=>.arr n e
 | .map k e=>.map k e
 | .struct fs=>.struct (fs.toList.map fun f=>(f.offset,P.cellsOf f.type,f.type))
 | .func _ _ _=>.func
 | .interface _=>.iface
 | _=>.other
theorem C96(P:Program)(u:TypeDesc):Abz P u (Ct3 P u):=by cases u<;>simp[Ct3,Abz]
def Ct4(agg:Bool):Option Value→Option (List Aby)
 |none=>none
 |some v=>match agg,v with
  |true,.agg cs=>some (cs.toList.map A0a)
  |true,_=>none
  |false,.agg _=>none
  |false,v=>some [A0a v]
def Dce(P:Program)(T:TypeId):TypeDesc→Bool
 | .struct fs => !P.stoodInHeld T && !P.eqGuardType P.depth T&&fs.toList.all fun f=>f.name != "_"
 | _=>false
def C68(P:Program)(T:TypeId):Option TI:=match P.underlying T,P.info? T with
 |some u,some f=>match (match u with | .struct fs=>fs.toList.all fun f=>(P.info? f.type).isSome | _=>true) with
  |true=>some ⟨Ct3 P u,f.size,f.bytes,Ct4 (Ct3 P u).agg f.zero,Dce P T u,none⟩
  |false=>none
 | _,_=>none
theorem C97{P:Program}{T:TypeId}{i:TI}(h:C68 P T=some i):Dcb P T i:=by
 unfold C68 at h
 split at h
 case h_2=>cases h
 rename_i u f hu hf
 split at h
 case h_2=>cases h
 rename_i hfs
 cases h
 refine⟨⟨u,hu,C96 P u⟩,⟨f,hf,rfl,rfl,fun zs hz=>?_⟩,fun fs hs g hg=>?_,fun _ _ _ hb=>(by cases hb),fun he=>?_⟩
 ·cases hz':f.zero with
  |none=>rw[hz']at hz;cases hz
  |some z=>
   simp only at hz
   rw[hz']at hz
   refine⟨z,rfl,?_⟩
   cases hag:(Ct3 P u).agg with
   |true=>
    rw[hag]at hz
    cases z<;>simp only[Ct4]at hz<;>first|(cases hz;done)|skip
    cases hz
    exact⟨rfl,fun h=>by cases h⟩
   |false=>
    rw[hag]at hz
    cases z<;>simp only[Ct4]at hz<;>first|(cases hz;done)|(cases hz;exact⟨rfl,fun _=>rfl⟩)
 ·rw[hu]at hs;cases hs
  have:=List.all_eq_true.1 hfs g hg
  exact Option.isSome_iff_exists.1 this
 ·cases u<;>simp only[Dce]at he<;>first|(cases he;done)|skip
  simp only[Bool.and_eq_true,Bool.not_eq_true',List.all_eq_true]at he
  refine⟨he.1.1,he.1.2,fun fs hs g hg=>?_⟩
  rw[hu]at hs;cases hs
  have:=he.2 g hg
  simpa using this
def C69(P:Program):List TypeId→Option TT
 |[]=>some []
 |T::r=>match C68 P T,C69 P r with
  |some i,some l=>some ((T,i)::l)
  | _,_=>none
theorem Cz4{P:Program}:∀{l:List TypeId} {tt:TT},C69 P l=some tt→Aj1 P tt
 |[],tt,h=>by cases h;intro T i hi;cases hi
 |S::r,tt,h=>by
  simp only[C69]at h
  split at h
  ·rename_i i l h1 h2
   cases h
   intro T j hj
   simp only[TT.get]at hj
   split at hj
   ·rename_i e;cases hj;have e:=Aa8 e;subst e;exact C97 h1
   ·exact Cz4 h2 T j hj
  ·cases h
end
end Go.AX
namespace Go.AX
noncomputable section
def sub:Code→List Nat→Code
 |c,[]=>c
 | .seq a b,i::r=>match i with|0=>sub a r | _=>sub b r
 | .cond _ a b,i::r=>match i with|0=>sub a r | _=>sub b r
 | .block _ a,_::r=>sub a r
 | .loop a,_::r=>sub a r
 | .scope a,_::r=>sub a r
 |c,_=>c
def lam:List (Nat×Aa6)→Nat→Option Aa6
 |[],_=>none
 |(k,F)::r,i=>match Nat.beq i k with|true=>some F|false=>lam r i
def Aan(ks:List Nat)(k:Nat):Bool:=Aos k ks
theorem Aah:∀{L:List (Nat×Aa6)} {ks:List Nat},L.map (·.1)=ks→∀k,(lam L k).isSome=Aan ks k
 |[],_,h,k=>by subst h;rfl
 |(i,F)::r,_,h,k=>by
  subst h
  simp only[lam,Aan,List.map_cons,Aos]
  cases Nat.beq k i with
  |true=>rfl
  |false=>exact Aah rfl k
def gam:List (Nat×Aad)→FuncId→Option Aad
 |[],_=>none
 |(k,s)::r,i=>match Nat.beq i k with|true=>some s|false=>gam r i
def Aar(P:Program)(f:FuncId)(s:Aad):Prop:=Azb P f s∧∃fn,P.funcs[f]? = some fn∧fn.body.isSome∧fn.name≠ "runtime.NumGoroutine"
def Aay(P:Program):List (Nat×Aad)→Prop
 |[]=>True
 |(k,s)::r=>Aar P k s∧Aay P r
theorem Aak{P:Program}:∀{l:List (Nat×Aad)},Aay P l→C8z P (gam l)
 |[],_,f,s,h=>by cases h
 |(k,t)::r,hl,f,s,h=>by
  simp only[gam]at h
  split at h
  ·rename_i e;cases h;have e:=Aa8 e;subst e;exact hl.1
  ·exact Aak hl.2 f s h
def C4h(P:Program)(n:Nat)(g:List Bool)(L:List (Nat×Aa6)):List (Nat×Code)→Prop
 |[]=>True
 |(k,c)::r=>(∃F,lam L k=some F∧Ab1 P n g c F)∧C4h P n g L r
theorem Aai{P:Program}{n:Nat}{g:List Bool}{L:List (Nat×Aa6)}{dom:Nat→Bool}{c:Code}{l:List (Nat×Code)}(e:Ajk dom c=l)(h:C4h P n g L l) :
  ∀p,p∈Ajk dom c→∀F,lam L p.1=some F→Ab1 P n g p.2 F:=by
 rw[e]
 clear e
 induction l with
 |nil=>intro p hp;simp at hp
 |cons q r ih=>
  obtain⟨k,c⟩:=q
  intro p hp F hF
  simp only[List.mem_cons]at hp
  rcases hp with rfl|hp
  ·obtain⟨G,h1,h2⟩:=h.1
   rw[hF]at h1;cases h1;exact h2
  ·exact ih h.2 p hp F hF
end
end Go.AX
namespace Go.AX
noncomputable section
def Ak1{R:Type}(K:Ex→ASt→Option R):Afc→Ex→ASt→Option R
 | .nil,_,_=>none
 | .cons e p r,e',st=>match Deg e e' with
  |true=>match dec p st with
   |some y=>K e' (Aaf p y)
   |none=>Ak1 K r e' st
  |false=>Ak1 K r e' st
theorem Bxg{R:Type}{K:Ex→ASt→Option R}:∀{outs:Afc} {e:Ex} {st:ASt} {r:R},Ak1 K outs e st=some r→∃p y,dec p st=some y∧K e (Aaf p y)=some r
 | .nil,_,_,_,h=>by cases h
 | .cons e p o,e',st,r,h=>by
  simp only[Ak1]at h
  split at h
  ·split at h
   ·rename_i y hy;exact⟨p,y,hy,h⟩
   ·exact Bxg h
  ·exact Bxg h
def Cz5(F G:Aa6)(fits:ASt→Bool):Aa6:=fun R st K=>match fits st with
 |true=>F R st K
 |false=>G R st K
section
variable {P:Program} {tt:TT} {Γ:FuncId→Option Aad} {g:List Bool} {n:Nat} {Λ:Nat→Option Aa6} {dom:Nat→Bool}
theorem Agn(hm:P.follows .mixedOrders=true)(htt:Aj1 P tt)(hΓ:A0m P tt Γ)(hdom:∀k,(Λ k).isSome=dom k){c:Code}(hd:Awr dom n c=true)(hc:∀p,p∈Ajk dom c→∀F,Λ p.1=some F→Ab1 P n g p.2 F){p:Aac}{G:Aa7 p}(outs:Afc)(h:∀(R:Type) x K,Aal tt Γ g Λ c (Aaf p x) (Ak1 (R:=R) K outs)=G R x K):Ab1 P n g c (Aab p G):=by
 refine C4e fun R x K r hG=>?_
 rw[←h]at hG
 obtain⟨e,st1,h1,h2⟩:=Cfo hm htt hΓ hdom c hd hc R _ _ r hG
 obtain⟨q,y,h3,h4⟩:=Bxg h1
 exact⟨e,Aaf q y,h4,h2.out h3⟩
end
@[reducible] def Aaw(R:Type):List Aac→Type
 |[]=>Unit
 |q::r=>(q.den→Option R)×Aaw R r
def B0l{R:Type}:(qs:List Aac)→Aaw R qs→ASt→Option R
 |[],_,_=>none
 |q::r,C,st=>match dec q st with
  |some y=>C.1 y
  |none=>B0l r C.2 st
def Aba{R:Type}(tt:TT)(rs:List ResultVar)(qs:List Aac)(C:Aaw R qs):Ex→ASt→Option R
 | .exit _,_=>none
 | _,st=>match A4o tt st rs with
  |some vs=>B0l qs C (Csn st vs)
  |none=>none
def B0m{R:Type}(K:AV→List Aau→List Aau→Option R)(nb:Nat):(qs:List Aac)→Aaw R qs
 |[]=>()
 |q::r=>(fun y=>K (Csj (Bk8 q.env y.1)) ((A4u q.hp y.2).take nb) ((A4u q.hp y.2).drop nb),B0m K nb r)
theorem Bv0{R:Type}{K:AV→List Aau→List Aau→Option R}{nb:Nat}:∀{qs:List Aac} {st:ASt} {r:R},B0l qs (B0m K nb qs) st=some r→
  ∃q,q∈qs∧∃y:q.den,dec q st=some y∧K (Csj (Bk8 q.env y.1)) ((A4u q.hp y.2).take nb) ((A4u q.hp y.2).drop nb)=some r
 |[],_,_,h=>by cases h
 |q::qs,st,r,h=>by
  simp only[B0l,B0m]at h
  split at h
  ·rename_i y hy;exact⟨q,by simp,y,hy,h⟩
  ·obtain⟨q',h1,h2⟩:=Bv0 h
   exact⟨q',by simp[h1],h2⟩
abbrev Aas(p:Aac)(qs:List Aac):=(R:Type)→p.den→Aaw R qs→Option R
def Aaz(pure grow:List Bool)(mat:Bool)(nargs nb:Nat)(p0:Aac)(qs:List Aac)(G:Aas p0 qs):Aad where
 pure:=pure
 grow:=grow
 mat:=mat
 run R args bl K:=match Nat.beq args.length nargs,dec p0 (Ca5 args bl) with
  |true,some x=>G R x (B0m K nb qs)
  | _,_=>none
def qOk(nb nr:Nat)(q:Aac):Bool :=
 decide (q.hp.map (·.1)=List.range nb++(List.range (q.hp.length-nb)).map (32 + ·))&&decide (q.env.map (·.1)=List.range nr)
theorem Aao{P:Program}(hm:P.follows .mixedOrders=true){tt:TT}(htt:Aj1 P tt){Γ:FuncId→Option Aad}(hΓ:A0m P tt Γ){g:List Bool}{Λ:Nat→Option Aa6}{dom:Nat→Bool}(hdom:∀k,(Λ k).isSome=dom k){f:FuncId}{fn:Func}{c:Code}(hf:P.funcs[f]? = some fn)(hb:fn.body=some c){rs:List ResultVar}(hrs:fn.results.toList=rs)(hd:Awr dom fn.ntmps c=true)(hc:∀p,p∈Ajk dom c→∀F,Λ p.1=some F→Ab1 P fn.ntmps g p.2 F){pure:List Bool}{mat:Bool}{nargs nb:Nat}{p0:Aac}{qs:List Aac}{G:Aas p0 qs}(hn:nargs≤fn.ntmps)(hnb:nb≤32)(hq:(qs.all (qOk nb rs.length))=true)(h:∀(R:Type) x C,Aal tt Γ g Λ c (Aaf p0 x) (Aba (R:=R) tt rs qs C)=G R x C):Azb P f (Aaz pure g mat nargs nb p0 qs G):=by
 intro R args bl K r hrun
 simp only[Aaz]at hrun
 split at hrun
 case h_2=>cases hrun
 rename_i x hna hx
 have hna:=Aa8 hna
 rw[←h]at hrun
 obtain⟨e,st1,h1,h2⟩:=Cfo hm htt hΓ hdom c hd hc R _ _ r hrun
 have hret:∃vs pr,pr∈qs∧∃y:pr.den,A4o tt st1 rs=some vs∧dec pr (Csn st1 vs)=some y∧K (Csj (Bk8 pr.env y.1)) ((A4u pr.hp y.2).take nb) ((A4u pr.hp y.2).drop nb)=some r∧(e = .normal∨e = .ret):=by
  cases e with
  |exit id=>cases h1
  |normal=>
   simp only[Aba]at h1
   split at h1
   ·rename_i vs hvs
    obtain⟨q,hq1,y,hy,hK⟩:=Bv0 h1
    exact⟨vs,q,hq1,y,hvs,hy,hK,.inl rfl⟩
   ·cases h1
  |ret=>
   simp only[Aba]at h1
   split at h1
   ·rename_i vs hvs
    obtain⟨q,hq1,y,hy,hK⟩:=Bv0 h1
    exact⟨vs,q,hq1,y,hvs,hy,hK,.inr rfl⟩
   ·cases h1
 obtain⟨vs,pr,hpr,y,hvs,hy,hK,he⟩:=hret
 have hqp:=List.all_eq_true.1 hq pr hpr
 simp only[qOk,Bool.and_eq_true,decide_eq_true_eq]at hqp
 obtain⟨hhp,henv⟩:=hqp
 refine⟨_,_,_,hK,fun F ρ W rargs hargs hh=>?_⟩
 have hlen:rargs.size=nargs:=by have:=hargs.length;simp at this;omega
 have hs0:Ax5 fn.ntmps F ρ (Ca5 args bl) {tmps:=rargs++Array.replicate (fn.ntmps-rargs.size) undef,defers:=[]} W:=by
  refine⟨by simp;omega,fun s=>?_,hh⟩
  simp only[Ca5,Csi]
  cases ha:args[s]? with
  |none=>exact RV.undef
  |some v=>
   obtain⟨b,hb1,hb2⟩:=hargs.get s v ha
   have hlt:s<rargs.size:=by
    rcases Nat.lt_or_ge s rargs.size with h|h
    ·exact h
    ·rw[List.getElem?_eq_none (by simpa using h)]at hb1;cases hb1
   have:(rargs++Array.replicate (fn.ntmps-rargs.size) undef).getD s undef=b:=by
    rw[Array.getD_eq_getD_getElem?,Array.getElem?_append_left hlt]
    have:rargs[s]? = some b:=by simpa using hb1
    rw[this];rfl
   rw[this];exact hb2
 refine calls_of_wp hf hb (wp_mono (h2 F ρ (Af4 bl []) _ W _ W (Bxd hx hs0)) ?_)
 rintro xx a' W' ⟨rfl,hl⟩
 obtain⟨hdef,F1,ρ1,hs1,he1⟩:=hl
 subst hrs
 obtain⟨rvs,hres,hrv⟩:=Cx0 htt hs1 hvs
 have hlv:vs.length=fn.results.toList.length:=by
  have:∀(l:List ResultVar) (vs:List AV),A4o tt st1 l=some vs→vs.length=l.length:=by
   intro l
   induction l with
   |nil=>intro vs h;cases h;rfl
   |cons x l ih=>
    intro vs h
    cases x with
    |tmp t=>
     simp only[A4o]at h
     split at h
     ·rename_i hl;cases h;simp[ih _ hl]
     ·cases h
    |cell t T=>
     simp only[A4o]at h
     split at h
     ·rename_i hl;cases h;simp[ih _ hl]
     ·cases h
  exact this _ _ hvs
 have hs2:Ax5 rvs.length F1 ρ1 (Csn st1 vs) {tmps:=rvs.toArray,defers:=[]} W':=by
  refine⟨by simp,fun s=>?_,hs1.heap⟩
  simp only[Csn,Csi]
  cases hv:vs[s]? with
  |none=>exact RV.undef
  |some v=>
   obtain⟨b,hb1,hb2⟩:=hrv.get s v hv
   have:(rvs.toArray).getD s undef=b:=by rw[Array.getD_eq_getD_getElem?];simp[hb1]
   rw[this];exact hb2
 obtain⟨_,F2,ρ2,hs3,he3⟩:=Bxd (g:=g) hy hs2
 have hheap:(Aaf pr y).hp=Af4 ((A4u pr.hp y.2).take nb) ((A4u pr.hp y.2).drop nb):=C63 hhp hnb y.2
 have hfin:C3z.fin P F ρ W bl g (Csj (Bk8 pr.env y.1)) ((A4u pr.hp y.2).take nb) ((A4u pr.hp y.2).drop nb) (C64 rvs) W':=by
  refine⟨F2,ρ2,?_,by rw[←hheap];exact hs3.heap,by rw[←hheap];exact he1.trans he3⟩
  rw[←hheap]
  obtain⟨g1,g2⟩:=Cty (y:=y.1) (k:=0) (m:=fn.results.size) (by simpa using henv)
  have gets:∀i,i<fn.results.size→∃v,(Bk8 pr.env y.1)[i]? = some v∧RV1 F2 ρ2 (Aaf pr y).hp v (rvs.getD i undef):=by
   intro i hi
   obtain⟨v,v1,v2⟩:=g1 i hi
   refine⟨v,v1,?_⟩
   have:=hs3.env i
   rw[Nat.zero_add]at v2
   have e:(Aaf pr y).env i = .v v:=v2
   rw[e]at this
   have e2:(rvs.toArray).getD i undef=rvs.getD i undef:=by simp[List.getD_eq_getElem?_getD,Array.getD_eq_getD_getElem?]
   rw[←e2];exact this
  have hl2:rvs.length=(Bk8 pr.env y.1).length:=by
   have q1:=hrv.length
   have q2:=g2
   have q3:=hlv
   simp only[Array.length_toList]at q2 q3
   omega
  revert gets
  rw[←g2]
  revert hl2
  generalize Bk8 pr.env y.1=vs
  generalize rvs=rs
  intro hl2 gets
  have all:Abs (RV1 F2 ρ2 (Aaf pr y).hp) vs rs:=by
   refine Abs.of_get hl2.symm fun i v b hv hb=>?_
   have hi:i<vs.length:=by
    rcases Nat.lt_or_ge i vs.length with h|h
    ·exact h
    ·rw[List.getElem?_eq_none h]at hv;cases hv
   obtain⟨v',v1,v2⟩:=gets i hi
   rw[hv]at v1;cases v1
   rw[List.getD_eq_getElem?_getD,hb]at v2
   exact v2
  match vs,rs,all with
  |[v],[r],a=>exact a.1
  |[],[],_=>exact⟨#[],rfl,trivial⟩
  | _::_::_,_::_::_,a=>exact⟨_,rfl,by simpa using a⟩
  |[_],_::_::_,a=>exact a.2.elim
  | _::_::_,[_],a=>exact a.2.elim
  |[],_::_,a=>exact a.elim
  | _::_,[],a=>exact a.elim
 rcases he with rfl|rfl
 ·exact⟨hdef,_,hres,⟨_,hfin.choose,hfin.choose_spec.choose,rfl,hfin.choose_spec.choose_spec⟩⟩
 ·exact⟨hdef,_,hres,⟨_,hfin.choose,hfin.choose_spec.choose,rfl,hfin.choose_spec.choose_spec⟩⟩
def Bph(nargs:Nat)(p:Aac)(s t:Aad):Aad where
 pure:=t.pure
 grow:=t.grow
 mat:=t.mat
 run R args bl K:=match Nat.beq args.length nargs,dec p (Ca5 args bl) with
  |true,some _=>s.run R args bl K
  | _,_=>t.run R args bl K
theorem C08{P:Program}{f:FuncId}{nargs:Nat}{p:Aac}{s t:Aad}(hg:s.grow=t.grow)(hs:Azb P f s)(ht:Azb P f t):Azb P f (Bph nargs p s t):=by
 intro R args bl K r h
 simp only[Bph]at h
 split at h
 ·have:=hs R args bl K r h
  rw[hg]at this
  exact this
 ·exact ht R args bl K r h
theorem C09{P:Program}{f:FuncId}{nargs:Nat}{p:Aac}{s t:Aad}(hg:s.grow=t.grow)(hs:Aar P f s)(ht:Aar P f t):Aar P f (Bph nargs p s t) :=
 ⟨C08 hg hs.1 ht.1,hs.2⟩
end
end Go.AX

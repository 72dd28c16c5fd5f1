/- Part Q2 of the proof. -/
import Derived.Test.YtamaoomcbegaiaaGreatQ1
open Go Go.AX Go.Proofs
namespace Q
theorem Cmq{R:Type}(N:Nat)(l:OpL)(hl:l.length≤1099511627776)(hN:l.length<N)(h24:(Aak l 0).1=24)(d:List Int)(at_:Ad5)(nm:Adz)(hat:∀n,A1q n at_=if An5 n 0 l = -1 then 0 else An5 n 0 l)(n:Int)(K:Int→OpL→List Int→Ad5→Adz→Option R) :
  Ach N n l d at_ nm K=K (nxt l n) l d at_ nm:=by
 simp only[Ach,Bet]
 rw[show Option.getD (Ash (kt:=(.int .i64)) (et:=(.int .i64)) n at_) (0:Int)=A1q n at_ from rfl,hat]
 unfold nxt
 rcases Bxn n l 0 with e|⟨i,e,hi,h19,_⟩
 ·rw[e,if_pos rfl,if_pos (by decide)]
  have:=C4p N l hl d at_ nm (fun c u v w y=>Aap N c u v w y (fun z f g m o=>if ((z==(18:Int))=true) then (let a:=(wi (c+(1:Int)));Aap N a f g m o (fun A b p s t=>if ((A==(20:Int))=true) then (if (((0:Int)≤a)∧(a<(len b))) then (K ((List.getD b (Int.toNat a) ((0:Int),((0:Int),(0:Int)))).2.1) b p s t) else none) else (K 0 b p s t))) else (K 0 f g m o))) l.length N 0 (by omega) (by omega)
  rw[Bai (by omega)]at this
  refine this.trans ?_
  rw[Az7,h24];rfl
 ·rw[e,Nat.zero_add,if_neg (by omega),if_neg (by omega),Int.toNat_natCast]
  rw[C4p N l hl d at_ nm _ (l.length-i) N i (by omega) (by omega)]
  generalize hj:Aeu l i=j
  have hjl:j<4611686018427387904:=by
   have:j≤l.length:=by
    rw[←hj];unfold Aeu
    have hh:∀q:OpL,Az6 q≤q.length:=by
     intro q;induction q with
     |nil=>simp[Az6]
     |cons x r ih=>simp only[Az6];split<;>simp<;>omega
    have:=hh (l.drop i);rw[List.length_drop]at this;omega
   omega
  simp only[Az7,Aco hjl,len]
  by_cases a1:(Aak l j).1=18
  ·rw[if_pos (by simpa using a1)]
   by_cases a2:(Aak l (j+1)).1=20
   ·have:=Az8 (l:=l) (i:=j+1) (by omega)
    rw[if_pos (by simpa using a2),if_pos (by omega),if_pos ⟨a1,a2⟩];rfl
   ·rw[if_neg (by simpa using a2),if_neg (fun h=>a2 h.2)]
  ·rw[if_neg (by simpa using a1),if_neg (fun h=>a1 h.1)]
theorem Df3{R:Type}(N:Nat)(l:OpL)(hl:l.length≤1099511627776)(K:OpL→Int→Option R):∀(m k j:Nat),m<k→j+m=l.length→Adj N k l (j:Int) K=K l ((Aeu l j:Nat):Int):=by
 intro m
 induction m with
 |zero=>
  intro k j hk hj
  obtain⟨k,rfl⟩:∃q,k=q+1:=⟨k-1,by omega⟩
  simp only[Adj,Avn]
  have:(Aak l j).1=0:=by rw[A0j (by omega)]
  rw[At8 N j l 19 (by decide),Bai (by omega),this];rfl
 |succ m ih=>
  intro k j hk hj
  obtain⟨k,rfl⟩:∃q,k=q+1:=⟨k-1,by omega⟩
  simp only[Adj,Avn]
  rw[At8 N j l 19 (by decide)]
  by_cases h:(Aak l j).1=19
  ·rw[if_pos (by simpa using h),Aco (by omega),ih k (j+1) (by omega) (by omega),B4s h]
  ·rw[if_neg (by simpa using h),Bai h]
theorem Dia{R:Type}(N:Nat)(l:OpL)(j:Nat)(K:Int→Option R):Aeb N l (j:Int) K=K (if (Aak l j).1=20 then (Aak l j).2.1 else 0):=by
 simp only[Aeb,Az1,len]
 rw[At8 N j l 20 (by decide)]
 by_cases h:(Aak l j).1=20
 ·have:=Az8 (l:=l) (i:=j) (by omega)
  rw[if_pos (by simpa using h),if_pos (by omega),if_pos h];rfl
 ·rw[if_neg (by simpa using h),if_neg h]
theorem Bne{R:Type}(N:Nat)(l:OpL)(hl:l.length≤1099511627776)(hN:l.length<N)(ho:Afn 0 l=true)(n:Int)(K:Int→Option R):Aft N l n K=K (nxt l n):=by
 obtain⟨N',hN'⟩:∃q,N=q+1:=⟨N-1,by omega⟩
 simp only[Aft,Bjd,Df1 N l hl hN]
 unfold nxt
 rcases Bxn n l 0 with e|⟨i,e,hi,h19,_⟩
 ·rw[e,if_pos (by decide)]
  have h5:∀K':OpL→Int→Option R,Adj N N l (-1) K'=K' l (-1):=by
   intro K'
   rw[show Adj (R:=R) N N=Adj N (N'+1) by rw[←hN']]
   simp only[Adj,Avn,Cut];rfl
  rw[h5,Cut,if_neg (by decide)]
  simp only[Aeb,Az1,Cut];rfl
 ·rw[e,Nat.zero_add,if_neg (by omega),Int.toNat_natCast,Df3 N l hl _ (l.length-i) N i (by omega) (by omega)]
  have h18:=C6u ho (l.length-i) i (by omega) h19
  have hjl:Aeu l i<l.length:=Az8 (by omega)
  generalize Aeu l i=j at h18 hjl
  simp only[Aco (show j<4611686018427387904 by omega),Dia]
  rw[At8 N j l 18 (by decide)]
  by_cases a1:(Aak l j).1=18
  ·rw[if_pos (by simpa using a1)]
   by_cases a2:(Aak l (j+1)).1=20
   ·rw[if_pos a2,if_pos ⟨a1,a2⟩]
   ·rw[if_neg a2,if_neg (fun h=>a2 h.2)]
  ·rw[if_neg (by simpa using a1),if_neg (by omega),if_neg (fun h=>a1 h.1)]
theorem Dcq:∀(s D:List Int),s.Nodup→(∀x,x∈s→x∈D)→s.length≤D.length
 |[],_,_,_=>by simp
 |x::s,D,hn,h=>by
  rw[List.nodup_cons]at hn
  have:=Dcq s (D.erase x) hn.2 (fun y hy=>(List.mem_erase_of_ne (by intro e;subst e;exact hn.1 hy)).2 (h y (by simp[hy])))
  have hx:=h x (by simp)
  rw[List.length_erase_of_mem hx]at this
  have:0<D.length:=List.length_pos_of_mem hx
  simp only[List.length_cons];omega
theorem Dib{l:OpL}{n:Int}(h:nxt l n≠0):n∈l.map (fun x=>x.2.1):=by
 unfold nxt at h
 rcases Bxn n l 0 with e|⟨i,e,hi,h19,hn⟩
 ·rw[e]at h;exact absurd rfl h
 ·rw[Atj hi]at hn
  exact List.mem_map.2 ⟨l[i],List.getElem_mem hi,hn⟩
theorem C5t{R:Type}(N:Nat)(l:OpL)(hl:l.length≤1000000)(hN:l.length<N)(ho:Afn 0 l=true)(lab:Int)(s:List Int)(hs:∀x,x∈s→nxt l x≠0∧nxt l x∈s)(hlab:lab∉s)(b:Bool→Option R)(a:Option R) :
  ∀(m k i:Nat) (n:Int),n∈s→i+m=l.length+1→m<k→Adr N k l lab n (i:Int) b a=a:=by
 intro m
 induction m with
 |zero=>
  intro k i n hn hi hk
  obtain⟨k,rfl⟩:∃q,k=q+1:=⟨k-1,by omega⟩
  simp only[Adr,At6,len]
  rw[if_neg (by simp only[decide_eq_true_eq];omega)]
 |succ m ih=>
  intro k i n hn hi hk
  obtain⟨k,rfl⟩:∃q,k=q+1:=⟨k-1,by omega⟩
  simp only[Adr,At6,len,Bne N l (by omega) hN ho]
  obtain⟨h1,h2⟩:=hs n hn
  have hne:n≠lab:=fun e=>hlab (e▸hn)
  rw[if_pos (by simp only[decide_eq_true_eq];omega),if_neg (by simpa using hne),if_neg (by simpa using h1),Aco (by omega),ih k (i+1) _ h2 (by omega) (by omega)]
theorem C5u(N:Nat)(l:OpL)(hl:l.length≤1000000)(hN:l.length+10<N)(ho:Afn 0 l=true)(h24:(Aak l 0).1=24)(d:List Int)(at_:Ad5)(nm:Adz)(hat:∀n,A1q n at_=if An5 n 0 l = -1 then 0 else An5 n 0 l)(lab:Int) :
  ∀(m i:Nat) (n:Int) (s:List Int),i+m=l.length+1→s.length=i→n≠0→s.Nodup→lab∉s→(∀x,x∈s→nxt l x≠0∧(nxt l x∈s∨nxt l x=n))→
   ∃b:Bool,(∀(R:Type) (a:Bool→OpL→List Int→Ad5→Adz→Option R) (c:OpL→List Int→Ad5→Adz→Option R) (k:Nat) (seen:Adz),m+1<k→(∀x,A4a x seen=decide (x∈s))→
    Ac6 N k lab n l d at_ nm seen a c=(if b=true then a true l d at_ nm else c l d at_ nm))∧
    (∀(S:Type) (L0:Bool→Option S) (k':Nat),m<k'→Adr N k' l lab n (i:Int) L0 (L0 true)=L0 (!b)):=by
 intro m
 induction m with
 |zero=>
  intro i n s hi hs _ hnd _ hnx
  exfalso
  have:=Dcq s (l.map fun x=>x.2.1) hnd fun x hx=>Dib (hnx x hx).1
  rw[List.length_map]at this;omega
 |succ m ih=>
  intro i n s hi hs hn0 hnd hlab hnx
  by_cases hmem:n∈s
  ·refine⟨false,fun R a c k seen hk hseen=>?_,fun S L0 k' hk'=>?_⟩
   ·obtain⟨k,rfl⟩:∃q,k=q+1:=⟨k-1,by omega⟩
    simp only[Ac6,Arq]
    rw[if_pos (by simpa using hn0),show Option.getD (Ash (kt:=(.int .i64)) (et:=.bool) n seen) false=A4a n seen from rfl,hseen,decide_eq_true hmem];rfl
   ·exact C5t N l hl (by omega) ho lab s (fun x hx=>⟨(hnx x hx).1,(hnx x hx).2.elim id (fun e=>e▸hmem)⟩) hlab L0 (L0 true) (m+1) k' i n hmem (by omega) (by omega)
  have hP:∀(R:Type) (a:Bool→OpL→List Int→Ad5→Adz→Option R) (c:OpL→List Int→Ad5→Adz→Option R) (k:Nat) (seen:Adz),(∀x,A4a x seen=decide (x∈s))→
    Ac6 N (k+1) lab n l d at_ nm seen a c=if (n==lab)=true then a true l d at_ nm else Ac6 N k lab (nxt l n) l d at_ nm (Cra n seen) a c:=by
   intro R a c k seen hseen
   simp only[Ac6,Arq,Cmq N l (show l.length≤1099511627776 by omega) (show l.length<N by omega) h24 d at_ nm hat]
   rw[if_pos (by simpa using hn0),show Option.getD (Ash (kt:=(.int .i64)) (et:=.bool) n seen) false=A4a n seen from rfl,hseen,decide_eq_false hmem,if_pos (show (!false)=true from rfl)];rfl
  have hL:∀(S:Type) (L0:Bool→Option S) (k':Nat),Adr N (k'+1) l lab n (i:Int) L0 (L0 true)=if (n==lab)=true then L0 false else if (nxt l n==0)=true then L0 true else Adr N k' l lab (nxt l n) ((i+1:Nat):Int) L0 (L0 true):=by
   intro S L0 k'
   simp only[Adr,At6,len,Bne N l (show l.length≤1099511627776 by omega) (show l.length<N by omega) ho]
   rw[if_pos (show decide ((i:Int)≤(l.length:Int))=true by simp only[decide_eq_true_eq];omega),Aco (by omega)]
  by_cases hnl:n=lab
  ·refine⟨true,fun R a c k seen hk hseen=>?_,fun S L0 k' hk'=>?_⟩
   ·obtain⟨k,rfl⟩:∃q,k=q+1:=⟨k-1,by omega⟩
    rw[hP R a c k seen hseen,if_pos (by simpa using hnl)];rfl
   ·obtain⟨k',rfl⟩:∃q,k'=q+1:=⟨k'-1,by omega⟩
    rw[hL,if_pos (by simpa using hnl)];rfl
  by_cases h0:nxt l n=0
  ·refine⟨false,fun R a c k seen hk hseen=>?_,fun S L0 k' hk'=>?_⟩
   ·obtain⟨k,rfl⟩:∃q,k=q+2:=⟨k-2,by omega⟩
    rw[hP R a c (k+1) seen hseen,if_neg (by simpa using hnl),h0]
    simp only[Ac6,Arq]
    rw[if_neg (by decide)];rfl
   ·obtain⟨k',rfl⟩:∃q,k'=q+1:=⟨k'-1,by omega⟩
    rw[hL,if_neg (by simpa using hnl),if_pos (by simpa using h0)];rfl
  ·obtain⟨b,e1,e2⟩:=ih (i+1) (nxt l n) (n::s) (by omega) (by simp[hs]) h0 (List.nodup_cons.2 ⟨hmem,hnd⟩) (by simp;exact⟨fun e=>hnl e.symm,hlab⟩) fun x hx=>by
    rcases List.mem_cons.1 hx with rfl|hx
    ·exact⟨h0,.inr rfl⟩
    ·obtain⟨q1,q2⟩:=hnx x hx
     exact⟨q1,.inl (by rcases q2 with q|q;exact List.mem_cons_of_mem _ q;rw[q];exact List.mem_cons_self ..)⟩
   refine⟨b,fun R a c k seen hk hseen=>?_,fun S L0 k' hk'=>?_⟩
   ·obtain⟨k,rfl⟩:∃q,k=q+1:=⟨k-1,by omega⟩
    rw[hP R a c k seen hseen,if_neg (by simpa using hnl)]
    refine e1 R a c k (Cra n seen) (by omega) fun x=>?_
    rw[Cvx,hseen]
    by_cases e:x=n
    ·subst e;simp
    ·simp[e]
   ·obtain⟨k',rfl⟩:∃q,k'=q+1:=⟨k'-1,by omega⟩
    rw[hL,if_neg (by simpa using hnl),if_neg (by simpa using h0)]
    exact e2 S L0 k' (by omega)
theorem C9v(N:Nat)(l:OpL)(hl:l.length≤1000000)(hN:l.length+10<N)(ho:Afn 0 l=true)(h24:(Aak l 0).1=24)(d:List Int)(at_:Ad5)(nm:Adz)(hat:∀n,A1q n at_=if An5 n 0 l = -1 then 0 else An5 n 0 l)(n:Int)(hn:0<n∨nxt l n=0)(hp:0≤nxt l n) :
  ∃b:Bool,(∀(R:Type) (K:Bool→OpL→List Int→Ad5→Adz→Option R),Acr N n l d at_ nm K=K b l d at_ nm)∧∀(S:Type) (L:Bool→Option S),Ags N l n L=L b:=by
 by_cases h0:nxt l n=0
 ·refine⟨false,fun R K=>?_,fun S L=>?_⟩
  ·simp only[Acr,Aur,Cmq N l (show l.length≤1099511627776 by omega) (show l.length<N by omega) h24 d at_ nm hat,h0]
   by_cases hp:n > 0
   ·rw[if_pos (by simpa using hp),if_neg (by decide)]
   ·rw[if_neg (by simpa using hp)]
  ·simp only[Ags,A7s,Bne N l (show l.length≤1099511627776 by omega) (show l.length<N by omega) ho]
   rw[if_pos (by simpa using h0)]
 have hn1:n > 0:=hn.resolve_right h0
 obtain⟨b,e1,e2⟩:=C5u N l hl hN ho h24 d at_ nm hat n (l.length+1) 0 (nxt l n) [] (by omega) rfl h0 List.nodup_nil (by simp) (by simp)
 refine⟨!b,fun R K=>?_,fun S L=>?_⟩
 ·simp only[Acr,Aur,Ae0,A9a,Cmq N l (show l.length≤1099511627776 by omega) (show l.length<N by omega) h24 d at_ nm hat]
  rw[if_pos (by simpa using hn1),if_pos (by simp only[decide_eq_true_eq];omega)]
  refine (e1 R (fun a c e f g=>K (!a) c e f g) (fun h i j m=>K (!false) h i j m) N [] (by omega) (fun x=>by simp[A4a,Ash])).trans ?_
  cases b<;>rfl
 ·simp only[Ags,A7s,Bne N l (show l.length≤1099511627776 by omega) (show l.length<N by omega) ho]
  rw[if_neg (by simpa using h0)]
  exact e2 S L N (by omega)
def hvF:Adt→Int→Int
 |[],n=>n
 |d::r,n=>if n≤2000 then hvF r (n+1+d.1.length+d.2.2.length) else n
theorem Dic{R:Type}(N:Nat)(lim:Int)(nm:List UInt8)(data:Adt)(hd:Bo0 data)(hl:data.length≤140737488351232)(ops:OpL)(gl:Af7)(procs labels:Int)(K:Int→Int→List UInt8→Adt→OpL→Af7→Int→Int→Option R) :
  ∀(k i:Nat) (n:Int),i≤data.length→2002≤n+k→1≤k→0≤n→n≤562949953421312→
  Aex N k lim n i nm data ops gl procs labels K=K lim (hvF (data.drop i) n) nm data ops gl procs labels:=by
 intro k
 induction k with
 |zero=>intro i _ _ _ h;omega
 |succ k ih=>
  intro i n hi hk _ h0 h1
  simp only[Aex,A49]
  by_cases hlt:i<data.length
  case neg=>
   rw[if_neg (by simp[len];omega),List.drop_eq_nil_of_le (by omega)];rfl
  have hin:(0:Int)≤i∧(i:Int)<len data:=by simp only[len];omega
  have hd':=hd data[i] (List.getElem_mem hlt)
  rw[if_pos (by simp[len];omega),List.drop_eq_getElem_cons hlt,hvF]
  by_cases hn:n≤2000
  case neg=>rw[if_neg (by simpa using hn),if_neg hn]
  rw[if_pos (by simpa using hn),if_pos hn,if_pos hin,if_pos hin,Akp _ _ hlt,Aco (by omega),Aeh (i:=n+1) (by omega) (by omega),Aeh (i:=n+1+_) (by omega) (by omega),Aeh (by omega) (by omega),
   ih (i+1) _ (by omega) (by omega) (by omega) (by omega) (by omega)]
def Cdt(nm:List UInt8)(data:Adt)(ops:OpL)(gl:Af7)(lim:Int):Bool :=
 decide (lim<ops.length)||decide (400<gl.length)||decide (2000<hvF data nm.length)
theorem Df4{R:Type}(N:Nat)(nm:List UInt8)(hnm:nm.length≤140737488351232)(data:Adt)(hd:Bo0 data)(hl:data.length≤140737488351232)(hN:2002≤N)(ops:OpL)(gl:Af7)(procs labels lim:Int)(K:Bool→Option R) :
  Aiq N nm data ops gl procs labels lim K=K (Cdt nm data ops gl lim):=by
 simp only[Aiq,Bby]
 have:=Dic (R:=R) N lim nm data hd hl ops gl procs labels (fun c d g h e f i j=>if ((decide (((len e) > c)))=true) then (K true) else (if ((decide (((len f) > (400:Int))))=true) then (K true) else (K ((decide ((d > (2000:Int)))))))) N 0 nm.length (by omega) (by omega) (by omega) (by omega) (by omega)
 rw[List.drop_zero]at this
 refine Eq.trans this ?_
 unfold Cdt
 by_cases a:lim<ops.length
 ·rw[if_pos (by simp only[len,decide_eq_true_eq];omega),show decide (lim<ops.length)=true by simpa using a];rfl
 rw[if_neg (by simp only[len,decide_eq_true_eq];omega),show decide (lim<ops.length)=false by simpa using a]
 by_cases b:400<gl.length
 ·rw[if_pos (by simp only[len,decide_eq_true_eq];omega),show decide (400<gl.length)=true by simpa using b];rfl
 rw[if_neg (by simp only[len,decide_eq_true_eq];omega),show decide (400<gl.length)=false by simpa using b];rfl
theorem Dcr:∀(l:Adt) (n:Int),n≤hvF l n
 |[],n=>Int.le_refl n
 |d::r,n=>by
  rw[hvF];split
  ·have:=Dcr r (n+1+d.1.length+d.2.2.length);omega
  ·omega
theorem Cvz:∀(l:Adt) (n:Int),0≤n→hvF l n≤2000→n+l.length≤2000∧∀d,d∈l→d.1.length≤2000∧d.2.2.length≤2000
 |[],n,_,h=>⟨by simpa [hvF]using h,fun d hd=>by cases hd⟩
 |d::r,n,h0,h=>by
  rw[hvF]at h
  split at h
  ·have h1:=Cvz r (n+1+d.1.length+d.2.2.length) (by omega) h
   have h2:=h1.1
   refine⟨by rw[List.length_cons];omega,fun e he=>?_⟩
   rcases List.mem_cons.mp he with rfl|he
   ·omega
   ·exact h1.2 e he
  ·omega
abbrev Crc:Ty:=.pair .str (.pair (.list (.pair .str (.pair .bool (.list (.int .i64))))) (.pair (.list (.pair (.int .i64) (.pair (.int .i64) (.int .i64)))) (.pair (.list (.pair (.int .i64) (.int .i64))) (.pair (.int .i64) (.int .i64)))))
structure C4q(nm:List UInt8)(data:Adt)(l:OpL)(gl:Af7)(procs labels:Int):Prop where
 n:nm.length≤140737488351232
 d:data.length≤140737488351232
 dd:Bo0 data
 l:l.length≤140737488351232
 g:gl.length≤140737488351232
 p:-9223372036854775808≤procs∧procs≤9223372036854775807
 b:-9223372036854775808≤labels∧labels≤9223372036854775807
theorem Dlk{nm:List UInt8}{data:Adt}{l:OpL}{gl:Af7}{procs labels:Int}(h:Wf Crc (nm,data,l,gl,procs,labels)):C4q nm data l gl procs labels:=by
 obtain⟨h1,h2,h3,h4,h5,h6⟩:=h
 refine⟨h1,h2.1,?_,h3.1,h4.1,C05 h5,C05 h6⟩
 intro d hd
 obtain⟨i,hi,rfl⟩:=List.getElem_of_mem hd
 have h:=h2.2 i hi
 have e:List.getD data i (Ty.dflt (.pair .str (.pair .bool (.list (.int .i64)))))=data[i]:=by rw[List.getD_eq_getElem?_getD,List.getElem?_eq_getElem hi];rfl
 rw[e]at h
 exact⟨h.1,h.2.2.1⟩
theorem Df5{nm:List UInt8}{data:Adt}{l:OpL}{gl:Af7}{procs labels lim:Int}(h:C4q nm data l gl procs labels)(hh:Cdt nm data l gl lim=false):Cq1 200000 nm data gl∧(l.length:Int)≤lim∧nm.length≤2000∧gl.length≤400∧data.length≤2000:=by
 unfold Cdt at hh
 simp only[Bool.or_eq_false_iff,decide_eq_false_iff_not]at hh
 obtain⟨⟨a,b⟩,c⟩:=hh
 have c':hvF data nm.length≤2000:=by omega
 have h1:=Cvz data nm.length (by omega) c'
 have h2:=Dcr data nm.length
 refine⟨⟨by omega,by omega,h.dd,fun d hd=>?_,fun d hd=>?_,by omega,by omega,by omega⟩,by omega,by omega,by omega,by omega⟩
 ·have:=h1.2 d hd;omega
 ·have:=h1.2 d hd;omega
structure VC(N:Nat)(nd:Int)(l:OpL)(procs labels:Int)(st:List Int):Prop where
 l1:l.length≤1000000
 l2:l.length+10<N
 ho:Afn 0 l=true
 hf:An7 l=true
 hall:∀x,x∈l→Ajs nd procs labels x=true
 pp:procs≤200
 hu:B05 l
 hs:Bgc l st 0 0 l=true
 oi:Cel l
theorem VC.h24{N:Nat}{nd:Int}{l:OpL}{procs labels:Int}{st:List Int}(V:VC N nd l procs labels st){i:Nat}(hi:i<l.length):(Aak l 0).1=24:=by
 have:=V.hf
 unfold An7 at this
 cases l with
 |nil=>simp at hi
 |cons x r=>
  simp only[Aey,Bool.or_eq_true,beq_iff_eq]at this
  show x.1=24
  simpa using this
theorem VC.numAt{N:Nat}{nd:Int}{l:OpL}{procs labels:Int}{st:List Int}(V:VC N nd l procs labels st){i:Nat}(hi:i<l.length):Ajs nd procs labels (Aak l i)=true:=by
 rw[Atj hi];exact V.hall _ (List.getElem_mem hi)
theorem VC.nxt0{N:Nat}{nd:Int}{l:OpL}{procs labels:Int}{st:List Int}(V:VC N nd l procs labels st)(n:Int):0≤nxt l n:=by
 unfold nxt
 simp only
 split
 ·exact Int.le_refl 0
 ·split
  ·rename_i h
   have hlt:=Az8 (l:=l) (i:=Aeu l (An5 n 0 l).toNat+1) (by omega)
   have hn:=Bnd (V.numAt hlt)
   have:Aaj (Aak l (Aeu l (An5 n 0 l).toNat+1))=(Aak l (Aeu l (An5 n 0 l).toNat+1)).2.1:=by
    unfold Aaj;rw[if_pos (.inl h.2)]
   omega
  ·exact Int.le_refl 0
theorem VC.nxt_0{N:Nat}{nd:Int}{l:OpL}{procs labels:Int}{st:List Int}(V:VC N nd l procs labels st)(n:Int)(hn:n≤0):nxt l n=0:=by
 unfold nxt
 rcases Bxn n l 0 with e|⟨j,_,h1,h2,h3⟩
 ·simp only[e];rfl
 ·have:=Bmt (V.numAt h1) h2
  omega
theorem C9w{N:Nat}{nd:Int}{l:OpL}{procs labels:Int}{st:List Int}(V:VC N nd l procs labels st)(d:List Int)(at_:Ad5)(nm:Adz)(hat:∀n,A1q n at_=if An5 n 0 l = -1 then 0 else An5 n 0 l)(i:Nat)(hi:i<l.length) :
  ∃b:Bool,(∀(R:Type) (K:Bool→OpL→List Int→Ad5→Adz→Option R),Agw N (i:Int) l d at_ nm K=K b l d at_ nm)∧∀(S:Type) (L:Bool→Option S),Adm N l (i:Int) L=L b:=by
 have hin:(0:Int)≤(i:Int)∧(i:Int)<(l.length:Int):=by omega
 have C:=fun n=>C9v N l V.l1 V.l2 V.ho (V.h24 hi) d at_ nm hat n (by by_cases h:0<n;exact .inl h;exact .inr (V.nxt_0 n (by omega))) (V.nxt0 n)
 obtain⟨op,a,c,hg⟩:∃op a c,List.getD l (Int.toNat (i:Int)) (0,0,0)=(op,a,c):=⟨_,_,_,rfl⟩
 simp only[Agw,A9c,Ac1,Adm,Brb,Agh,Bf7,len,if_pos hin,hg]
 by_cases h20:op=20
 ·subst h20
  obtain⟨b,e1,e2⟩:=C a
  exact⟨b,fun R K=>e1 R K,fun S L=>e2 S L⟩
 by_cases h21:op=21
 ·subst h21
  obtain⟨b,e1,e2⟩:=C a
  exact⟨b,fun R K=>e1 R K,fun S L=>e2 S L⟩
 by_cases h22:op=22
 ·subst h22
  obtain⟨b,e1,e2⟩:=C a
  exact⟨b,fun R K=>e1 R K,fun S L=>e2 S L⟩
 by_cases h29:op=29
 ·subst h29
  obtain⟨b,e1,e2⟩:=C a
  exact⟨b,fun R K=>e1 R K,fun S L=>e2 S L⟩
 by_cases h30:op=30
 ·subst h30
  obtain⟨b,e1,e2⟩:=C c
  exact⟨b,fun R K=>e1 R K,fun S L=>e2 S L⟩
 rw[show (op==20)=false by simpa using h20,show (op==21)=false by simpa using h21,show (op==22)=false by simpa using h22,show (op==29)=false by simpa using h29,show (op==30)=false by simpa using h30]
 exact⟨false,fun R K=>rfl,fun S L=>rfl⟩
def dpF:Int→OpL→List Int
 | _,[]=>[]
 |d,x::r=>(if x.1=24 then 0 else d)::dpF (Aip x (if x.1=24 then 0 else d)) r
theorem C6v:∀(l:OpL) (d:Int),(dpF d l).length=l.length
 |[],_=>rfl
 |x::r,d=>by simp only[dpF,List.length_cons];rw[C6v r]
theorem Dcs{x:Int×Int×Int}(h:x.1=24)(d d':Int):Aip x d=Aip x d':=by
 unfold Aip;rw[if_neg (by omega),if_pos h,if_neg (by omega),if_pos h]
theorem Dct{R:Type}(N:Nat)(nd procs labels:Int)(st:List Int)(l:OpL)(hl:l.length≤1000000)(hp:procs≤200)(hall:∀x,x∈l→Ajs nd procs labels x=true)(K:List Int→Option R) :
  ∀(m k i:Nat) (d:Int) (y:List Int),m<k→i+m=l.length→0≤d∧d≤4000→y.length=i→Bgc l st i d (l.drop i)=true→
   Aef N k d l (len l) (i:Int) y Ao8 K=K (y++dpF d (l.drop i)):=by
 intro m
 induction m with
 |zero=>
  intro k i d y hk hi hd hy _
  obtain⟨k,rfl⟩:∃q,k=q+1:=⟨k-1,by omega⟩
  simp only[Aef,A0w,len]
  rw[if_neg (by simp only[decide_eq_true_eq];omega),List.drop_eq_nil_of_le (by omega)];simp[dpF]
 |succ m ih=>
  intro k i d y hk hi hd hy hst
  obtain⟨k,rfl⟩:∃q,k=q+1:=⟨k-1,by omega⟩
  have hlt:i<l.length:=by omega
  have hx:=hall _ (List.getElem_mem hlt)
  simp only[Aef,A0w,Aff,Bb2]
  rw[List.drop_eq_getElem_cons hlt]at hst ⊢
  rw[if_pos (by simp only[len,decide_eq_true_eq];omega),if_pos (by simp only[len];omega),Akp l _ hlt]
  obtain⟨x,hxe⟩:∃x,l[i]=x:=⟨_,rfl⟩
  rw[hxe]at hx hst ⊢
  have hop:=Bge hx
  simp only[Bgc,Bool.and_eq_true]at hst
  obtain⟨⟨_,ht⟩,hst⟩:=hst
  have hy2:0≤Aip x d∧Aip x d≤4000:=by
   simp only[Bs7,Bool.and_eq_true,decide_eq_true_eq]at ht;omega
  rw[show List.getD Ao8 (Int.toNat x.1) (([]:List UInt8),((0:Int),((0:Int),(0:Int))))=kT x.1 from rfl]
  have g1:∀v:Int,(y.length+(v::([]:List Int)).length)*8≤70368744177664:=by intro v;simp;omega
  simp only[if_pos (g1 _),if_pos (show (0:Int)≤x.1∧x.1<31 by omega),if_pos (show x.1<len Ao8 from by simp only[len,Ao8,List.length_cons,List.length_nil];omega)]
  rw[dpF]
  by_cases h24:x.1=24
  ·rw[if_pos (by simpa using h24),if_pos h24,Bmu N x 0 (by omega) (Bgd hp hx),Dcs h24 0 d,Aco (by omega),ih k (i+1) _ _ (by omega) (by omega) hy2 (by simp[hy]) hst]
   simp
  ·rw[if_neg (by simpa using h24),if_neg h24,Bmu N x d hd (Bgd hp hx),Aco (by omega),ih k (i+1) _ _ (by omega) (by omega) hy2 (by simp[hy]) hst]
   simp
theorem Dcu{R:Type}(N:Nat)(nd:Int)(nm:List UInt8)(data:Adt)(gl:Af7)(procs labels:Int)(st:List Int)(l:OpL)(hl:l.length≤1000000)(hp:procs≤200)(hall:∀x,x∈l→Ajs nd procs labels x=true)(K:List Int→Option R) :
  ∀(m k i:Nat) (d:Int) (y:List Int),m<k→i+m=l.length→0≤d∧d≤4000→y.length=i→Bgc l st i d (l.drop i)=true→
   Aeg N k d (i:Int) nm data l gl procs labels y K=K (y++dpF d (l.drop i)):=by
 intro m
 induction m with
 |zero=>
  intro k i d y hk hi hd hy _
  obtain⟨k,rfl⟩:∃q,k=q+1:=⟨k-1,by omega⟩
  simp only[Aeg,A1c,len]
  rw[if_neg (by simp only[decide_eq_true_eq];omega),List.drop_eq_nil_of_le (by omega)];simp[dpF]
 |succ m ih=>
  intro k i d y hk hi hd hy hst
  obtain⟨k,rfl⟩:∃q,k=q+1:=⟨k-1,by omega⟩
  have hlt:i<l.length:=by omega
  have hx:=hall _ (List.getElem_mem hlt)
  have hin:(0:Int)≤(i:Int)∧(i:Int)<len l:=by simp only[len];omega
  simp only[Aeg,A1c,Afg,Bco,if_pos hin]
  rw[List.drop_eq_getElem_cons hlt]at hst ⊢
  rw[if_pos (by simp only[len,decide_eq_true_eq];omega),Akp l _ hlt]
  obtain⟨x,hxe⟩:∃x,l[i]=x:=⟨_,rfl⟩
  rw[hxe]at hx hst ⊢
  have hop:=Bge hx
  simp only[Bgc,Bool.and_eq_true]at hst
  obtain⟨⟨_,ht⟩,hst⟩:=hst
  have hy2:0≤Aip x d∧Aip x d≤4000:=by
   simp only[Bs7,Bool.and_eq_true,decide_eq_true_eq]at ht;omega
  have g1:∀v:Int,(y.length+(v::([]:List Int)).length)*8≤70368744177664:=by intro v;simp;omega
  simp only[if_pos (g1 _)]
  rw[dpF]
  by_cases h24:x.1=24
  ·rw[if_pos (by simpa using h24),if_pos h24,Bmw N x 0 hop (by omega) (Bgd hp hx),Dcs h24 0 d,Aco (by omega),ih k (i+1) _ _ (by omega) (by omega) hy2 (by simp[hy]) hst]
   simp
  ·rw[if_neg (by simpa using h24),if_neg h24,Bmw N x d hop hd (Bgd hp hx),Aco (by omega),ih k (i+1) _ _ (by omega) (by omega) hy2 (by simp[hy]) hst]
   simp
def C0a(l:OpL)(i:Nat):Bool:=(Aak l i).1==19 && !(l.any fun x=>decide (0<Aaj x)&&(Aak l i).2.1==Aaj x)
theorem Did{R:Type}(N:Nat)(l:OpL)(i:Nat)(hi:i<l.length)(d:List Int)(at_:Ad5)(nm:Adz)(hnm:∀n,A4a n nm=l.any fun x=>decide (0<Aaj x)&&n==Aaj x)(K:Bool→OpL→List Int→Ad5→Adz→Option R):Aiv N (i:Int) l d at_ nm K=K (C0a l i) l d at_ nm:=by
 simp only[Aiv,Be2,Az7,len]
 unfold C0a
 by_cases h:(Aak l i).1=19
 ·rw[if_pos (by simpa using h),if_pos (by omega),show ((Aak l i).1==19)=true by simpa using h,Bool.true_and,←hnm];rfl
 ·rw[if_neg (by simpa using h),show ((Aak l i).1==19)=false by simpa using h];rfl
noncomputable abbrev IF5{R:Type}(N k:Nat)(j:Int)(l:OpL)(d:List Int)(a:Ad5)(n:Adz)(i:Int)(K0:Int→OpL→List Int→Ad5→Adz→Int→Option R)(K1:OpL→List Int→Ad5→Adz→Int→Option R):Option R :=
 Aam N k 8 j l d a n i K0 K1
theorem i0{R:Type}(N k:Nat)(l:OpL)(d:List Int)(a:Ad5)(n:Adz)(i:Int)(b:Int→OpL→List Int→Ad5→Adz→Int→Option R)(c:OpL→List Int→Ad5→Adz→Int→Option R):IF5 N (k+1) 0 l d a n i b c=Akr N l d a n i (fun m e f g h j=>if m=true then b 0 e f g h j else IF5 N k 1 e f g h j b c):=rfl
theorem i1{R:Type}(N k:Nat)(l:OpL)(d:List Int)(a:Ad5)(n:Adz)(i:Int)(b:Int→OpL→List Int→Ad5→Adz→Int→Option R)(c:OpL→List Int→Ad5→Adz→Int→Option R):IF5 N (k+1) 1 l d a n i b c=Ag0 N l d a n i (fun m e f g h j=>if m=true then b 1 e f g h j else IF5 N k 2 e f g h j b c):=rfl
theorem i2{R:Type}(N k:Nat)(l:OpL)(d:List Int)(a:Ad5)(n:Adz)(i:Int)(b:Int→OpL→List Int→Ad5→Adz→Int→Option R)(c:OpL→List Int→Ad5→Adz→Int→Option R):IF5 N (k+1) 2 l d a n i b c=Ag1 N l d a n i (fun m e f g h j=>if m=true then b 2 e f g h j else IF5 N k 3 e f g h j b c):=rfl
theorem i3{R:Type}(N k:Nat)(l:OpL)(d:List Int)(a:Ad5)(n:Adz)(i:Int)(b:Int→OpL→List Int→Ad5→Adz→Int→Option R)(c:OpL→List Int→Ad5→Adz→Int→Option R):IF5 N (k+1) 3 l d a n i b c=Ag2 N l d a n i (fun m e f g h j=>if m=true then b 3 e f g h j else IF5 N k 4 e f g h j b c):=rfl
theorem i4{R:Type}(N k:Nat)(l:OpL)(d:List Int)(a:Ad5)(n:Adz)(i:Int)(b:Int→OpL→List Int→Ad5→Adz→Int→Option R)(c:OpL→List Int→Ad5→Adz→Int→Option R):IF5 N (k+1) 4 l d a n i b c=Ag3 N l d a n i (fun m e f g h j=>if m=true then b 4 e f g h j else IF5 N k 5 e f g h j b c):=rfl
theorem i5{R:Type}(N k:Nat)(l:OpL)(d:List Int)(a:Ad5)(n:Adz)(i:Int)(b:Int→OpL→List Int→Ad5→Adz→Int→Option R)(c:OpL→List Int→Ad5→Adz→Int→Option R):IF5 N (k+1) 5 l d a n i b c=Ag4 N l d a n i (fun m e f g h j=>if m=true then b 5 e f g h j else IF5 N k 6 e f g h j b c):=rfl
theorem i6{R:Type}(N k:Nat)(l:OpL)(d:List Int)(a:Ad5)(n:Adz)(i:Int)(b:Int→OpL→List Int→Ad5→Adz→Int→Option R)(c:OpL→List Int→Ad5→Adz→Int→Option R):IF5 N (k+1) 6 l d a n i b c=Ag5 N l d a n i (fun m e f g h j=>if m=true then b 6 e f g h j else IF5 N k 7 e f g h j b c):=rfl
theorem i7{R:Type}(N k:Nat)(l:OpL)(d:List Int)(a:Ad5)(n:Adz)(i:Int)(b:Int→OpL→List Int→Ad5→Adz→Int→Option R)(c:OpL→List Int→Ad5→Adz→Int→Option R):IF5 N (k+1) 7 l d a n i b c=Ag6 N l d a n i (fun m e f g h j=>if m=true then b 7 e f g h j else IF5 N k 8 e f g h j b c):=rfl
theorem i8{R:Type}(N k:Nat)(l:OpL)(d:List Int)(a:Ad5)(n:Adz)(i:Int)(c:Int→OpL→List Int→Ad5→Adz→Int→Option R)(b:OpL→List Int→Ad5→Adz→Int→Option R):IF5 N (k+1) 8 l d a n i c b=b l d a n i:=rfl
def or8(b1 b2 b3 b4 b5 b6 b7 b8:Bool):Bool:=b1||(b2||(b3||(b4||(b5||(b6||(b7||b8))))))
theorem Dmc{R:Type}(N:Nat)(hN:10<N)(l:OpL)(d:List Int)(a:Ad5)(n:Adz)(i:Int)(b1 b2 b3 b4 b5 b6 b7 b8:Bool)(h1:∀K:Bool→OpL→List Int→Ad5→Adz→Option R,Aht N i l d a n K=K b1 l d a n)(h2:∀K:Bool→OpL→List Int→Ad5→Adz→Option R,Ahu N i l d a n K=K b2 l d a n)(h3:∀K:Bool→OpL→List Int→Ad5→Adz→Option R,Agw N i l d a n K=K b3 l d a n)(h4:∀K:Bool→OpL→List Int→Ad5→Adz→Option R,Aiu N i l d a n K=K b4 l d a n)(h5:∀K:Bool→OpL→List Int→Ad5→Adz→Option R,Aiv N i l d a n K=K b5 l d a n)(h6:∀K:Bool→OpL→List Int→Ad5→Adz→Option R,Ahv N i l d a n K=K b6 l d a n)(h7:∀K:Bool→OpL→List Int→Ad5→Adz→Option R,Agd N i l d a n K=K b7 l d a n)(h8:∀K:Bool→OpL→List Int→Ad5→Adz→Option R,Aiw N i l d a n K=K b8 l d a n)(K:Bool→OpL→List Int→Ad5→Adz→Int→Option R):Aah N l d a n i K=K (or8 b1 b2 b3 b4 b5 b6 b7 b8) l d a n i:=by
 obtain⟨k,hk⟩:∃k,N=k+9:=⟨N-9,by omega⟩
 unfold Aah Afq Aau Af5
 show IF5 N N 0 l d a n i _ _=_
 rw[show IF5 (R:=R) N N=IF5 N (k+9) by rw[←hk]]
 rw[i0];simp only[Akr,Bp2,h1]
 cases b1
 case true=>rfl
 rw[if_neg (by decide),i1];simp only[Ag0,Beq,h2]
 cases b2
 case true=>rfl
 rw[if_neg (by decide),i2];simp only[Ag1,Bev,h3]
 cases b3
 case true=>rfl
 rw[if_neg (by decide),i3];simp only[Ag2,Bez,h4]
 cases b4
 case true=>rfl
 rw[if_neg (by decide),i4];simp only[Ag3,Be3,h5]
 cases b5
 case true=>rfl
 rw[if_neg (by decide),i5];simp only[Ag4,Be5,h6]
 cases b6
 case true=>rfl
 rw[if_neg (by decide),i6];simp only[Ag5,Be7,h7]
 cases b7
 case true=>rfl
 rw[if_neg (by decide),i7];simp only[Ag6,Bfc,h8]
 cases b8
 case true=>rfl
 rw[if_neg (by decide),i8];rfl
def app(b:Bool)(y:List Int)(i:Nat):List Int:=if b=true then y++[(i:Int)] else y
theorem r32{R:Type}(N:Nat)(l:OpL)(i:Nat)(d y:List Int)(hy:y.length≤1000000)(b:Bool)(K:OpL→Int→List Int→List Int→Option R):Ab9 N l (i:Int) b d y K=K l (i:Int) d (app b y i):=by
 simp only[Ab9]
 cases b
 ·rfl
 ·rw[if_pos rfl,if_pos (by simp;omega)];rfl
theorem r30{R:Type}(N:Nat)(l:OpL)(i:Nat)(d y:List Int)(hy:y.length≤1000000)(hl:l.length≤1000000)(hi:i<l.length)(b:Bool)(op a c:Int)(K:OpL→Int→List Int→List Int→Option R) :
  Aca N l (i:Int) b d y op a c K=K l (i:Int) d (app (b||(op==2&&((Aak l (i+1)).1==3&&(Aak l (i+1)).2.1==a))) y i):=by
 simp only[Aca,Bi4,r32 N l i d y hy,Aco (show i<4611686018427387904 by omega),len]
 cases b
 case true=>rfl
 by_cases h:op=2
 ·subst h
  rw[if_neg (by decide),if_pos (by decide),At8 N (i+1) l 3 (by decide)]
  by_cases h3:(Aak l (i+1)).1=3
  ·have:=Az8 (l:=l) (i:=i+1) (by omega)
   rw[if_pos (by simpa using h3),if_pos (by omega),show ((Aak l (i+1)).1==3)=true by simpa using h3];rfl
  ·rw[if_neg (by simpa using h3),show ((Aak l (i+1)).1==3)=false by simpa using h3];rfl
 ·rw[if_neg (by decide),if_neg (by simpa using h),show (op==2)=false by simpa using h];rfl
theorem r28{R:Type}(N:Nat)(l:OpL)(i:Nat)(d y:List Int)(hy:y.length≤1000000)(hl:l.length≤1000000)(hi:i<l.length)(b:Bool)(op a c:Int)(K:OpL→Int→List Int→List Int→Option R) :
  Ace N l (i:Int) b d y op a c K=K l (i:Int) d (app (b||(op==1&&(Aec a&&((Aak l (i+1)).1==21||(Aak l (i+1)).1==22))||(op==2&&((Aak l (i+1)).1==3&&(Aak l (i+1)).2.1==a)))) y i):=by
 simp only[Ace,Bi5,r30 N l i d y hy hl hi,Aco (show i<4611686018427387904 by omega),C4m]
 cases b
 case true=>rfl
 by_cases h:op=1
 ·subst h
  rw[if_neg (by decide),if_pos (by decide),At8 N (i+1) l 21 (by decide),At8 N (i+1) l 22 (by decide)]
  cases Aec a
  ·rfl
  ·cases (Aak l (i+1)).1==21<;>cases (Aak l (i+1)).1==22<;>rfl
 ·rw[if_neg (by decide),if_neg (by simpa using h),show (op==1)=false by simpa using h];rfl
theorem r26{R:Type}(N:Nat)(l:OpL)(i:Nat)(d y:List Int)(hy:y.length≤1000000)(hl:l.length≤1000000)(hi:i<l.length)(hd:d.length=l.length)(h24:(Aak l 0).1=24)(b:Bool)(op a c:Int)(ho:op=(Aak l i).1)(K:OpL→Int→List Int→List Int→Option R) :
  Ack N l (i:Int) b d y op a c K=K l (i:Int) d (app (b||(op==18&&(d.getD i 0==a && !((Aak l (i-1)).1==19))||(op==1&&(Aec a&&((Aak l (i+1)).1==21||(Aak l (i+1)).1==22))||(op==2&&((Aak l (i+1)).1==3&&(Aak l (i+1)).2.1==a))))) y i):=by
 simp only[Ack,Bi6,r28 N l i d y hy hl hi,len]
 cases b
 case true=>rfl
 by_cases h:op=18
 ·have h0:0<i:=by
   refine Nat.pos_of_ne_zero fun e=>?_
   rw[e,h24]at ho;omega
  subst h
  rw[if_neg (by decide),if_pos (by decide),if_pos (by omega),show wi ((i:Int)-1)=((i-1:Nat):Int) by rw[Aeh (by omega) (by omega)];omega,At8 N (i-1) l 19 (by decide)]
  rw[show List.getD d (Int.toNat (i:Int)) (0:Int)=d.getD i 0 from rfl]
  cases d.getD i 0==a
  ·rfl
  ·cases (Aak l (i-1)).1==19<;>rfl
 ·rw[if_neg (by decide),if_neg (by simpa using h),show (op==18)=false by simpa using h];rfl
theorem r24{R:Type}(N:Nat)(l:OpL)(i:Nat)(d y:List Int)(hy:y.length≤1000000)(hl:l.length≤1000000)(hN:l.length<N)(hi:i<l.length)(hd:d.length=l.length)(h24:(Aak l 0).1=24)(b:Bool)(op a c:Int)(ho:op=(Aak l i).1)(ha:op=19→0<a)(K:OpL→Int→List Int→List Int→Option R) :
  Acf N l (i:Int) b d y op a c K=K l (i:Int) d (app (b||(op==19 && !(l.any fun x=>decide (0<Aaj x)&&a==Aaj x)||(op==18&&(d.getD i 0==a && !((Aak l (i-1)).1==19))||(op==1&&(Aec a&&((Aak l (i+1)).1==21||(Aak l (i+1)).1==22))||(op==2&&((Aak l (i+1)).1==3&&(Aak l (i+1)).2.1==a)))))) y i):=by
 simp only[Acf,Bi9,r26 N l i d y hy hl hi hd h24 _ op a c ho]
 cases b
 case true=>rfl
 by_cases h:op=19
 ·rw[if_neg (by decide),if_pos (by simpa using h),Dcp N l (by omega) hN a (ha h),show (op==19)=true by simpa using h];rfl
 ·rw[if_neg (by decide),if_neg (by simpa using h),show (op==19)=false by simpa using h];rfl
theorem r22{R:Type}(N:Nat)(l:OpL)(i:Nat)(d y:List Int)(hy:y.length≤1000000)(hl:l.length≤1000000)(hN:l.length<N)(hi:i<l.length)(hd:d.length=l.length)(h24:(Aak l 0).1=24)(b:Bool)(op a c:Int)(ho:op=(Aak l i).1)(ha:op=19→0<a)(K:OpL→Int→List Int→List Int→Option R) :
  Acl N l (i:Int) b d y op a c K=K l (i:Int) d (app (b||(op != 19&&(op != 24&&Cds l i)||(op==19 && !(l.any fun x=>decide (0<Aaj x)&&a==Aaj x)||(op==18&&(d.getD i 0==a && !((Aak l (i-1)).1==19))||(op==1&&(Aec a&&((Aak l (i+1)).1==21||(Aak l (i+1)).1==22))||(op==2&&((Aak l (i+1)).1==3&&(Aak l (i+1)).2.1==a))))))) y i):=by
 simp only[Acl,Bja,r24 N l i d y hy hl hN hi hd h24 _ op a c ho ha,Df0 N l i hi (show l.length≤1099511627776 by omega)]
 cases b
 case true=>rfl
 cases op != 19
 ·rfl
 cases op != 24<;>rfl
theorem Dcv{N:Nat}{nd:Int}{l:OpL}{procs labels:Int}{st:List Int}(V:VC N nd l procs labels st)(hN:40<N)(d:List Int)(hd:d.length=l.length)(at_:Ad5)(nm:Adz)(hat:∀n,A1q n at_=if An5 n 0 l = -1 then 0 else An5 n 0 l)(hnm:∀n,A4a n nm=l.any fun x=>decide (0<Aaj x)&&n==Aaj x)(i:Nat)(hi:i<l.length) :
  ∃b:Bool,(∀(R:Type) (K:Bool→OpL→List Int→Ad5→Adz→Int→Option R),Aah N l d at_ nm (i:Int) K=K b l d at_ nm (i:Int))∧
   ∀(S:Type) (k:Nat) (y:List Int) (c:List Int→Option S),y.length≤1000000→Abt N (k+1) l (i:Int) d y c=Abt N k l ((i+1:Nat):Int) d (app b y i) c:=by
 have hl:=V.l1
 have hNl:l.length<N:=by have:=V.l2;omega
 have h24:=V.h24 hi
 obtain⟨b3,c1,c2⟩:=C9w V d at_ nm hat i hi
 refine⟨or8 (Cek l i) (Cem l i) b3 (Cq7 l i) (C0a l i) (Cq8 l d i) (Bo5 l i) (Cq9 l i),fun R K=>?_,fun S k y c hy=>?_⟩
 ·exact Dmc N (by omega) l d at_ nm i _ _ _ _ _ _ _ _ (Dfy N i (by omega) l d at_ nm) (Dfz N l i hi (by omega) hNl d at_ nm) (c1 R) (Dh8 N l i hi (by omega) d at_ nm) (Did N l i hi d at_ nm hnm) (still_eq N l i hi (by omega) d hd h24 at_ nm) (C9r N l i hi (by omega) d at_ nm) (Dh9 N l i hi (by omega) d at_ nm) K
 ·have hin:(0:Int)≤(i:Int)∧(i:Int)<(l.length:Int):=by omega
  have ha:(Aak l i).1=19→0<(Aak l i).2.1:=fun h=>by have:=Bmt (V.numAt hi) h;omega
  simp only[Abt,A7u,len,if_pos hin,C5s N hN i (show i<4611686018427387000 by omega) l V.oi,Dh7 N l i hi (show l.length≤1099511627776 by omega) hNl,c2]
  rw[if_pos (by simp only[decide_eq_true_eq];omega)]
  rw[show List.getD l (Int.toNat (i:Int)) (0,0,0)=Aak l i from rfl]
  simp only[r22 N l i d y hy hl hNl hi hd h24 _ _ _ _ rfl ha,Aco (show i<4611686018427387904 by omega)]
  have e4:((Aak l i).1 != 19&&((Aak l i).1 != 24&&Cds l i))=Cq7 l i:=by
   unfold Cds Cq7
   cases (Aak l i).1 != 19<;>cases (Aak l i).1 != 24<;>cases decide (0<i)<;>cases Atq l (i-1)<;>rfl
  have e8:((Aak l i).1==2&&((Aak l (i+1)).1==3&&(Aak l (i+1)).2.1==(Aak l i).2.1))=Cq9 l i:=by
   unfold Cq9;rw[Bool.beq_comm (a:=(Aak l i).2.1)]
  rw[e4,e8]
  unfold or8
  rw[show ((Aak l i).1==19 && !(l.any fun x=>decide (0<Aaj x)&&(Aak l i).2.1==Aaj x))=C0a l i from rfl,show ((Aak l i).1==18&&(d.getD i 0==(Aak l i).2.1 && !((Aak l (i-1)).1==19)))=Cq8 l d i from rfl,show ((Aak l i).1==1&&(Aec (Aak l i).2.1&&((Aak l (i+1)).1==21||(Aak l (i+1)).1==22)))=Bo5 l i from rfl]
  cases Cek l i
  case true=>rfl
  cases Cem l i
  case true=>rfl
  rfl
def fnd(f:Nat→Bool):Nat→Nat→List Int→List Int
 | _,0,y=>y
 |i,m+1,y=>fnd f (i+1) m (app (f i) y i)
theorem Cuu(b:Bool)(y:List Int)(i:Nat):(app b y i).length≤y.length+1:=by unfold app;split<;>simp
theorem C9x{R:Type}(N:Nat)(l:OpL)(hl:l.length≤1000000)(d:List Int)(at_:Ad5)(nm:Adz)(f:Nat→Bool)(hf:∀i,i<l.length→∀K:Bool→OpL→List Int→Ad5→Adz→Int→Option R,Aah N l d at_ nm (i:Int) K=K (f i) l d at_ nm (i:Int))(K:List Int→Option R) :
  ∀(m k i:Nat) (y:List Int),m<k→i+m=l.length→y.length≤i→Agx N k (len l) (i:Int) y l d at_ nm K=K (fnd f i m y):=by
 intro m
 induction m with
 |zero=>
  intro k i y hk hi hy
  obtain⟨k,rfl⟩:∃q,k=q+1:=⟨k-1,by omega⟩
  simp only[Agx,Ba8,len]
  rw[if_neg (by simp only[decide_eq_true_eq];omega)];rfl
 |succ m ih=>
  intro k i y hk hi hy
  obtain⟨k,rfl⟩:∃q,k=q+1:=⟨k-1,by omega⟩
  have ha:=Cuu (f i) y i
  simp only[Agx,Ba8,hf i (show i<l.length by omega)]
  rw[if_pos (by simp only[len,decide_eq_true_eq];omega),Aco (by omega),fnd,←ih k (i+1) (app (f i) y i) (by omega) (by omega) (by omega)]
  cases f i
  ·rfl
  ·rw[if_pos rfl,if_pos (by simp;omega)];rfl
theorem C9y{S:Type}(N:Nat)(l:OpL)(hl:l.length≤1000000)(d:List Int)(f:Nat→Bool)(hf:∀i,i<l.length→∀(k:Nat) (y:List Int) (a:List Int→Option S),y.length≤1000000→Abt N (k+1) l (i:Int) d y a=Abt N k l ((i+1:Nat):Int) d (app (f i) y i) a)(K:List Int→Option S) :
  ∀(m k i:Nat) (y:List Int),m<k→i+m=l.length→y.length≤i→Abt N k l (i:Int) d y K=K (fnd f i m y):=by
 intro m
 induction m with
 |zero=>
  intro k i y hk hi hy
  obtain⟨k,rfl⟩:∃q,k=q+1:=⟨k-1,by omega⟩
  simp only[Abt,A7u,len]
  rw[if_neg (by simp only[decide_eq_true_eq];omega)];rfl
 |succ m ih=>
  intro k i y hk hi hy
  obtain⟨k,rfl⟩:∃q,k=q+1:=⟨k-1,by omega⟩
  have ha:=Cuu (f i) y i
  rw[hf i (by omega) k y K (by omega),ih k (i+1) _ (by omega) (by omega) (by omega),fnd]
theorem C5v{R:Type}(N:Nat)(y:List Int)(hy:y.length≤1000000)(b:Bool→Option R)(a:Option R):∀(m k i:Nat),m<k→i+m=y.length→Af1 N k y y (i:Int) b a=a:=by
 intro m
 induction m with
 |zero=>
  intro k i hk hi
  obtain⟨k,rfl⟩:∃q,k=q+1:=⟨k-1,by omega⟩
  simp only[Af1,A38,len]
  rw[if_neg (by simp only[decide_eq_true_eq];omega)]
 |succ m ih=>
  intro k i hk hi
  obtain⟨k,rfl⟩:∃q,k=q+1:=⟨k-1,by omega⟩
  have hin:(0:Int)≤(i:Int)∧(i:Int)<(y.length:Int):=by omega
  simp only[Af1,A38,len,if_pos hin]
  rw[if_pos (by simp only[decide_eq_true_eq];omega),if_neg (by simp),Aco (by omega),ih k (i+1) (by omega) (by omega)]
theorem Dcw{R:Type}(N:Nat)(y:List Int)(hy:y.length≤1000000)(hN:y.length<N)(K:Bool→Option R):Alz N y y K=K true:=by
 simp only[Alz,Bml]
 rw[if_neg (by simp)]
 exact C5v N y hy (fun a=>K a) (K true) y.length N 0 (by omega) (by omega)
theorem C6w(f:Nat→Bool):∀(m i:Nat) (y:List Int),(fnd f i m y).length≤y.length+m
 |0,_,y=>Nat.le_refl _
 |m+1,i,y=>by
  have h1:=C6w f m (i+1) (app (f i) y i)
  have h2:=Cuu (f i) y i
  rw[fnd];omega
theorem Dmd{R:Type}{N:Nat}{nm:List UInt8}{data:Adt}{gl:Af7}(F:Cq1 N nm data gl)(l:OpL)(hl:l.length≤1000)(ho:Cel l)(procs labels:Int) :
  ∃(e:Int) (y:List Int),y.length≤1000∧(∀K:Int→List Int→Option R,Aqi N nm data l gl procs labels K=K e y)∧∀K:Int→List Int→Option R,An4 N nm data l gl procs labels K=K e y:=by
 have hN:=F.N1
 by_cases hc:Bxl nm data l gl procs labels=0
 case neg=>
  refine⟨Bxl nm data l gl procs labels,[],by simp,fun K=>?_,fun K=>?_⟩
  ·unfold Aqi Bm9 Ajh Bax
   rw[B25 F,if_pos (by simpa using hc)]
   exact if_pos (by simpa using hc)
  ·unfold An4 Bjj Ac0 Bbb
   rw[B28 F,if_pos (by simpa using hc)]
   exact if_pos (by simpa using hc)
 obtain⟨st,V⟩:∃st,VC N data.length l procs labels st:=by
  unfold Bxl at hc
  split at hc
  ·omega
  rename_i hlg
  split at hc
  case isFalse=>omega
  rename_i hco
  split at hc
  case isFalse=>omega
  rename_i hst
  have hlg:Bag data l procs labels=false:=by simpa using hlg
  simp only[Bag,Bool.or_eq_false_iff,decide_eq_false_iff_not]at hlg
  simp only[Bo1,Bool.and_eq_true,decide_eq_true_eq]at hco
  obtain⟨⟨⟨⟨_,hp0⟩,hl0⟩,hn⟩,hco⟩:=hco
  have hall:∀o,o∈l→Ajs data.length procs labels o=true:=List.all_eq_true.mp hn
  unfold Bah at hst
  cases hp:An8 l procs labels with
  |none=>rw[hp]at hco;cases hco
  |some r=>
   obtain⟨b,o,a⟩:=r
   rw[hp]at hco hst
   simp only[Bool.and_eq_true]at hco
   refine⟨o,by omega,by omega,hco.1.1.2.1,hco.1.1.2.2,hall,by omega,?_,hst,ho⟩
   unfold An8 at hp
   split at hp
   ·cases hp
   ·rename_i p m o' a' he
    exact (B4r l 0 0 0 _ _ _ he (by omega) (fun x hx h19=>by
     have:=Bmt (hall x hx) h19
     rw[List.length_replicate];omega)).1
 have hlen:=C6v l 0
 obtain⟨at',nm',e1,e2,e3⟩:=Df2 N l (by omega) (by omega) V.hu (dpF 0 l)
 have hex:∀i,∃b:Bool,i<l.length→(∀(R:Type) (K:Bool→OpL→List Int→Ad5→Adz→Int→Option R),Aah N l (dpF 0 l) at' nm' (i:Int) K=K b l (dpF 0 l) at' nm' (i:Int))∧
   ∀(S:Type) (k:Nat) (y:List Int) (j:List Int→Option S),y.length≤1000000→Abt N (k+1) l (i:Int) (dpF 0 l) y j=Abt N k l ((i+1:Nat):Int) (dpF 0 l) (app b y i) j:=by
  intro i
  by_cases hi:i<l.length
  ·obtain⟨b,hb⟩:=Dcv V (by omega) (dpF 0 l) hlen at' nm' e1 e2 i hi
   exact⟨b,fun _=>hb⟩
  ·exact⟨false,fun h=>absurd h hi⟩
 obtain⟨f,hf⟩:=Classical.axiomOfChoice hex
 refine⟨0,fnd f 0 l.length [],by have:=C6w f l.length 0 [];simp at this;omega,fun K=>?_,fun K=>?_⟩
 ·unfold Aqi Bm9 Ajh Bax Ab2
  rw[B25 F,hc,if_neg (by decide)]
  have h:=Dct (R:=R) N data.length procs labels st l V.l1 V.pp V.hall (fun d=>if ((0:Int) != 0)=true then K 0 [] else Ak8 N l d (fun c n q s=>Ai8 N (Agx N N (len l) 0 [] c n q s (fun g=>K 0 g)))) l.length N 0 0 [] (by omega) (by omega) (by omega) rfl (by rw[List.drop_zero];exact V.hs)
  refine Eq.trans h ?_
  rw[if_neg (by decide),List.nil_append,List.drop_zero,e3]
  exact C9x N l V.l1 (dpF 0 l) at' nm' f (fun i hi=>(hf i hi).1 R) (fun g=>K 0 g) l.length N 0 [] (by omega) (by omega) (by simp)
 ·unfold An4 Bjj Ac0 Bbb
  rw[B28 F,hc,if_neg (by decide)]
  have h:=Dcu (R:=R) N data.length nm data gl procs labels st l V.l1 V.pp V.hall (fun d=>if ((0:Int) != 0)=true then K 0 [] else Abt N N l 0 d [] (fun c=>K 0 c)) l.length N 0 0 [] (by omega) (by omega) (by omega) rfl (by rw[List.drop_zero];exact V.hs)
  refine h.trans ?_
  rw[if_neg (by decide),List.nil_append,List.drop_zero]
  exact C9y N l V.l1 (dpF 0 l) f (fun i hi=>(hf i hi).2 R) (fun c=>K 0 c) l.length N 0 [] (by omega) (by omega) (by simp)
theorem Die{nm:List UInt8}{data:Adt}{l:OpL}{gl:Af7}{procs labels:Int}(h:Wf Crc (nm,data,l,gl,procs,labels)):Cel l:=by
 obtain⟨_,_,h3,_⟩:=h
 intro x hx
 obtain⟨i,hi,rfl⟩:=List.getElem_of_mem hx
 have h:=h3.2 i hi
 have e:List.getD l i (Ty.dflt (.pair (.int .i64) (.pair (.int .i64) (.int .i64))))=l[i]:=by rw[List.getD_eq_getElem?_getD,List.getElem?_eq_getElem hi];rfl
 rw[e]at h
 exact C05 h.2.1
theorem Cdu{R:Type}{nm:List UInt8}{data:Adt}{l:OpL}{gl:Af7}{procs labels:Int}(h:C4q nm data l gl procs labels)(ho:Cel l)(K:Bool→Option R) :
  Au0 200000 nm data l gl procs labels K=K true:=by
 simp only[Au0,Bc5]
 rw[Df4 200000 nm h.n data h.dd h.d (by omega)]
 cases hh:Cdt nm data l gl 400
 case true=>rfl
 rw[if_neg (by decide)]
 obtain⟨F,hl,_,_,_⟩:=Df5 h hh
 obtain⟨e,y,hy,e1,e2⟩:=Dmd (R:=R) F l (by omega) ho procs labels
 rw[e1,e2,if_pos (by simp),Dcw 200000 y (by omega) (by omega),if_pos rfl]
theorem Cuv(a:Ty.den Crc)(c:Wf _ a) :
  ∃N,(Bsk N).run AV [Czt true Crc a] [] (fun v _ _=>some v)=some (vb true) :=
 ⟨200000,Cdu (Dlk c) (Die c) (fun b=>some (vb b))⟩
end Q

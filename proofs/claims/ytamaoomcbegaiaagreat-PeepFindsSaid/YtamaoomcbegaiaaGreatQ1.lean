/- Part Q1 of the proof. -/
import Derived.Test.YtamaoomcbegaiaaGreatO
import Derived.Test.YtamaoomcbegaiaaGreatX7
open Go Go.AX Go.Proofs
namespace Q
def B4n(c:UInt8):Bool:=c==10||c==9||c==42||c==34
def A0g(c:UInt8):Bool := !B4n c&&(decide (c.toNat<32)||decide (126<c.toNat))
def Bs5(c:UInt8):List Int:=if c=10 then [42,110] else if c=9 then [42,116] else if c=42 then [42,42] else if c=34 then [42,34] else [(c.toNat:Int)]
def Brj(s:List UInt8):List Int:=s.flatMap Bs5
def Axw(s:List UInt8):Int:=if s.any A0g then 3 else if 100<s.length then 2 else 0
theorem Dm4(c:UInt8):B1d [10,9,42,34] ((c.toNat:Nat):Int)=if c=10 then 0 else if c=9 then 1 else if c=42 then 2 else if c=34 then 3 else -1:=by
 have e:(((c.toNat:Nat):Int)).toNat.toUInt8=c:=by simp
 unfold B1d
 rw[e]
 simp only[Lib.indexByte,beq_iff_eq]
 by_cases h1:c=10
 ·subst h1;rfl
 by_cases h2:c=9
 ·subst h2;rfl
 by_cases h3:c=42
 ·subst h3;rfl
 by_cases h4:c=34
 ·subst h4;rfl
 simp[h1,h2,h3,h4,Ne.symm h1,Ne.symm h2,Ne.symm h3,Ne.symm h4]
theorem Dbx(c:UInt8):(Bs5 c).length≤2∧Awj (Bs5 c)=true:=by
 unfold Bs5
 have:c.toNat<256:=c.toNat_lt
 repeat' split
 all_goals (constructor<;>simp[Awj]<;>omega)
theorem Bjy(a b:List Int):Awj (a++b)=(Awj a&&Awj b):=by simp[Awj]
theorem Bnc{R:Type}(N:Nat)(v:Int)(b:List Int)(K:List Int→Option R)(h:b.length+1≤70368744177664):Aa3 N v b K=K (b++[v]):=by
 unfold Aa3
 rw[if_pos (by simp;omega)]
theorem Dld{R:Type}(N:Nat)(v:Int)(b:List Int)(K:List Int→Option R)(h:b.length+1≤70368744177664):Acv N v b K=K (b++[v]):=by
 unfold Acv
 rw[if_pos (by simp;omega)]
theorem Cqy{R:Type}(N:Nat)(s:List UInt8)(hs:s.length≤1099511627776)(a:List UInt8→Int→Option R)(d:List UInt8→List Int→Option R):∀(m k i:Nat) (b:List Int),m<k→i+m=s.length→b.length≤1+2*i→
  Ai3 N k s s.length i b a d=if (s.drop i).any A0g then a [] 3 else d s (b++Brj (s.drop i))
 |m,0,_,_,hk,_,_=>by omega
 |0,k+1,i,b,_,hi,_=>by
  simp only[Ai3,Bdk]
  rw[if_neg (by simp;omega),List.drop_eq_nil_of_le (by omega)]
  simp[Brj]
 |m+1,k+1,i,b,hk,hi,hb=>by
  simp only[Ai3,Bdk]
  have hin:(0:Int)≤i∧(i:Int)<len s:=by simp only[len];omega
  rw[if_pos (by simp;omega),if_pos hin]
  have hlt:i<s.length:=by omega
  have hd:s.drop i=s[i]::s.drop (i+1):=List.drop_eq_getElem_cons hlt
  have hg:s.getD (Int.toNat (i:Int)) 0=s[i]:=by
   rw[List.getD_eq_getElem?_getD];simp[hlt]
  rw[hg,hd]
  generalize s[i]=c
  have hc:=c.toNat_lt
  have hw:wi ((i:Int)+1)=((i+1:Nat):Int):=by
   simp only[wi];rw[w64 (by omega)];rfl
  have ih:=fun b' (hb':b'.length≤1+2*(i+1))=>Cqy N s hs a d m k (i+1) b' (by omega) (by omega) hb'
  rw[Dm4]
  by_cases h1:c=10
  ·subst h1
   rw[if_pos rfl,if_pos (by decide),Bnc _ _ _ _ (by omega),if_pos (by decide),Bnc _ _ _ _ (by simp;omega),hw,ih _ (by simp;omega)]
   simp[A0g,B4n,Brj,Bs5]
  rw[if_neg h1]
  by_cases h2:c=9
  ·subst h2
   rw[if_pos rfl,if_pos (by decide),Bnc _ _ _ _ (by omega),if_pos (by decide),Bnc _ _ _ _ (by simp;omega),hw,ih _ (by simp;omega)]
   simp[A0g,B4n,Brj,Bs5]
  rw[if_neg h2]
  by_cases h3:c=42
  ·subst h3
   rw[if_pos rfl,if_pos (by decide),Bnc _ _ _ _ (by omega),if_pos (by decide),Bnc _ _ _ _ (by simp;omega),hw,ih _ (by simp;omega)]
   simp[A0g,B4n,Brj,Bs5]
  rw[if_neg h3]
  by_cases h4:c=34
  ·subst h4
   rw[if_pos rfl,if_pos (by decide),Bnc _ _ _ _ (by omega),if_pos (by decide),Bnc _ _ _ _ (by simp;omega),hw,ih _ (by simp;omega)]
   simp[A0g,B4n,Brj,Bs5]
  rw[if_neg h4,if_neg (by decide)]
  have hq:B4n c=false:=by simp[B4n,h1,h2,h3,h4]
  by_cases h5:c.toNat<32
  ·rw[if_pos (by simp;omega)]
   simp[A0g,hq,h5]
  rw[if_neg (by simp;omega)]
  by_cases h6:126<c.toNat
  ·rw[if_pos (by simp;omega)]
   simp[A0g,hq,h6]
  rw[if_neg (by simp;omega),Bnc _ _ _ _ (by omega),hw,ih _ (by simp;omega)]
  simp[A0g,hq,h5,h6,Brj,Bs5,h1,h2,h3,h4]
theorem C9c(s:List UInt8):Awj (Brj s)=true∧(Brj s).length≤2*s.length:=by
 induction s with
 |nil=>simp[Brj,Awj]
 |cons c s ih=>
  have:=Dbx c
  simp only[Brj,List.flatMap_cons,Bjy,List.length_append,List.length_cons]at ih ⊢
  rw[this.2,ih.1]
  exact⟨rfl,by omega⟩
theorem Cdl(N:Nat)(s:List UInt8)(hs:s.length≤1099511627776)(hN:s.length<N):∃r,∀{R:Type} (K:List UInt8→Int→Option R),Aed N s K=K r (Axw s):=by
 have key:∀{R:Type} (K:List UInt8→Int→Option R),Aed N s K=K (if s.any A0g then [] else if 100<s.length then [] else Bsw (34::Brj s++[34])) (Axw s):=by
  intro R K
  simp only[Aed,B0v]
  rw[Dld _ _ _ _ (by simp)]
  simp only[len]
  have:=Cqy N s hs (fun b c=>K b c) (fun d e=>if (decide ((d.length:Int) > 100))=true then K [] 2 else Aa3 N 34 e fun a=>if 0<a.length∧a.length≤70368744177664∧Awj a=true then K (Bsw a) 0 else none) s.length N 0 ([]++[34]) hN (by omega) (by simp)
  rw[show ((0:Nat):Int)=0 from rfl]at this
  rw[this]
  simp only[List.drop_zero,Axw]
  by_cases h1:s.any A0g=true
  ·simp only[if_pos h1]
  simp only[if_neg h1]
  by_cases h2:100<s.length
  ·rw[if_pos (by simp;omega),if_pos h2,if_pos h2]
  rw[if_neg (by simp;omega),if_neg h2,if_neg h2]
  have hq:=C9c s
  rw[Bnc _ _ _ _ (by simp;omega),if_pos]
  ·rfl
  ·refine⟨by simp,by simp;omega,?_⟩
   rw[Bjy,Bjy,hq.1];rfl
 exact⟨_,fun K=>key K⟩
def Amq(n:Int):Bool:=decide (-2147483648≤n)&&decide (n≤2147483647)
def inB(v a b:Int):Bool:=decide (a≤v)&&decide (v≤b)
def Ao8:List (List UInt8×Int×Int×Int):=[([],0,0,0),([110,117,109],1,0,1),([108,111,99,97,108],2,0,1),([112,117,116,108],2,1,0),([97,100,100,114,108],2,0,1),
 ([103,108,111,98,97,108],3,0,1),([112,117,116,103],3,1,0),([97,100,100,114,103],3,0,1),([115,116,97,116,105,99],4,0,1),([112,117,116,115],4,1,0),([97,100,100,114,115],4,0,1),
 ([112,114,111,99],5,0,1),([108,111,97,100],0,1,1),([115,116,111,114,101],0,2,0),([103,101,116,98],0,2,1),([112,117,116,98],0,3,0),([98,105,110],7,2,1),([117,110],8,1,1),
 ([115,116,97,99,107],2,0,0),([108,97,98,101,108],6,0,0),([106,117,109,112],6,0,0),([116,114,117,101],6,1,0),([102,97,108,115,101],6,1,0),([99,97,108,108],2,0,0),
 ([101,110,116,101,114],5,0,0),([114,101,116,117,114,110],0,1,0),([98,97,99,107],0,0,0),([114,101,115,117,108,116],6,1,0),([116,97,107,101],2,0,0),([115,119,105,116,99,104],6,1,0),([99,97,115,101],1,0,0)]
def kT(op:Int):List UInt8×Int×Int×Int:=Ao8.getD op.toNat ([],0,0,0)
def A2g(op n m nd procs labels:Int):Bool :=
 if op=1 then Amq n&&m==0
 else if op=2∨op=3∨op=4∨op=18∨op=23∨op=28 then inB n 0 4000&&m==0
 else if op=5∨op=6∨op=7 then inB n 0 199&&m==0
 else if op=8∨op=9∨op=10 then inB n 0 (nd-1)&&m==0
 else if op=11 then inB n 1 procs&&m==0
 else if op=16 then inB n 1 17&&m==0
 else if op=17 then (n==18||n==19)&&m==0
 else if op=19∨op=20∨op=21∨op=22∨op=27 then inB n 1 labels&&m==0
 else if op=24 then inB n 1 procs&&inB m 0 8
 else if op=29 then inB n 1 labels&&inB m 0 1000
 else if op=30 then Amq n&&inB m 1 labels
 else n==0&&m==0
theorem A46{R:Type}(N:Nat)(v a b:Int)(K:Bool→Option R):Ab6 N v a b K=K (inB v a b):=by
 unfold Ab6 inB
 by_cases h:a≤v
 ·rw[if_pos (by simpa using h)];simp[h]
 ·rw[if_neg (by simpa using h)];simp[h]
theorem Atp{R:Type}(N:Nat)(v a b:Int)(K:Bool→Option R):Aav N v a b K=K (inB v a b):=by
 unfold Aav inB
 by_cases h:a≤v
 ·rw[if_pos (by simpa using h)];simp[h]
 ·rw[if_neg (by simpa using h)];simp[h]
theorem B6f{R:Type}(N:Nat)(v:Int)(K:Bool→Option R):Agu N v K=K (Amq v):=by
 simp only[Agu,Bue,A46];rfl
theorem ifT{R:Type}(a b:Bool)(K:Bool→Option R):(if a=true then K b else K false)=K (a&&b):=by cases a<;>rfl
theorem Dl6{R:Type}(N:Nat)(ok:Bool)(op n m:Int)(nm:List UInt8)(data:List (List UInt8×Bool×List Int))(ops:List (Int×Int×Int))(gl:List (Int×Int))(procs labels:Int)(K:Bool→Option R) :
  Ac2 N ok op n m nm data ops gl procs labels K=K (ok&&(if op=24 then inB m 0 8 else if op=29 then inB m 0 1000 else if op=30 then inB m 1 labels else m==0)):=by
 simp only[Ac2,A74,A46,ifT,beq_iff_eq]
 repeat' split
 all_goals rfl
theorem B21{op:Int}(h:1≤op∧op≤30):op=1∨op=2∨op=3∨op=4∨op=5∨op=6∨op=7∨op=8∨op=9∨op=10∨op=11∨op=12∨op=13∨op=14∨op=15∨op=16∨op=17∨op=18∨op=19∨op=20∨op=21∨op=22∨op=23∨op=24∨op=25∨op=26∨op=27∨op=28∨op=29∨op=30:=by omega
theorem Cmi{R:Type}(N:Nat)(op n m:Int)(nm:List UInt8)(data:List (List UInt8×Bool×List Int))(ops:List (Int×Int×Int))(gl:List (Int×Int))(procs labels:Int)(hd:data.length≤1000000)(h:1≤op∧op≤30)(K:Bool→Option R) :
  Ae4 N op n m nm data ops gl procs labels (kT op).1 (kT op).2.1 (kT op).2.2.1 (kT op).2.2.2 K=K (A2g op n m data.length procs labels):=by
 have hw:wi (len data-1)=(data.length:Int)-1:=by simp only[wi,len];rw[w64 (by omega)]
 rcases B21 h with rfl|rfl|rfl|rfl|rfl|rfl|rfl|rfl|rfl|rfl|rfl|rfl|rfl|rfl|rfl|rfl|rfl|rfl|rfl|rfl|rfl|rfl|rfl|rfl|rfl|rfl|rfl|rfl|rfl|rfl <;>
  simp only[Ae4,Bhi,Dl6,A46,B6f,hw]<;>simp[kT,Ao8,A2g]
 by_cases hn:n=18
 ·simp[hn]
 ·have:(n==18)=false:=by simpa using hn
  simp[hn,this]
theorem Dby{op n m nd procs labels:Int}(hd:nd≤2000)(hp:procs≤200)(hl:labels≤20000)(h:A2g op n m nd procs labels=true):Amq n=true∧Amq m=true:=by
 unfold A2g at h
 repeat' split at h
 all_goals
  simp only[inB,Amq,Bool.and_eq_true,Bool.or_eq_true,decide_eq_true_eq,beq_iff_eq]at h ⊢
  omega
theorem C9d{R:Type}(N:Nat)(op n m:Int)(nm:List UInt8)(data:List (List UInt8×Bool×List Int))(ops:List (Int×Int×Int))(gl:List (Int×Int))(procs labels:Int)(hd:data.length≤1000000)(h:1≤op∧op≤30)(hn:Amq n=true)(hm:Amq m=true)(K:Bool→Option R) :
  Agc N nm data ops gl procs labels op n m K=K (A2g op n m data.length procs labels):=by
 have hw:wi (len data-1)=(data.length:Int)-1:=by simp only[wi,len];rw[w64 (by omega)]
 have h1:inB n (-2147483648) 2147483647=true:=hn
 have h2:inB m (-2147483648) 2147483647=true:=hm
 have h0:inB op 1 30=true:=by simp[inB,h]
 simp only[Agc,Azm,Atp,h0,h1,h2,Bool.not_true,Bool.false_eq_true,if_false]
 clear h0 h1 h2
 rcases B21 h with rfl|rfl|rfl|rfl|rfl|rfl|rfl|rfl|rfl|rfl|rfl|rfl|rfl|rfl|rfl|rfl|rfl|rfl|rfl|rfl|rfl|rfl|rfl|rfl|rfl|rfl|rfl|rfl|rfl|rfl <;>
  simp[Aay,A9j,Acn,A9i,Acm,A9h,Ab7,A9g,Aaw,Atp,hw,A2g,hn,ifT]
 all_goals
  by_cases hz:m=0
  ·(try simp[hz])
   try
    by_cases hy:n=18
    ·simp[hy]
    ·have hy':(n==18)=false:=by simpa using hy
     simp[hy,hy']
  ·have hz':(m==0)=false:=by simpa using hz
   (try simp[hz,hz'])
theorem Cmj{R:Type}(N:Nat)(op n m:Int)(nm:List UInt8)(data:List (List UInt8×Bool×List Int))(ops:List (Int×Int×Int))(gl:List (Int×Int))(procs labels:Int)(hd:data.length≤2000)(hp:procs≤200)(hl:labels≤20000)(K:Bool→Option R) :
  Agc N nm data ops gl procs labels op n m K=K (inB op 1 30&&A2g op n m data.length procs labels):=by
 by_cases h:1≤op∧op≤30
 ·by_cases hw:Amq n=true∧Amq m=true
  ·rw[C9d N op n m nm data ops gl procs labels (by omega) h hw.1 hw.2]
   simp[inB,h]
  ·have hf:A2g op n m data.length procs labels=false:=by
    cases e:A2g op n m data.length procs labels with
    |false=>rfl
    |true=>exact absurd (Dby (by omega) hp hl e) hw
   have h0:inB op 1 30=true:=by simp[inB,h]
   have h1:inB n (-2147483648) 2147483647=Amq n:=rfl
   have h2:inB m (-2147483648) 2147483647=Amq m:=rfl
   rw[hf]
   simp only[Agc,Azm,Atp,h0,h1,h2]
   by_cases h3:Amq n=true
   ·have h4:Amq m=false:=by
     cases e:Amq m with
     |false=>rfl
     |true=>exact absurd ⟨h3,e⟩ hw
    simp[h3,h4]
   ·have h3:Amq n=false:=by simpa using h3
    simp[h3]
 ·have h0:inB op 1 30=false:=by
   simp only[inB,Bool.and_eq_false_iff,decide_eq_false_iff_not];omega
  simp only[Agc,Azm,Atp,h0]
  simp
abbrev Adt:=List (List UInt8×Bool×List Int)
abbrev OpL:=List (Int×Int×Int)
abbrev Af7:=List (Int×Int)
def Cdm(d:List UInt8×Bool×List Int):Int:=d.2.2.length+(if d.2.1=true then (d.1.length+2)/2 else 0)
def B4o(l:Adt):Int:=(l.map Cdm).sum
def Bag(data:Adt)(ops:OpL)(procs labels:Int):Bool :=
 decide (40000<ops.length)||decide (2000<data.length)||decide (200<procs)||decide (20000<labels)||decide (7800<B4o data)
def Bo0(l:Adt):Prop:=∀d,d∈l→d.1.length≤140737488351232∧d.2.2.length≤140737488351232
theorem C9e{R:Type}(N:Nat)(data:Adt)(hd:Bo0 data)(hl:data.length≤2000)(K:Int→Option R):∀(m k i:Nat) (acc:Int),m<k→i+m=data.length→0≤acc→acc≤i*281474976710656→
  Afz N k acc data data.length i K=K (acc+B4o (data.drop i)):=by
 intro m
 induction m with
 |zero=>
  intro k i acc hk hi _ _
  obtain⟨k,rfl⟩:∃j,k=j+1:=⟨k-1,by omega⟩
  simp only[Afz,A2w]
  rw[if_neg (by simp;omega),List.drop_eq_nil_of_le (by omega)]
  simp[B4o]
 |succ m ih0=>
  intro k i acc hk hi h0 ha
  obtain⟨k,rfl⟩:∃j,k=j+1:=⟨k-1,by omega⟩
  simp only[Afz,A2w]
  have hin:(0:Int)≤i∧(i:Int)<len data:=by simp only[len];omega
  rw[if_pos (by simp;omega),if_pos hin]
  have hlt:i<data.length:=by omega
  have hdr:data.drop i=data[i]::data.drop (i+1):=List.drop_eq_getElem_cons hlt
  have hg:data.getD (Int.toNat (i:Int)) (([]:List UInt8),(false,([]:List Int)))=data[i]:=by
   rw[List.getD_eq_getElem?_getD];simp[hlt]
  have hb:=hd data[i] (List.getElem_mem hlt)
  rw[hg,hdr]
  generalize data[i]=d at hb
  have hw:wi ((i:Int)+1)=((i+1:Nat):Int):=by simp only[wi];rw[w64 (by omega)];rfl
  have h1:wi (acc+((d.2.2.length:Nat):Int))=acc+d.2.2.length:=by simp only[wi];rw[w64 (by omega)]
  have h2:wi (((d.1.length:Nat):Int)+2)=d.1.length+2:=by simp only[wi];rw[w64 (by omega)]
  have h3:wi (Int.tdiv (((d.1.length:Nat):Int)+2) 2)=(d.1.length+2)/2:=by
   rw[Int.tdiv_eq_ediv_of_nonneg (by omega)];simp only[wi];rw[w64 (by omega)]
  have h4:wi (acc+((d.2.2.length:Nat):Int)+((d.1.length:Int)+2)/2)=acc+d.2.2.length+(d.1.length+2)/2:=by simp only[wi];rw[w64 (by omega)]
  rw[hw,h1,h2,h3,h4]
  have ih:=fun acc' h h'=>ih0 k (i+1) acc' (by omega) (by omega) h h'
  by_cases ht:d.2.1=true
  ·rw[if_pos ht,ih _ (by omega) (by omega)]
   simp only[B4o,List.map_cons,List.sum_cons,Cdm,if_pos ht]
   congr 1;omega
  ·rw[if_neg ht,ih _ (by omega) (by omega)]
   simp only[B4o,List.map_cons,List.sum_cons,Cdm,if_neg ht]
   congr 1;omega
theorem Cug{R:Type}(N:Nat)(nm:List UInt8)(data:Adt)(ops:OpL)(gl:Af7)(procs labels:Int)(hd:Bo0 data)(hN:2000<N)(K:Bool→Option R) :
  Amy N nm data ops gl procs labels K=K (Bag data ops procs labels):=by
 simp only[Amy,Bpf,Bag,len]
 by_cases h1:(ops.length:Int) > 40000
 ·rw[if_pos (by simpa using h1)];simp[show 40000<ops.length by omega]
 rw[if_neg (by simpa using h1)]
 by_cases h2:(data.length:Int) > 2000
 ·rw[if_pos (by simpa using h2)];simp[show 2000<data.length by omega]
 rw[if_neg (by simpa using h2)]
 by_cases h3:procs > 200
 ·rw[if_pos (by simpa using h3)];simp[show 200<procs by omega]
 rw[if_neg (by simpa using h3)]
 by_cases h4:labels > 20000
 ·rw[if_pos (by simpa using h4)];simp[show 20000<labels by omega]
 rw[if_neg (by simpa using h4)]
 have:=C9e N data hd (by omega) (fun a=>K (decide (a > 7800))) data.length N 0 0 (by omega) (by omega) (by omega) (by omega)
 rw[show ((0:Nat):Int)=0 from rfl]at this
 rw[this]
 simp[show ¬40000<ops.length by omega,show ¬2000<data.length by omega,show ¬200<procs by omega,show ¬20000<labels by omega]
theorem C4e{R:Type}(N:Nat)(nm:List UInt8)(data:Adt)(ops:OpL)(gl:Af7)(procs labels:Int)(hd:Bo0 data)(hl:data.length≤2000)(K:Int→Option R):∀(m k i:Nat) (acc:Int),m<k→i+m=data.length→0≤acc→acc≤i*281474976710656→
  Ae1 N k acc i nm data ops gl procs labels K=K (acc+B4o (data.drop i)):=by
 intro m
 induction m with
 |zero=>
  intro k i acc hk hi _ _
  obtain⟨k,rfl⟩:∃j,k=j+1:=⟨k-1,by omega⟩
  simp only[Ae1,Azf]
  rw[if_neg (by simp[len];omega),List.drop_eq_nil_of_le (by omega)]
  simp[B4o]
 |succ m ih0=>
  intro k i acc hk hi h0 ha
  obtain⟨k,rfl⟩:∃j,k=j+1:=⟨k-1,by omega⟩
  simp only[Ae1,Azf]
  have hin:(0:Int)≤i∧(i:Int)<len data:=by simp only[len];omega
  rw[if_pos (by simp[len];omega),if_pos hin,if_pos hin,if_pos hin]
  have hlt:i<data.length:=by omega
  have hdr:data.drop i=data[i]::data.drop (i+1):=List.drop_eq_getElem_cons hlt
  have hg:data.getD (Int.toNat (i:Int)) (([]:List UInt8),(false,([]:List Int)))=data[i]:=by
   rw[List.getD_eq_getElem?_getD];simp[hlt]
  have hb:=hd data[i] (List.getElem_mem hlt)
  rw[hg,hdr]
  generalize data[i]=d at hb
  have hw:wi ((i:Int)+1)=((i+1:Nat):Int):=by simp only[wi];rw[w64 (by omega)];rfl
  have h1:wi (acc+((d.2.2.length:Nat):Int))=acc+d.2.2.length:=by simp only[wi];rw[w64 (by omega)]
  have h2:wi (((d.1.length:Nat):Int)+2)=d.1.length+2:=by simp only[wi];rw[w64 (by omega)]
  have h3:wi (Int.tdiv (((d.1.length:Nat):Int)+2) 2)=(d.1.length+2)/2:=by
   rw[Int.tdiv_eq_ediv_of_nonneg (by omega)];simp only[wi];rw[w64 (by omega)]
  have h4:wi (acc+((d.2.2.length:Nat):Int)+((d.1.length:Int)+2)/2)=acc+d.2.2.length+(d.1.length+2)/2:=by simp only[wi];rw[w64 (by omega)]
  rw[hw,h1,h2,h3,h4]
  have ih:=fun acc' h h'=>ih0 k (i+1) acc' (by omega) (by omega) h h'
  by_cases ht:d.2.1=true
  ·rw[if_pos ht,ih _ (by omega) (by omega)]
   simp only[B4o,List.map_cons,List.sum_cons,Cdm,if_pos ht]
   congr 1;omega
  ·rw[if_neg ht,ih _ (by omega) (by omega)]
   simp only[B4o,List.map_cons,List.sum_cons,Cdm,if_neg ht]
   congr 1;omega
theorem Cmk{R:Type}(N:Nat)(nm:List UInt8)(data:Adt)(ops:OpL)(gl:Af7)(procs labels:Int)(hd:Bo0 data)(hN:2000<N)(K:Bool→Option R) :
  Ahy N nm data ops gl procs labels K=K (Bag data ops procs labels):=by
 simp only[Ahy,Bib,Bag,len]
 by_cases h1:(ops.length:Int) > 40000
 ·rw[if_pos (by simpa using h1)];simp[show 40000<ops.length by omega]
 rw[if_neg (by simpa using h1)]
 by_cases h2:(data.length:Int) > 2000
 ·rw[if_pos (by simpa using h2)];simp[show 2000<data.length by omega]
 rw[if_neg (by simpa using h2)]
 by_cases h3:procs > 200
 ·rw[if_pos (by simpa using h3)];simp[show 200<procs by omega]
 rw[if_neg (by simpa using h3)]
 by_cases h4:labels > 20000
 ·rw[if_pos (by simpa using h4)];simp[show 20000<labels by omega]
 rw[if_neg (by simpa using h4)]
 have:=C4e N nm data ops gl procs labels hd (by omega) (fun a=>K (decide (a > 7800))) data.length N 0 0 (by omega) (by omega) (by omega) (by omega)
 rw[show ((0:Nat):Int)=0 from rfl]at this
 rw[this]
 simp[show ¬40000<ops.length by omega,show ¬2000<data.length by omega,show ¬200<procs by omega,show ¬20000<labels by omega]
theorem Akp{α:Type}(l:List α)(d:α){i:Nat}(h:i<l.length):l.getD (Int.toNat (i:Int)) d=l[i]:=by
 rw[List.getD_eq_getElem?_getD];simp[h]
theorem Aco{i:Nat}(h:i<4611686018427387904):wi ((i:Int)+1)=((i+1:Nat):Int):=by
 simp only[wi];rw[w64 (by omega)];rfl
theorem exk{k m:Nat}(h:m<k):∃j,k=j+1:=⟨k-1,by omega⟩
theorem C5i{R:Type}(N:Nat)(s:List UInt8)(hs:s.length≤1099511627776)(a:List UInt8→Int→Option R)(d:List UInt8→List UInt8→Option R):∀(m k i:Nat) (b:List UInt8),m<k→i+m=s.length→b.length≤1+2*i→
  ∃b',b'.length≤1+2*s.length∧Agb N k s b i a d=if (s.drop i).any A0g then a [] 3 else d s b':=by
 intro m
 induction m with
 |zero=>
  intro k i b hk hi hb
  obtain⟨k,rfl⟩:=exk hk
  refine⟨b,by omega,?_⟩
  simp only[Agb,A63]
  rw[if_neg (by simp[len];omega),List.drop_eq_nil_of_le (by omega)]
  simp
 |succ m ih=>
  intro k i b hk hi hb
  obtain⟨k,rfl⟩:=exk hk
  have hlt:i<s.length:=by omega
  have hin:(0:Int)≤i∧(i:Int)<len s:=by simp only[len];omega
  have hd:s.drop i=s[i]::s.drop (i+1):=List.drop_eq_getElem_cons hlt
  have hany:(s.drop i).any A0g=(A0g s[i]||(s.drop (i+1)).any A0g):=by rw[hd,List.any_cons]
  have hsub:List.drop (Int.toNat (i:Int)) (List.take (Int.toNat ((i+1:Nat):Int)) s)=[s[i]]:=by
   simp only[Int.toNat_natCast]
   rw[List.drop_take,show i+1-i=1 by omega,hd];rfl
  have hcut:∀{S:Type} (x y:S),(if (0:Int)≤((i+1:Nat):Int)∧((i+1:Nat):Int)≤len s then x else y)=x:=fun x y=>if_pos (by simp only[len];omega)
  have hcut2:∀{S:Type} (x y:S),(if (0:Int)≤(i:Int)∧(i:Int)≤((i+1:Nat):Int) then x else y)=x:=fun x y=>if_pos (by omega)
  have go:∀b2:List UInt8,b2.length≤1+2*(i+1)→A0g s[i]=false→(∃b',b'.length≤1+2*s.length∧Agb N k s b2 ((i+1:Nat):Int) a d=if (s.drop i).any A0g then a [] 3 else d s b'):=by
   intro b2 h2 hq
   obtain⟨b',h3,h4⟩:=ih k (i+1) b2 (by omega) (by omega) h2
   exact⟨b',h3,by rw[h4,hany,hq,Bool.false_or]⟩
  simp only[Agb,A63]
  rw[if_pos (by simp[len];omega),if_pos hin,Akp _ _ hlt,Aco (by omega),hsub]
  simp only[hcut,hcut2]
  generalize hc:s[i]=c at *
  have hcl:=c.toNat_lt
  have toc:∀n:Nat,n<256→(((c.toNat:Int)==(n:Int))=true ↔ c=UInt8.ofNat n):=by
   intro n hn
   rw[beq_iff_eq]
   constructor
   ·intro h
    have:c.toNat=n:=by omega
    rw[←this];simp
   ·intro h;subst h;simp[UInt8.toNat_ofNat'];omega
  have t10:(((c.toNat:Nat):Int)==10)=true ↔ c=10:=toc 10 (by decide)
  have t9:(((c.toNat:Nat):Int)==9)=true ↔ c=9:=toc 9 (by decide)
  have t42:(((c.toNat:Nat):Int)==42)=true ↔ c=42:=toc 42 (by decide)
  have t34:(((c.toNat:Nat):Int)==34)=true ↔ c=34:=toc 34 (by decide)
  by_cases h1:c=10
  ·rw[if_pos (t10.2 h1),if_pos (by omega)]
   exact go _ (by simp;omega) (by subst h1;rfl)
  rw[if_neg (fun h=>h1 (t10.1 h))]
  by_cases h2:c=9
  ·rw[if_pos (t9.2 h2),if_pos (by omega)]
   exact go _ (by simp;omega) (by subst h2;rfl)
  rw[if_neg (fun h=>h2 (t9.1 h))]
  by_cases h3:c=42
  ·rw[if_pos (t42.2 h3),if_pos (by simp),if_pos (by simp;omega)]
   exact go _ (by simp;omega) (by subst h3;rfl)
  rw[if_neg (fun h=>h3 (t42.1 h))]
  by_cases h4:c=34
  ·rw[if_pos (t34.2 h4),if_pos (by simp),if_pos (by simp;omega)]
   exact go _ (by simp;omega) (by subst h4;rfl)
  rw[if_neg (fun h=>h4 (t34.1 h))]
  have hq:B4n c=false:=by simp[B4n,h1,h2,h3,h4]
  by_cases h5:c.toNat<32
  ·rw[if_pos (by simp;omega)]
   exact⟨b,by omega,by rw[hany];simp[A0g,hq,h5]⟩
  rw[if_neg (by simp;omega)]
  by_cases h6:126<c.toNat
  ·rw[if_pos (by simp;omega)]
   exact⟨b,by omega,by rw[hany];simp[A0g,hq,h6]⟩
  rw[if_neg (by simp;omega),if_pos (by simp;omega)]
  exact go _ (by simp;omega) (by simp[A0g,hq,h5,h6])
theorem B22(N:Nat)(s:List UInt8)(hs:s.length≤1099511627776)(hN:s.length<N){R:Type}(K:List UInt8→Int→Option R):∃r,Adx N s K=K r (Axw s):=by
 simp only[Adx,Bp5]
 obtain⟨b',h1,h2⟩:=C5i N s hs (fun c d=>K c d) (fun e a=>if (decide (len e > 100))=true then K [] 2 else if a.length+1≤70368744177664 then K (a++[34]) 0 else none) s.length N 0 [34] hN (by omega) (by simp)
 rw[show ((0:Nat):Int)=0 from rfl]at h2
 rw[h2]
 simp only[List.drop_zero,Axw]
 by_cases h3:s.any A0g=true
 ·exact⟨[],by simp only[if_pos h3]⟩
 simp only[if_neg h3]
 by_cases h4:100<s.length
 ·exact⟨[],by rw[if_pos (by simp[len];omega),if_pos h4]⟩
 ·exact⟨b'++[34],by rw[if_neg (by simp[len];omega),if_neg h4,if_pos (by omega)]⟩
def Bs6(d:List UInt8×Bool×List Int):Bool :=
 if d.2.1=true then Axw d.1==0&&d.2.2.length==0 else d.1==([]:List UInt8)&&d.2.2.length != 0&&d.2.2.all Amq
def B23(l:Adt):Prop:=∀d,d∈l→d.1.length≤1099511627776∧d.2.2.length≤1099511627776
theorem Dbz{R:Type}(N:Nat)(v:Int)(K:Bool→Option R):Ahw N v K=K (!Amq v):=by
 simp only[Ahw,Bhp,B6f]
theorem Db0{R:Type}(N:Nat)(l:List Int)(hl:l.length≤1099511627776)(a:Int→Option R)(b:Option R):∀(m k i:Nat),m<k→i+m=l.length→
  ∃j:Nat,Ab8 N k l l.length i a b=if (l.drop i).all Amq then b else a j:=by
 intro m
 induction m with
 |zero=>
  intro k i hk hi
  obtain⟨k,rfl⟩:=exk hk
  refine⟨0,?_⟩
  simp only[Ab8,Apj]
  rw[if_neg (by simp;omega),List.drop_eq_nil_of_le (by omega)]
  simp
 |succ m ih=>
  intro k i hk hi
  obtain⟨k,rfl⟩:=exk hk
  have hlt:i<l.length:=by omega
  have hin:(0:Int)≤i∧(i:Int)<len l:=by simp only[len];omega
  have hd:l.drop i=l[i]::l.drop (i+1):=List.drop_eq_getElem_cons hlt
  simp only[Ab8,Apj]
  rw[if_pos (by simp;omega),if_pos hin,Akp _ _ hlt,Dbz,Aco (by omega)]
  obtain⟨j,hj⟩:=ih k (i+1) (by omega) (by omega)
  rw[hj,hd,List.all_cons]
  by_cases h:Amq l[i]=true
  ·exact⟨j,by simp[h]⟩
  ·exact⟨i,by simp[h]⟩
theorem C5j{R:Type}(N:Nat)(l:List Int)(hl:l.length≤1099511627776)(hN:l.length<N)(K:Bool→Option R):Abv N l K=K (!l.all Amq):=by
 simp only[Abv,Asb,Aev,Au4,len]
 obtain⟨j,hj⟩:=Db0 N l hl (fun a=>K (decide (a≥0))) (K (decide ((-1:Int)≥0))) l.length N 0 hN (by omega)
 rw[show ((0:Nat):Int)=0 from rfl]at hj
 rw[hj,List.drop_zero]
 by_cases h:l.all Amq=true
 ·simp[h]
 ·have h':l.all Amq=false:=by simpa using h
  simp only[h',Bool.false_eq_true,if_false,Bool.not_false]
  congr 1
theorem C5k{R:Type}(N:Nat)(data:Adt)(hd:B23 data)(hl:data.length≤2000)(hN:∀d,d∈data→d.1.length<N∧d.2.2.length<N)(nm:List UInt8)(dat:Adt)(ops:OpL)(gl:Af7)(procs labels:Int)(a:Bool→Option R)(b:List UInt8→Adt→OpL→Af7→Int→Int→Option R) :
  ∀(m k i:Nat),m<k→i+m=data.length→
  Afc N k data data.length i nm dat ops gl procs labels a b=if (data.drop i).all Bs6 then b nm dat ops gl procs labels else a false:=by
 intro m
 induction m with
 |zero=>
  intro k i hk hi
  obtain⟨k,rfl⟩:=exk hk
  simp only[Afc,A6m]
  rw[if_neg (by simp;omega),List.drop_eq_nil_of_le (by omega)]
  simp
 |succ m ih=>
  intro k i hk hi
  obtain⟨k,rfl⟩:=exk hk
  have hlt:i<data.length:=by omega
  have hin:(0:Int)≤i∧(i:Int)<len data:=by simp only[len];omega
  have hdr:data.drop i=data[i]::data.drop (i+1):=List.drop_eq_getElem_cons hlt
  simp only[Afc,A6m]
  rw[if_pos (by simp;omega),if_pos hin,Akp _ _ hlt,Aco (by omega),ih k (i+1) (by omega) (by omega),hdr,List.all_cons]
  have h1:=hd data[i] (List.getElem_mem hlt)
  have h2:=hN data[i] (List.getElem_mem hlt)
  generalize data[i]=d at h1 h2
  by_cases ht:d.2.1=true
  ·rw[if_pos ht]
   obtain⟨r,hr⟩:=Cdl N d.1 h1.1 h2.1
   rw[hr]
   simp only[Bs6,if_pos ht,len]
   by_cases hq:Axw d.1=0
   ·have hq':(Axw d.1 != 0)=false:=by simp[hq]
    have hq2:(Axw d.1==0)=true:=by simp[hq]
    rw[hq',hq2]
    by_cases hw:d.2.2.length=0
    ·have e1:(d.2.2.length==0)=true:=by simp[hw]
     have e2:decide (((d.2.2.length:Nat):Int) > 0)=false:=by simp[hw]
     simp only[e1,e2,Bool.false_eq_true,if_false,if_true,Bool.true_and,Bool.and_true,Bool.false_and,Bool.and_false,Bool.not_true,Bool.not_false]
    ·have e1:(d.2.2.length==0)=false:=by simp[hw]
     have e2:decide (((d.2.2.length:Nat):Int) > 0)=true:=by simp;omega
     simp only[e1,e2,Bool.false_eq_true,if_false,if_true,Bool.true_and,Bool.and_true,Bool.false_and,Bool.and_false,Bool.not_true,Bool.not_false]
   ·have hq':(Axw d.1 != 0)=true:=by simp[hq]
    have hq2:(Axw d.1==0)=false:=by simp[hq]
    rw[hq',hq2]
    simp only[Bool.false_eq_true,if_false,if_true,Bool.true_and,Bool.and_true,Bool.false_and,Bool.and_false,Bool.not_true,Bool.not_false]
  ·rw[if_neg ht]
   simp only[Bs6,if_neg ht,len]
   by_cases hq:(d.1==([]:List UInt8))=true
   ·rw[hq]
    by_cases hw:d.2.2.length=0
    ·have e1:(((d.2.2.length:Nat):Int)==0)=true:=by simp[hw]
     have e2:(d.2.2.length != 0)=false:=by simp[hw]
     simp only[e1,e2,Bool.false_eq_true,if_false,if_true,Bool.true_and,Bool.and_true,Bool.false_and,Bool.and_false,Bool.not_true,Bool.not_false]
    ·have hw':(((d.2.2.length:Nat):Int)==0)=false:=by
      rw[beq_eq_false_iff_ne];omega
     have hw2:(d.2.2.length != 0)=true:=by simp[hw]
     rw[hw',hw2,C5j N d.2.2 h1.2 h2.2]
     by_cases ha:d.2.2.all Amq=true
     ·simp only[ha,Bool.false_eq_true,if_false,if_true,Bool.true_and,Bool.and_true,Bool.false_and,Bool.and_false,Bool.not_true,Bool.not_false]
     ·have ha':d.2.2.all Amq=false:=by simpa using ha
      simp only[ha',Bool.false_eq_true,if_false,if_true,Bool.true_and,Bool.and_true,Bool.false_and,Bool.and_false,Bool.not_true,Bool.not_false]
   ·have hq':(d.1==([]:List UInt8))=false:=by simpa using hq
    rw[hq'];simp only[Bool.false_eq_true,if_false,if_true,Bool.true_and,Bool.and_true,Bool.false_and,Bool.and_false,Bool.not_true,Bool.not_false]
theorem C9f{R:Type}(N:Nat)(i0:Int)(nm:List UInt8)(dat:Adt)(ops:OpL)(gl:Af7)(procs labels:Int)(tx:List UInt8)(is:Bool)(l:List Int)(hl:l.length≤1099511627776)(a:Bool→Option R)(b:Int→List UInt8→Adt→OpL→Af7→Int→Int→Option R):∀(m k i:Nat),m<k→i+m=l.length→
  Ada N k i0 i nm dat ops gl procs labels tx is l a b=if (l.drop i).all Amq then b i0 nm dat ops gl procs labels else a false:=by
 intro m
 induction m with
 |zero=>
  intro k i hk hi
  obtain⟨k,rfl⟩:=exk hk
  simp only[Ada,A3d]
  rw[if_neg (by simp[len];omega),List.drop_eq_nil_of_le (by omega)]
  simp
 |succ m ih=>
  intro k i hk hi
  obtain⟨k,rfl⟩:=exk hk
  have hlt:i<l.length:=by omega
  have hin:(0:Int)≤i∧(i:Int)<len l:=by simp only[len];omega
  have hd:l.drop i=l[i]::l.drop (i+1):=List.drop_eq_getElem_cons hlt
  simp only[Ada,A3d]
  rw[if_pos (by simp[len];omega),if_pos hin,Akp _ _ hlt,Atp,Aco (by omega),ih k (i+1) (by omega) (by omega),hd,List.all_cons]
  have hw:inB l[i] (-2147483648) 2147483647=Amq l[i]:=rfl
  rw[hw]
  by_cases h:Amq l[i]=true
  ·simp only[h,Bool.not_true,Bool.false_eq_true,if_false,Bool.true_and]
  ·have h':Amq l[i]=false:=by simpa using h
   simp only[h',Bool.not_false,if_true,Bool.false_and,Bool.false_eq_true,if_false]
theorem C5l{R:Type}(N:Nat)(data:Adt)(hd:B23 data)(hl:data.length≤2000)(hN:∀d,d∈data→d.1.length<N∧d.2.2.length<N)(nm:List UInt8)(ops:OpL)(gl:Af7)(procs labels:Int)(a:Bool→Option R)(b:List UInt8→Adt→OpL→Af7→Int→Int→Option R) :
  ∀(m k i:Nat),m<k→i+m=data.length→
  Adh N k i nm data ops gl procs labels a b=if (data.drop i).all Bs6 then b nm data ops gl procs labels else a false:=by
 intro m
 induction m with
 |zero=>
  intro k i hk hi
  obtain⟨k,rfl⟩:=exk hk
  simp only[Adh,A65]
  rw[if_neg (by simp[len];omega),List.drop_eq_nil_of_le (by omega)]
  simp
 |succ m ih=>
  intro k i hk hi
  obtain⟨k,rfl⟩:=exk hk
  have hlt:i<data.length:=by omega
  have hin:(0:Int)≤i∧(i:Int)<len data:=by simp only[len];omega
  have hdr:data.drop i=data[i]::data.drop (i+1):=List.drop_eq_getElem_cons hlt
  simp only[Adh,A65]
  rw[if_pos (by simp[len];omega),if_pos hin,Akp _ _ hlt,hdr,List.all_cons]
  have h1:=hd data[i] (List.getElem_mem hlt)
  have h2:=hN data[i] (List.getElem_mem hlt)
  generalize data[i]=d at h1 h2
  by_cases ht:d.2.1=true
  ·rw[if_pos ht]
   obtain⟨r,hr⟩:=B22 N d.1 h1.1 h2.1 (fun p c=>if (c != 0)=true then a false else if (decide (len d.2.2 > 0))=true then a false else Adh N k (wi ((i:Int)+1)) nm data ops gl procs labels a b)
   rw[hr,Aco (by omega),ih k (i+1) (by omega) (by omega)]
   simp only[Bs6,if_pos ht,len]
   by_cases hq:Axw d.1=0
   ·have hq':(Axw d.1 != 0)=false:=by simp[hq]
    have hq2:(Axw d.1==0)=true:=by simp[hq]
    rw[hq',hq2]
    by_cases hw:d.2.2.length=0
    ·have e1:(d.2.2.length==0)=true:=by simp[hw]
     have e2:decide (((d.2.2.length:Nat):Int) > 0)=false:=by simp[hw]
     simp only[e1,e2,Bool.false_eq_true,if_false,Bool.true_and]
    ·have e1:(d.2.2.length==0)=false:=by simp[hw]
     have e2:decide (((d.2.2.length:Nat):Int) > 0)=true:=by simp;omega
     simp only[e1,e2,Bool.false_eq_true,if_false,if_true,Bool.and_false,Bool.false_and]
   ·have hq':(Axw d.1 != 0)=true:=by simp[hq]
    have hq2:(Axw d.1==0)=false:=by simp[hq]
    rw[hq',hq2]
    simp only[if_true,Bool.false_and,Bool.false_eq_true,if_false]
  ·rw[if_neg ht]
   simp only[Bs6,if_neg ht,len]
   by_cases hq:(d.1==([]:List UInt8))=true
   ·rw[hq]
    by_cases hw:d.2.2.length=0
    ·have e1:(((d.2.2.length:Nat):Int)==0)=true:=by simp[hw]
     have e2:(d.2.2.length != 0)=false:=by simp[hw]
     simp only[e1,e2,Bool.not_true,Bool.false_eq_true,if_false,if_true,Bool.and_false,Bool.false_and]
    ·have hw':(((d.2.2.length:Nat):Int)==0)=false:=by rw[beq_eq_false_iff_ne];omega
     have hw2:(d.2.2.length != 0)=true:=by simp[hw]
     have hr:=C9f N i nm data ops gl procs labels d.1 d.2.1 d.2.2 h1.2 (fun e=>a e) (fun f g h j l n o=>Adh N k (wi (f+1)) g h j l n o a b) d.2.2.length N 0 h2.2 (by omega)
     rw[show ((0:Nat):Int)=0 from rfl]at hr
     rw[hw',hw2,hr,List.drop_zero,Aco (by omega),ih k (i+1) (by omega) (by omega)]
     by_cases ha:d.2.2.all Amq=true
     ·simp only[ha,Bool.not_true,Bool.false_eq_true,if_false,if_true,Bool.true_and]
     ·have ha':d.2.2.all Amq=false:=by simpa using ha
      simp only[ha',Bool.not_true,Bool.false_eq_true,if_false,Bool.and_false,Bool.false_and]
   ·have hq':(d.1==([]:List UInt8))=false:=by simpa using hq
    rw[hq'];simp only[Bool.not_false,if_true,Bool.false_and,Bool.false_eq_true,if_false]
theorem Dle{S:Type}(a b c d:Bool)(x y:S):(if (!a)=true then y else if b=true then y else if (!c)=true then y else if d=true then x else y)=if (a && !b&&c&&d)=true then x else y:=by
 cases a<;>cases b<;>cases c<;>cases d<;>rfl
def B02(procs:Int):List Int→Af7→Bool
 | _,[]=>true
 |seen,e::r=>inB e.1 1 199 && !seen.contains e.1&&inB e.2 1 procs&&B02 procs (e.1::seen) r
theorem Cvr(k k':Int)(l:List (Int×Bool)):(Ash (kt:=.int .i64) (et:=.bool) k (Az9 (kt:=.int .i64) (et:=.bool) k' true l)).getD false=(k==k'||(Ash (kt:=.int .i64) (et:=.bool) k l).getD false):=by
 induction l with
 |nil=>
  simp only[Az9,Ash,Ty.beq]
  cases h:(k==k')<;>simp
 |cons x l ih=>
  obtain⟨a,b⟩:=x
  simp only[Az9,Ty.beq]
  cases h1:(k'==a) with
  |true=>
   have:=beq_iff_eq.1 h1
   subst this
   simp only[Ash,Ty.beq]
   cases h:(k==k')<;>simp
  |false=>
   simp only[Ash,Ty.beq]
   cases h2:(k==a) with
   |true=>
    have:=beq_iff_eq.1 h2
    subst this
    have:(k==k')=false:=by
     rw[beq_eq_false_iff_ne]at h1 ⊢
     exact fun h=>h1 h.symm
    simp[this]
   |false=>simpa using ih
theorem Dfo{R:Type}(N:Nat)(gl:Af7)(hl:gl.length≤1099511627776)(nm:List UInt8)(dat:Adt)(ops:OpL)(gl2:Af7)(procs labels:Int)(a:Bool→Option R)(b:Option R) :
  ∀(m k i:Nat) (seen:List Int) (mp:List (Int×Bool)),m<k→i+m=gl.length→(∀x,(Ash (kt:=.int .i64) (et:=.bool) x mp).getD false=seen.contains x)→
  Ael N k gl gl.length i nm dat ops gl2 procs labels mp a b=if B02 procs seen (gl.drop i) then b else a false:=by
 intro m
 induction m with
 |zero=>
  intro k i seen mp hk hi hm
  obtain⟨k,rfl⟩:=exk hk
  simp only[Ael,A21]
  rw[if_neg (by simp;omega),List.drop_eq_nil_of_le (by omega)]
  simp[B02]
 |succ m ih=>
  intro k i seen mp hk hi hm
  obtain⟨k,rfl⟩:=exk hk
  have hlt:i<gl.length:=by omega
  have hin:(0:Int)≤i∧(i:Int)<len gl:=by simp only[len];omega
  have hd:gl.drop i=gl[i]::gl.drop (i+1):=List.drop_eq_getElem_cons hlt
  simp only[Ael,A21]
  rw[if_pos (by simp;omega),if_pos hin,Akp _ _ hlt,A46,A46,Aco (by omega),hd]
  rw[ih k (i+1) (gl[i].1::seen) _ (by omega) (by omega) (fun x=>by rw[Cvr,hm,List.contains_cons])]
  rw[hm]
  simp only[B02]
  exact Dle _ _ _ _ _ _
theorem Dfp{R:Type}(N:Nat)(i:Nat)(nm:List UInt8)(dat:Adt)(ops:OpL)(gl:Af7)(procs labels g1 g2:Int)(hl:gl.length≤1099511627776)(hi:i≤gl.length)(a:Bool→Option R)(b:Int→List UInt8→Adt→OpL→Af7→Int→Int→Option R) :
  ∀(m k j:Nat),m<k→j+m=i→
  Adb N k i j nm dat ops gl procs labels g1 g2 a b=if ((gl.take i).drop j).any (fun e=>e.1==g1) then a false else b i nm dat ops gl procs labels:=by
 intro m
 induction m with
 |zero=>
  intro k j hk hj
  obtain⟨k,rfl⟩:=exk hk
  simp only[Adb,A3e]
  rw[if_neg (by simp;omega),List.drop_eq_nil_of_le (by simp;omega)]
  simp
 |succ m ih=>
  intro k j hk hj
  obtain⟨k,rfl⟩:=exk hk
  have hlt:j<gl.length:=by omega
  have hin:(0:Int)≤j∧(j:Int)<len gl:=by simp only[len];omega
  have hlt2:j<(gl.take i).length:=by simp;omega
  have hd:(gl.take i).drop j=gl[j]::(gl.take i).drop (j+1):=by
   rw[List.drop_eq_getElem_cons hlt2];simp
  simp only[Adb,A3e]
  rw[if_pos (by simp;omega),if_pos hin,Akp _ _ hlt,Aco (by omega),ih k (j+1) (by omega) (by omega),hd,List.any_cons]
  by_cases h:(gl[j].1==g1)=true
  ·simp only[h,if_true,Bool.true_or]
  ·have h':(gl[j].1==g1)=false:=by simpa using h
   simp only[h',Bool.false_eq_true,if_false,Bool.false_or]
theorem Dh2{S:Type}(a b c d:Bool)(x y:S):(if (!a)=true then y else if (!c)=true then y else if b=true then y else if d=true then x else y)=if (a && !b&&c&&d)=true then x else y:=by
 cases a<;>cases b<;>cases c<;>cases d<;>rfl
theorem Db1{R:Type}(N:Nat)(gl:Af7)(hl:gl.length<N)(hl2:gl.length≤1099511627776)(nm:List UInt8)(dat:Adt)(ops:OpL)(procs labels:Int)(a:Bool→Option R)(b:List UInt8→Adt→OpL→Af7→Int→Int→Option R) :
  ∀(m k i:Nat) (seen:List Int),m<k→i+m=gl.length→(∀x,(gl.take i).any (fun e=>e.1==x)=seen.contains x)→
  Acx N k i nm dat ops gl procs labels a b=if B02 procs seen (gl.drop i) then b nm dat ops gl procs labels else a false:=by
 intro m
 induction m with
 |zero=>
  intro k i seen hk hi hm
  obtain⟨k,rfl⟩:=exk hk
  simp only[Acx,A3f]
  rw[if_neg (by simp[len];omega),List.drop_eq_nil_of_le (by omega)]
  simp[B02]
 |succ m ih=>
  intro k i seen hk hi hm
  obtain⟨k,rfl⟩:=exk hk
  have hlt:i<gl.length:=by omega
  have hin:(0:Int)≤i∧(i:Int)<len gl:=by simp only[len];omega
  have hd:gl.drop i=gl[i]::gl.drop (i+1):=List.drop_eq_getElem_cons hlt
  simp only[Acx,A3f]
  rw[if_pos (by simp[len];omega),if_pos hin,Akp _ _ hlt,Atp,Atp]
  have hdup:=Dfp N i nm dat ops gl procs labels gl[i].1 gl[i].2 hl2 (by omega) (fun c=>a c) (fun d f g h j l n=>Acx N k (wi (d+1)) f g h j l n a b) i N 0 (by omega) (by omega)
  rw[show ((0:Nat):Int)=0 from rfl]at hdup
  rw[hdup,List.drop_zero,Aco (by omega),hm,hd]
  rw[ih k (i+1) (gl[i].1::seen) (by omega) (by omega) (fun x=>by
   rw[List.take_succ_eq_append_getElem hlt,List.any_append,hm,List.contains_cons]
   simp only[List.any_cons,List.any_nil,Bool.or_false]
   rw[Bool.or_comm]
   congr 1
   exact BEq.comm)]
  simp only[B02]
  exact Dh2 _ _ _ _ _ _
def Bxk(data:Adt)(gl:Af7)(procs:Int):Bool:=data.all Bs6&&B02 procs [] gl
theorem Cuh{R:Type}(N:Nat)(nm:List UInt8)(data:Adt)(ops:OpL)(gl:Af7)(procs labels:Int)(hd:B23 data)(hl:data.length≤2000)(hN:∀d,d∈data→d.1.length<N∧d.2.2.length<N)(hN2:2000<N)(hg:gl.length<N)(hg2:gl.length≤1099511627776)(K:Bool→Option R) :
  Af3 N nm data ops gl procs labels K=K (Bxk data gl procs):=by
 simp only[Af3,Bpp,len]
 have h1:=C5k N data hd hl hN nm data ops gl procs labels (fun c=>K c) (fun e f g a h i=>Ael N N a ((a.length:Nat):Int) 0 e f g a h i [] (fun b=>K b) (K true)) data.length N 0 (by omega) (by omega)
 have h2:=Dfo N gl hg2 nm data ops gl procs labels (fun b=>K b) (K true) gl.length N 0 [] [] hg (by omega) (fun x=>rfl)
 rw[show ((0:Nat):Int)=0 from rfl]at h1 h2
 rw[h1,List.drop_zero]
 simp only[h2,List.drop_zero,Bxk]
 cases data.all Bs6<;>cases B02 procs [] gl<;>rfl
theorem Cui{R:Type}(N:Nat)(nm:List UInt8)(data:Adt)(ops:OpL)(gl:Af7)(procs labels:Int)(hd:B23 data)(hl:data.length≤2000)(hN:∀d,d∈data→d.1.length<N∧d.2.2.length<N)(hN2:2000<N)(hg:gl.length<N)(hg2:gl.length≤1099511627776)(hn:nm.length<N)(hn2:nm.length≤1099511627776)(K:Bool→Option R) :
  Aks N nm data ops gl procs labels K=K (Bxk data gl procs&&Axw nm==0):=by
 simp only[Aks,Bp7]
 have h1:=C5l N data hd hl hN nm ops gl procs labels (fun f=>K f) (fun g h i j l m=>Acx N N 0 g h i j l m (fun b=>K b) fun c n o p q s=>Adx N c fun e a=>K (a==0)) data.length N 0 (by omega) (by omega)
 have h2:=Db1 N gl hg hg2 nm data ops procs labels (fun b=>K b) (fun c n o p q s=>Adx N c fun e a=>K (a==0)) gl.length N 0 [] hg (by omega) (fun x=>rfl)
 obtain⟨r,h3⟩:=B22 N nm hn2 hn (fun e a=>K (a==0))
 rw[show ((0:Nat):Int)=0 from rfl]at h1 h2
 rw[h1,List.drop_zero]
 simp only[h2,List.drop_zero,Bxk,h3]
 cases data.all Bs6<;>cases B02 procs [] gl<;>rfl
def Aak(l:OpL)(i:Nat):Int×Int×Int:=l.getD i (0,0,0)
def Aki(op:Int):Bool:=op != 20&&op != 25&&op != 26&&op != 27&&op != 29&&op != 30
def Aey:OpL→Option Int
 |[]=>none
 |o::_=>some o.1
def A4y(o:Int×Int×Int)(r:OpL):Bool :=
 (o.1 != 19||(Aey r==some 18||Aey r==some 28||Aey r==some 19))&&(!Aki o.1||(Aey r != none&&Aey r != some 24))
def Afn:Nat→OpL→Bool
 |c,[]=>c==0
 |c+1,o::r=>o.1==30&&Afn c r
 |0,o::r=>o.1 != 30&&(if o.1=29 then Afn o.2.2.toNat r else A4y o r&&Afn 0 r)
def Ase(c:Nat)(s:OpL):Bool:=decide (c≤s.length)&&(s.take c).all fun o=>o.1==30
theorem Cqz:∀(c:Nat) (s:OpL),Afn c s=(Ase c s&&Afn 0 (s.drop c))
 |0,s=>by simp[Ase]
 |c+1,[]=>by simp[Ase,Afn]
 |c+1,o::r=>by
  have h:Ase (c+1) (o::r)=(o.1==30&&Ase c r):=by
   simp only[Ase,List.length_cons,List.take_succ_cons,List.all_cons]
   have:decide (c+1≤r.length+1)=decide (c≤r.length):=by simp
   rw[this]
   cases decide (c≤r.length)<;>cases (o.1==30)<;>simp
  rw[Afn,Cqz c r,h,List.drop_succ_cons,Bool.and_assoc]
theorem Cvs{α:Type}(l:List α)(i j:Nat)(d:α):(l.drop i).getD j d=l.getD (i+j) d:=by
 simp[List.getD_eq_getElem?_getD]
theorem C5m(l:OpL)(i:Nat):Aey (l.drop i)=if i<l.length then some (l.getD i (0,0,0)).1 else none:=by
 by_cases h:i<l.length
 ·rw[if_pos h,List.drop_eq_getElem_cons h]
  simp[Aey,h]
 ·rw[if_neg h,List.drop_eq_nil_of_le (by omega)];rfl
theorem Db2{R:Type}(N:Nat)(l:OpL)(i M:Nat)(hl:l.length≤1099511627776)(hM:M≤1000)(hi:i<l.length)(a:Bool→Option R)(b:OpL→Int→Option R) :
  ∀(m k j:Nat),m<k→j+m=M→
  Ad0 N k l i M j a b=if Ase (M-j) (l.drop (i+1+j)) then b l i else a false:=by
 intro m
 induction m with
 |zero=>
  intro k j hk hj
  obtain⟨k,rfl⟩:=exk hk
  simp only[Ad0,A20]
  rw[if_neg (by simp;omega),show M-j=0 by omega]
  simp[Ase]
 |succ m ih=>
  intro k j hk hj
  obtain⟨k,rfl⟩:=exk hk
  simp only[Ad0,A20]
  rw[if_pos (by simp;omega),Aco (by omega)]
  have e1:wi (((i+1:Nat):Int)+(j:Int))=((i+1+j:Nat):Int):=by simp only[wi];rw[w64 (by omega)];omega
  rw[e1,Aco (by omega)]
  simp only[len]
  by_cases h:i+1+j<l.length
  ·rw[if_neg (by simp;omega),if_pos (by omega),Akp _ _ h,ih k (j+1) (by omega) (by omega)]
   have hd:l.drop (i+1+j)=l[i+1+j]::l.drop (i+1+(j+1)):=List.drop_eq_getElem_cons h
   have hc:Ase (M-j) (l.drop (i+1+j))=(l[i+1+j].1==30&&Ase (M-(j+1)) (l.drop (i+1+(j+1)))):=by
    rw[hd,show M-j=(M-(j+1))+1 by omega]
    simp only[Ase,List.length_cons,List.take_succ_cons,List.all_cons]
    have:decide (M-(j+1)+1≤(l.drop (i+1+(j+1))).length+1)=decide (M-(j+1)≤(l.drop (i+1+(j+1))).length):=by simp
    rw[this]
    cases decide (M-(j+1)≤(l.drop (i+1+(j+1))).length)<;>cases (l[i+1+j].1==30)<;>simp
   rw[hc]
   by_cases h30:l[i+1+j].1=30
   ·simp[h30]
   ·have h2:(l[i+1+j].1==30)=false:=by simpa using h30
    have h3:(l[i+1+j].1 != 30)=true:=by simpa using h30
    simp only[h2,h3,if_true,Bool.false_and,Bool.false_eq_true,if_false]
  ·rw[if_pos (by simp;omega)]
   have hc:Ase (M-j) (l.drop (i+1+j))=false:=by
    simp only[Ase,Bool.and_eq_false_iff]
    left;simp;omega
   rw[hc];simp
def Atq(l:OpL)(i:Nat):Bool :=
 let o:=Aak l i
 if o.1=20∨o.1=25∨o.1=26∨o.1=27 then true
 else if o.1=29 then o.2.2==0
 else if o.1=30 then decide (i+1=l.length)||(Aak l (i+1)).1 != 30
 else false
theorem Brk{R:Type}(N:Nat)(l:OpL)(i:Nat)(hl:l.length≤1099511627776)(hi:i<l.length)(K:Bool→Option R):Acg N l i K=K (Atq l i):=by
 simp only[Acg,Bun,Agk,Atq,Aak]
 have hin:(0:Int)≤i∧(i:Int)<len l:=by simp only[len];omega
 rw[if_pos hin,show Int.toNat (i:Int)=i from by simp]
 obtain⟨o,ho⟩:∃o,l.getD i (0,0,0)=o:=⟨_,rfl⟩
 simp only[ho,if_pos hin]
 by_cases h1:o.1=20
 ·simp[h1]
 by_cases h2:o.1=25
 ·simp[h2]
 by_cases h3:o.1=26
 ·simp[h3]
 by_cases h4:o.1=27
 ·simp[h4]
 rw[if_neg (by simpa using h1),if_neg (by simpa using h2),if_neg (by simpa using h3),if_neg (by simpa using h4),if_neg (show ¬(o.1=20∨o.1=25∨o.1=26∨o.1=27) by omega)]
 by_cases h5:o.1=29
 ·rw[if_pos (by simpa using h5),if_pos h5]
 rw[if_neg (by simpa using h5),if_neg h5]
 by_cases h6:o.1=30
 ·rw[if_pos (by simpa using h6),if_pos h6,Aco (by omega)]
  by_cases h7:i+1=l.length
  ·rw[if_pos (by simp only[len,beq_iff_eq];omega)];simp[h7]
  ·rw[if_neg (by simp only[len,beq_iff_eq];omega),if_pos (by simp only[len];omega)]
   simp[h7]
 ·rw[if_neg (by simpa using h6),if_neg h6]
theorem Cq0{R:Type}(N:Nat)(l:OpL)(i:Nat)(last:Bool)(hl:l.length≤1099511627776)(hi:i<l.length)(hlast:last=decide (i+1=l.length))(a:Bool→Option R)(b:OpL→Int→Option R) :
  Acu N l i last a b=if (last||(Aak l (i+1)).1==24) && !Atq l i then a false else b l i:=by
 simp only[Acu,Bee,Brk N l i hl hi]
 cases last with
 |true=>
  simp only[if_true,Bool.true_or,Bool.true_and]
 |false=>
  have hne:i+1≠l.length:=by simpa using hlast.symm
  simp only[Bool.false_eq_true,if_false,Bool.false_or]
  rw[Aco (by omega),if_pos (by simp only[len];omega)]
  have:l.getD (Int.toNat ((i+1:Nat):Int)) (0,0,0)=Aak l (i+1):=by simp[Aak]
  rw[this]
  cases h:((Aak l (i+1)).1==24) with
  |true=>simp only[if_true,Bool.true_and]
  |false=>simp only[Bool.false_eq_true,if_false,Bool.false_and]
theorem Atj{l:OpL}{i:Nat}(h:i<l.length):Aak l i=l[i]:=by simp[Aak,List.getD_eq_getElem?_getD,h]
theorem Cdn{l:OpL}{i:Nat}:Aey (l.drop i)=if i<l.length then some (Aak l i).1 else none:=by
 rw[C5m];rfl
theorem Db3{c:Nat}{s:OpL}(h:Ase c s=true):c≤s.length∧∀j,j<c→(Aak s j).1=30:=by
 simp only[Ase,Bool.and_eq_true,decide_eq_true_eq,List.all_eq_true,beq_iff_eq]at h
 refine⟨h.1,fun j hj=>?_⟩
 have hjl:j<s.length:=by omega
 rw[Atj hjl]
 exact h.2 _ (by
  rw[List.mem_take_iff_getElem]
  exact⟨j,by omega,rfl⟩)
theorem C9g{R:Type}(N:Nat)(l:OpL)(hl:l.length≤1099511627776)(hN:1000<N)(hM:∀o,o∈l→o.1=29→0≤o.2.2∧o.2.2≤1000)(d:Bool→Option R)(e:OpL→Option R) :
  ∀(k i:Nat),i≤l.length→l.length-i<k→Adu N k l i d e=if Afn 0 (l.drop i) then e l else d false:=by
 intro k
 induction k with
 |zero=>intro i _ h;omega
 |succ k ih=>
  intro i hi hk
  simp only[Adu,Bhm]
  by_cases hlt:i<l.length
  case neg=>
   rw[if_neg (by simp[len];omega),List.drop_eq_nil_of_le (by omega)]
   simp[Afn]
  have hin:(0:Int)≤i∧(i:Int)<len l:=by simp only[len];omega
  have hd:l.drop i=l[i]::l.drop (i+1):=List.drop_eq_getElem_cons hlt
  have hM':=hM l[i] (List.getElem_mem hlt)
  have hoi:Aak l i=l[i]:=Atj hlt
  rw[if_pos (by simp[len];omega),if_pos hin,Akp _ _ hlt,Aco (by omega),hd]
  simp only[if_pos hin]
  obtain⟨o,ho⟩:∃o,l[i]=o:=⟨_,rfl⟩
  simp only[ho]at hM' hoi ⊢
  by_cases h29:o.1=29
  ·-- a switch
   rw[if_pos (by simpa using h29)]
   obtain⟨M,hMe⟩:=Int.eq_ofNat_of_zero_le (hM' h29).1
   have hMle:M≤1000:=by have:=(hM' h29).2;omega
   have hcl:=Db2 N l i M hl hMle hlt (fun m=>d m) (fun c b=>
    if 0≤b∧b<len c then
     if (!wi (wi (b+(List.getD c (Int.toNat b) (0,0,0)).2.2)+1)==len c)=true then
      if 0≤wi (wi (b+(List.getD c (Int.toNat b) (0,0,0)).2.2)+1)∧wi (wi (b+(List.getD c (Int.toNat b) (0,0,0)).2.2)+1)<len c then
       if ((List.getD c (Int.toNat (wi (wi (b+(List.getD c (Int.toNat b) (0,0,0)).2.2)+1))) (0,0,0)).1==30)=true then d false
       else Acu N c (wi (b+(List.getD c (Int.toNat b) (0,0,0)).2.2)) (wi (wi (b+(List.getD c (Int.toNat b) (0,0,0)).2.2)+1)==len c) (fun f=>d f) fun g j=>Adu N k g (wi (j+1)) d e
      else none
     else Acu N c (wi (b+(List.getD c (Int.toNat b) (0,0,0)).2.2)) (wi (wi (b+(List.getD c (Int.toNat b) (0,0,0)).2.2)+1)==len c) (fun n=>d n) fun p q=>Adu N k p (wi (q+1)) d e
    else none) M N 0 (by omega) (by omega)
   rw[show ((0:Nat):Int)=0 from rfl]at hcl
   rw[hMe,hcl,Nat.sub_zero,Nat.add_zero]
   have hord:Afn 0 (o::l.drop (i+1))=(Ase M (l.drop (i+1))&&Afn 0 (l.drop (i+1+M))):=by
    rw[Afn,if_pos h29,hMe,Int.toNat_natCast,Cqz,List.drop_drop]
    simp[h29]
   rw[hord]
   by_cases hc:Ase M (l.drop (i+1))=true
   case neg=>
    have hc':Ase M (l.drop (i+1))=false:=by simpa using hc
    simp only[hc',Bool.false_eq_true,if_false,Bool.false_and]
   obtain⟨c1,c2⟩:=Db3 hc
   have c1:M≤l.length-(i+1):=by simpa using c1
   simp only[hc,if_true,Bool.true_and,if_pos hin,Akp _ _ hlt,ho,hMe]
   have e1:wi ((i:Int)+(M:Int))=((i+M:Nat):Int):=by simp only[wi];rw[w64 (by omega)];omega
   rw[e1,Aco (by omega)]
   have hends:(¬i+M+1<l.length∨(Aak l (i+M+1)).1≠30)→Atq l (i+M)=true:=by
    intro hh
    unfold Atq
    cases M with
    |zero=>
     rw[Nat.add_zero]at hh ⊢
     simp only[hoi,h29,hMe]
     simp
    |succ M=>
     have h30:(Aak l (i+(M+1))).1=30:=by
      have:=c2 M (by omega)
      unfold Aak at this ⊢
      rw[Cvs]at this
      rw[show i+(M+1)=i+1+M by omega];exact this
     simp only[h30]
     rcases hh with hh|hh
     ·simp;omega
     ·simp;omega
   have fin:∀last:Bool,last=decide (i+M+1=l.length)→(¬i+M+1<l.length∨(Aak l (i+M+1)).1≠30)→Acu N l ((i+M:Nat):Int) last (fun f=>d f) (fun g j=>Adu N k g (wi (j+1)) d e)=if Afn 0 (l.drop (i+1+M))=true then e l else d false:=by
    intro last hlast hh
    rw[Cq0 N l (i+M) last hl (by omega) hlast,hends hh]
    simp only[Bool.not_true,Bool.and_false,Bool.false_eq_true,if_false]
    rw[Aco (by omega),ih (i+M+1) (by omega) (by omega),show i+M+1=i+1+M by omega]
   by_cases hlast:i+M+1=l.length
   ·have hb:((((i+M+1:Nat):Int))==len l)=true:=by simp only[len,beq_iff_eq];omega
    rw[hb]
    simp only[Bool.not_true,Bool.false_eq_true,if_false]
    exact fin true (by simp[hlast]) (.inl (by omega))
   ·have hb:((((i+M+1:Nat):Int))==len l)=false:=by
     rw[beq_eq_false_iff_ne];simp only[len];omega
    rw[hb]
    simp only[Bool.not_false,if_true]
    rw[if_pos (by simp only[len];omega)]
    have hg:l.getD (Int.toNat ((i+M+1:Nat):Int)) (0,0,0)=Aak l (i+M+1):=by
     unfold Aak;rw[Int.toNat_natCast]
    rw[hg]
    by_cases h30:(Aak l (i+M+1)).1=30
    ·rw[if_pos (by simpa using h30)]
     have hlt2:i+1+M<l.length:=by omega
     have:Afn 0 (l.drop (i+1+M))=false:=by
      rw[List.drop_eq_getElem_cons hlt2,Afn,←Atj hlt2,show i+1+M=i+M+1 by omega]
      simp[h30]
     rw[this];simp
    ·rw[if_neg (by simpa using h30)]
     exact fin false (by simp[hlast]) (.inr h30)
  rw[if_neg (by simpa using h29)]
  by_cases h30:o.1=30
  ·rw[if_pos (by simpa using h30)]
   simp[Afn,h30]
  rw[if_neg (by simpa using h30)]
  have hord:Afn 0 (o::l.drop (i+1))=(A4y o (l.drop (i+1))&&Afn 0 (l.drop (i+1))):=by
   rw[Afn,if_neg h29];simp[h30]
  rw[hord]
  have hhead:Aey (l.drop (i+1))=if i+1<l.length then some (Aak l (i+1)).1 else none:=Cdn
  have hlb:((((i+1:Nat):Int))==len l)=decide (i+1=l.length):=by
   rw[Bool.eq_iff_iff];simp only[len,beq_iff_eq,decide_eq_true_eq];omega
  have hends:Atq l i = !Aki o.1:=by
   unfold Atq Aki
   rw[hoi]
   by_cases a1:o.1=20
   ·simp[a1]
   by_cases a2:o.1=25
   ·simp[a2]
   by_cases a3:o.1=26
   ·simp[a3]
   by_cases a4:o.1=27
   ·simp[a4]
   have b1:(o.1 != 20)=true:=by simpa using a1
   have b2:(o.1 != 25)=true:=by simpa using a2
   have b3:(o.1 != 26)=true:=by simpa using a3
   have b4:(o.1 != 27)=true:=by simpa using a4
   have b5:(o.1 != 29)=true:=by simpa using h29
   have b6:(o.1 != 30)=true:=by simpa using h30
   rw[if_neg (by omega),if_neg h29,if_neg h30,b1,b2,b3,b4,b5,b6];rfl
  have fin:o.1≠19∨(i+1<l.length∧((Aak l (i+1)).1=18∨(Aak l (i+1)).1=28∨(Aak l (i+1)).1=19))→
    Acu N l (i:Int) (decide (i+1=l.length)) (fun r=>d r) (fun s t=>Adu N k s (wi (t+1)) d e)=if (A4y o (l.drop (i+1))&&Afn 0 (l.drop (i+1)))=true then e l else d false:=by
   intro hh
   rw[Cq0 N l i _ hl hlt rfl,Aco (by omega),ih (i+1) (by omega) (by omega),hends,Bool.not_not]
   have hs:A4y o (l.drop (i+1)) = !((decide (i+1=l.length)||(Aak l (i+1)).1==24)&&Aki o.1):=by
    unfold A4y
    rw[hhead]
    have h19:(o.1 != 19||((if i+1<l.length then some (Aak l (i+1)).1 else none)==some 18||(if i+1<l.length then some (Aak l (i+1)).1 else none)==some 28||(if i+1<l.length then some (Aak l (i+1)).1 else none)==some 19))=true:=by
     rcases hh with hh|⟨hh,h2⟩
     ·simp[hh]
     ·rw[if_pos hh]
      rcases h2 with h2|h2|h2<;>simp[h2]
    rw[h19,Bool.true_and]
    by_cases hl1:i+1<l.length
    ·have:decide (i+1=l.length)=false:=by simp;omega
     rw[this,if_pos hl1]
     by_cases h24:(Aak l (i+1)).1=24
     ·simp[h24]
     ·have h24':((Aak l (i+1)).1==24)=false:=by simpa using h24
      simp[h24,h24']
    ·have:decide (i+1=l.length)=true:=by simp;omega
     rw[this,if_neg hl1]
     simp
   rw[hs]
   cases (decide (i+1=l.length)||(Aak l (i+1)).1==24)&&Aki o.1<;>simp
  simp only[hlb]
  by_cases h19:o.1=19
  ·rw[if_pos (by simpa using h19)]
   by_cases hl1:i+1=l.length
   ·have hx:decide (i+1=l.length)=true:=by simp[hl1]
    have hs:A4y o (l.drop (i+1))=false:=by
     unfold A4y
     rw[hhead,if_neg (by omega),h19];rfl
    rw[hx,hs];simp
   ·have hx:decide (i+1=l.length)=false:=by simp[hl1]
    have hlt1:i+1<l.length:=by omega
    have hg:l.getD (Int.toNat ((i+1:Nat):Int)) (0,0,0)=Aak l (i+1):=by
     unfold Aak;rw[Int.toNat_natCast]
    have hin1:(0:Int)≤((i+1:Nat):Int)∧((i+1:Nat):Int)<len l:=by simp only[len];omega
    rw[hx]at fin ⊢
    simp only[Bool.false_eq_true,if_false,if_pos hin1,hg]
    have hs:((Aak l (i+1)).1≠18∧(Aak l (i+1)).1≠28∧(Aak l (i+1)).1≠19)→A4y o (l.drop (i+1))=false:=by
     intro⟨a1,a2,a3⟩
     unfold A4y
     rw[hhead,if_pos hlt1,h19]
     have b1:(some (Aak l (i+1)).1==some 18)=false:=by simpa using a1
     have b2:(some (Aak l (i+1)).1==some 28)=false:=by simpa using a2
     have b3:(some (Aak l (i+1)).1==some 19)=false:=by simpa using a3
     rw[b1,b2,b3];rfl
    by_cases a1:(Aak l (i+1)).1=18
    ·rw[if_neg (by simpa using a1)];exact fin (.inr ⟨hlt1,.inl a1⟩)
    rw[if_pos (by simpa using a1)]
    by_cases a2:(Aak l (i+1)).1=28
    ·rw[if_neg (by simpa using a2)];exact fin (.inr ⟨hlt1,.inr (.inl a2)⟩)
    rw[if_pos (by simpa using a2)]
    by_cases a3:(Aak l (i+1)).1=19
    ·rw[if_neg (by simpa using a3)];exact fin (.inr ⟨hlt1,.inr (.inr a3)⟩)
    rw[if_pos (by simpa using a3),hs ⟨a1,a2,a3⟩]
    simp
  ·rw[if_neg (by simpa using h19)]
   exact fin (.inl h19)
def An7(l:OpL):Bool:=Aey l==none||Aey l==some 24
theorem Cuj{R:Type}(N:Nat)(l:OpL)(hl:l.length<N)(hl2:l.length≤1099511627776)(hN:1000<N)(hM:∀o,o∈l→o.1=29→0≤o.2.2∧o.2.2≤1000)(K:Bool→Option R) :
  Af2 N l K=K (Afn 0 l&&An7 l):=by
 simp only[Af2,Bpl]
 have h:=C9g N l hl2 hN hM (fun b=>K b) (fun a=>if (len a==0)=true then K true else if (0:Int)≤0∧0<len a then K ((List.getD a 0 (0,0,0)).1==24) else none) N 0 (by omega) (by omega)
 rw[show ((0:Nat):Int)=0 from rfl]at h
 rw[h,List.drop_zero]
 cases Afn 0 l with
 |false=>simp
 |true=>
  simp only[if_true,Bool.true_and]
  cases l with
  |nil=>simp[len,An7,Aey]
  |cons o r=>
   rw[if_neg (by simp only[len,List.length_cons,beq_iff_eq];omega),if_pos (by simp only[len,List.length_cons];omega)]
   simp[An7,Aey]
theorem Aeh{i:Int}(h1:-4611686018427387904<i)(h2:i<4611686018427387904):wi i=i:=by
 simp only[wi];exact w64 (by omega)
def plF:Nat→OpL→Int→Int→List Int→List Int→Option (Int×Int×List Int×List Int)
 | _,[],p,m,o,a=>some (p,m,o,a)
 |i,x::r,p,m,o,a=>
  if x.1=24 then (if x.2.1=p+1 then plF (i+1) r (p+1) m o a else none)
  else if x.1=19 then
   (if a.getD x.2.1.toNat 0≠0∨p=0 then none
    else plF (i+1) r p (if x.2.1 > m then x.2.1 else m) (o.set x.2.1.toNat i) (a.set x.2.1.toNat p))
  else plF (i+1) r p m o a
theorem C5n{R:Type}(N:Nat)(nm:List UInt8)(dat:Adt)(l:OpL)(gl:Af7)(procs labels:Int)(hl:l.length≤1099511627776)(hL:∀o,o∈l→o.1=19→1≤o.2.1∧o.2.1≤labels)(b:Bool→List Int→List Int→Option R)(c:Int→Int→List UInt8→Adt→OpL→Af7→Int→Int→List Int→List Int→Option R) :
  ∀(k i:Nat) (p m:Int) (o a:List Int),i≤l.length→l.length-i<k→0≤p→p≤i→(o.length:Int)=labels+1→(a.length:Int)=labels+1→
   Age N k p m l (len l) i nm dat l gl procs labels o a b c =
    match plF i (l.drop i) p m o a with
    |none=>b false [] []
    |some (p',m',o',a')=>c p' m' nm dat l gl procs labels o' a':=by
 intro k
 induction k with
 |zero=>intro i _ _ _ _ _ h;omega
 |succ k ih=>
  intro i p m o a hi hk hp hpi ho ha
  simp only[Age,Bd9]
  by_cases hlt:i<l.length
  case neg=>
   rw[if_neg (by simp[len];omega),List.drop_eq_nil_of_le (by omega)]
   simp[plF]
  have hin:(0:Int)≤i∧(i:Int)<len l:=by simp only[len];omega
  have hd:l.drop i=l[i]::l.drop (i+1):=List.drop_eq_getElem_cons hlt
  have hL':=hL l[i] (List.getElem_mem hlt)
  rw[if_pos (by simp[len];omega),if_pos hin,Akp _ _ hlt,Aco (by omega),hd]
  obtain⟨x,hx⟩:∃x,l[i]=x:=⟨_,rfl⟩
  simp only[hx]at hL' ⊢
  have hw:wi (p+1)=p+1:=Aeh (by omega) (by omega)
  by_cases h24:x.1=24
  ·rw[if_pos (by simpa using h24),hw,plF,if_pos h24]
   by_cases he:x.2.1=p+1
   ·rw[if_neg (by simp[he]),if_pos he]
    exact ih (i+1) (p+1) m o a (by omega) (by omega) (by omega) (by omega) ho ha
   ·rw[if_pos (by simpa using he),if_neg he]
  rw[if_neg (by simpa using h24),plF,if_neg h24]
  by_cases h19:x.1=19
  ·have hv:=hL' h19
   have hia:0≤x.2.1∧x.2.1<len a:=by simp only[len];omega
   have hio:0≤x.2.1∧x.2.1<len o:=by simp only[len];omega
   rw[if_pos (by simpa using h19),if_pos h19,if_pos hia]
   by_cases ha0:a.getD x.2.1.toNat 0=0
   ·rw[if_neg (by simpa using ha0)]
    by_cases hp0:p=0
    ·rw[if_pos (by simpa using hp0),if_pos (.inr hp0)]
    ·rw[if_neg (by simpa using hp0),if_pos hio,if_pos hia,if_neg (show ¬(a.getD x.2.1.toNat 0≠0∨p=0) by intro h;rcases h with h|h;exact h ha0;exact hp0 h)]
     exact ih (i+1) p _ _ _ (by omega) (by omega) hp (by omega) (by rw[List.length_set];exact ho) (by rw[List.length_set];exact ha)
   ·rw[if_pos (by simpa using ha0),if_pos (.inl ha0)]
  ·rw[if_neg (by simpa using h19),if_neg h19]
   exact ih (i+1) p m o a (by omega) (by omega) hp (by omega) ho ha
def An8(l:OpL)(procs labels:Int):Option (Bool×List Int×List Int) :=
 match plF 0 l 0 0 (List.replicate (labels+1).toNat 0) (List.replicate (labels+1).toNat 0) with
 |none=>none
 |some (p,m,o,a)=>some (p==procs&&m==labels,o,a)
theorem B0b{R:Type}(N:Nat)(nm:List UInt8)(dat:Adt)(l:OpL)(gl:Af7)(procs labels:Int)(hl:l.length<N)(hl2:l.length≤1099511627776)(hb:0≤labels∧labels≤1000000)(hL:∀o,o∈l→o.1=19→1≤o.2.1∧o.2.1≤labels)(K:Bool→List Int→List Int→Option R) :
  Ac5 N nm dat l gl procs labels K=match An8 l procs labels with
   |none=>K false [] []
   |some (b,o,a)=>K b o a:=by
 have hw:wi (labels+1)=labels+1:=Aeh (by omega) (by omega)
 have hg:(0:Int)≤labels+1∧labels+1≤labels+1∧(labels+1)*8≤70368744177664:=by omega
 simp only[Ac5,Bll,hw,if_pos hg]
 have h:=C5n N nm dat l gl procs labels hl2 hL (fun e f g=>K e f g) (fun i j s t u v n q c d=>if (i==n)=true then K (j==q) c d else K false c d) N 0 0 0
  (List.replicate (labels+1).toNat 0) (List.replicate (labels+1).toNat 0) (by omega) (by omega) (by omega) (by omega) (by simp;omega) (by simp;omega)
 rw[show ((0:Nat):Int)=0 from rfl,List.drop_zero]at h
 rw[h]
 unfold An8
 cases plF 0 l 0 0 (List.replicate (labels+1).toNat 0) (List.replicate (labels+1).toNat 0) with
 |none=>rfl
 |some r=>
  obtain⟨p,m,o,a⟩:=r
  dsimp only
  cases hpp:p==procs<;>simp[hpp]
def Ajs(nd procs labels:Int)(x:Int×Int×Int):Bool:=decide (1≤x.1)&&decide (x.1≤30)&&A2g x.1 x.2.1 x.2.2 nd procs labels
theorem Db4{R:Type}(N:Nat)(nm:List UInt8)(data:Adt)(l:OpL)(gl:Af7)(procs labels:Int)(hl:l.length≤1099511627776)(hd:data.length≤1000000)(a:Bool→Option R)(b:List UInt8→Adt→OpL→Af7→Int→Int→Option R) :
  ∀(k i:Nat),i≤l.length→l.length-i<k→
   Aea N k l (len l) i nm data l gl procs labels Ao8 a b=if (l.drop i).all (Ajs data.length procs labels) then b nm data l gl procs labels else a false:=by
 intro k
 induction k with
 |zero=>intro i _ h;omega
 |succ k ih=>
  intro i hi hk
  simp only[Aea,Bd6]
  by_cases hlt:i<l.length
  case neg=>
   rw[if_neg (by simp[len];omega),List.drop_eq_nil_of_le (by omega)]
   simp
  have hin:(0:Int)≤i∧(i:Int)<len l:=by simp only[len];omega
  have hd':l.drop i=l[i]::l.drop (i+1):=List.drop_eq_getElem_cons hlt
  rw[if_pos (by simp[len];omega),if_pos hin,Akp _ _ hlt,Aco (by omega),hd',List.all_cons]
  obtain⟨x,hx⟩:∃x,l[i]=x:=⟨_,rfl⟩
  simp only[hx]
  by_cases h1:x.1<1
  ·rw[if_pos (by simpa using h1)]
   have:Ajs data.length procs labels x=false:=by unfold Ajs;simp;omega
   rw[this];simp
  rw[if_neg (by simpa using h1)]
  by_cases h2:x.1≥31
  ·rw[if_pos (by simpa using h2)]
   have:Ajs data.length procs labels x=false:=by unfold Ajs;simp;omega
   rw[this];simp
  rw[if_neg (by simpa using h2),if_pos (by omega),if_pos (show x.1<len Ao8 from by simp only[len,Ao8,List.length_cons,List.length_nil];omega),
   show List.getD Ao8 (Int.toNat x.1) (([]:List UInt8),((0:Int),((0:Int),(0:Int))))=kT x.1 from rfl,
   Cmi N _ _ _ _ _ _ _ _ _ hd (by omega)]
  have:Ajs data.length procs labels x=A2g x.1 x.2.1 x.2.2 data.length procs labels:=by
   unfold Ajs
   rw[show decide (1≤x.1)=true by simp;omega,show decide (x.1≤30)=true by simp;omega];rfl
  rw[this,ih (i+1) (by omega) (by omega)]
  cases A2g x.1 x.2.1 x.2.2 data.length procs labels<;>rfl
def Aaj(x:Int×Int×Int):Int:=if x.1=20∨x.1=21∨x.1=22∨x.1=27∨x.1=29 then x.2.1 else if x.1=30 then x.2.2 else 0
theorem Bbp{R:Type}(N:Nat)(a b c:Int)(K:Int→Option R):Aby N a b c K=K (Aaj (a,b,c)):=by
 simp only[Aby,Bpr,Afk,Aaj]
 by_cases h1:a=20
 ·simp[h1]
 by_cases h2:a=21
 ·simp[h2]
 by_cases h3:a=22
 ·simp[h3]
 by_cases h4:a=27
 ·simp[h4]
 by_cases h5:a=29
 ·simp[h5]
 by_cases h6:a=30
 ·simp[h6]
 simp[h1,h2,h3,h4,h5,h6]
theorem Bnd{nd procs labels:Int}{x:Int×Int×Int}(h:Ajs nd procs labels x=true):Aaj x=0∨(1≤Aaj x∧Aaj x≤labels):=by
 obtain⟨op,n,m⟩:=x
 simp only[Ajs,Bool.and_eq_true,decide_eq_true_eq]at h
 obtain⟨⟨h1,h2⟩,h3⟩:=h
 rcases B21 ⟨h1,h2⟩ with rfl|rfl|rfl|rfl|rfl|rfl|rfl|rfl|rfl|rfl|rfl|rfl|rfl|rfl|rfl|rfl|rfl|rfl|rfl|rfl|rfl|rfl|rfl|rfl|rfl|rfl|rfl|rfl|rfl|rfl <;>
  simp[Aaj]<;>simp[A2g,inB]at h3<;>omega
def A1p:Int→OpL→List Int→List Int→Bool
 | _,[],_,_=>true
 |p,x::r,o,a=>
  let p':=if x.1=24 then x.2.1 else p
  (decide (Aaj x≤0)||(a.getD (Aaj x).toNat 0==p'&&o.getD (Aaj x).toNat 0 != 0))&&A1p p' r o a
theorem Db5{R:Type}(N:Nat)(p:Int)(l:OpL)(ll i:Int)(o a:List Int)(x:Int×Int×Int)(h:Aaj x=0∨(1≤Aaj x∧Aaj x<a.length))(hoa:o.length=a.length)(b:Bool→Option R)(c:Int→OpL→Int→Int→List Int→List Int→Option R) :
  Aem N p l ll i o a x.1 x.2.1 x.2.2 b c=if (decide (Aaj x≤0)||(a.getD (Aaj x).toNat 0==p&&o.getD (Aaj x).toNat 0 != 0))=true then c p l ll i o a else b false:=by
 simp only[Aem,Bei,Bbp]
 rw[show (x.1,x.2.1,x.2.2)=x from rfl]
 by_cases h0:Aaj x > 0
 ·have ha:0≤Aaj x∧Aaj x<len a:=by simp only[len];omega
  have ho:0≤Aaj x∧Aaj x<len o:=by simp only[len];omega
  rw[if_pos (by simpa using h0),if_pos ha,if_pos ho,show decide (Aaj x≤0)=false by simp;omega,Bool.false_or]
  generalize a.getD (Aaj x).toNat 0=u
  generalize o.getD (Aaj x).toNat 0=v
  by_cases h1:u=p
  ·by_cases h2:v=0
   ·simp[h1,h2]
   ·simp[h1,h2]
  ·simp[h1]
 ·rw[if_neg (by simpa using h0),show decide (Aaj x≤0)=true by simp;omega,Bool.true_or,if_pos rfl]
theorem Db6{R:Type}(N:Nat)(l:OpL)(o a:List Int)(hl:l.length≤1099511627776)(hoa:o.length=a.length)(hn:∀x,x∈l→Aaj x=0∨(1≤Aaj x∧Aaj x<a.length))(b:Bool→Option R)(c:Option R) :
  ∀(k i:Nat) (p:Int),i≤l.length→l.length-i<k→
   Ad1 N k p l (len l) i o a b c=if A1p p (l.drop i) o a then c else b false:=by
 intro k
 induction k with
 |zero=>intro i _ _ h;omega
 |succ k ih=>
  intro i p hi hk
  simp only[Ad1,Bek]
  by_cases hlt:i<l.length
  case neg=>
   rw[if_neg (by simp[len];omega),List.drop_eq_nil_of_le (by omega)]
   simp[A1p]
  have hin:(0:Int)≤i∧(i:Int)<len l:=by simp only[len];omega
  have hd':l.drop i=l[i]::l.drop (i+1):=List.drop_eq_getElem_cons hlt
  have hx':=hn l[i] (List.getElem_mem hlt)
  rw[if_pos (by simp[len];omega),if_pos hin,Akp _ _ hlt,hd',A1p]
  obtain⟨x,hx⟩:∃x,l[i]=x:=⟨_,rfl⟩
  simp only[hx]at hx' ⊢
  by_cases h24:x.1=24
  ·rw[if_pos (by simpa using h24),if_pos h24,Db5 N _ l _ _ o a x hx' hoa,Aco (by omega),ih (i+1) _ (by omega) (by omega)]
   cases (decide (Aaj x≤0)||(a.getD (Aaj x).toNat 0==x.2.1&&o.getD (Aaj x).toNat 0 != 0))<;>rfl
  ·rw[if_neg (by simpa using h24),if_neg h24,Db5 N _ l _ _ o a x hx' hoa,Aco (by omega),ih (i+1) _ (by omega) (by omega)]
   cases (decide (Aaj x≤0)||(a.getD (Aaj x).toNat 0==p&&o.getD (Aaj x).toNat 0 != 0))<;>rfl
theorem C6r:∀(l:OpL) (i:Nat) (p m:Int) (o a:List Int) (r:Int×Int×List Int×List Int),plF i l p m o a=some r→r.2.2.1.length=o.length∧r.2.2.2.length=a.length:=by
 intro l
 induction l with
 |nil=>intro i p m o a r h;simp only[plF,Option.some.injEq]at h;subst h;exact⟨rfl,rfl⟩
 |cons x l ih=>
  intro i p m o a r h
  rw[plF]at h
  split at h
  ·split at h
   ·exact ih _ _ _ _ _ _ h
   ·cases h
  ·split at h
   ·split at h
    ·cases h
    ·have:=ih _ _ _ _ _ _ h
     simpa using this
   ·exact ih _ _ _ _ _ _ h
theorem B03{l:OpL}{procs labels:Int}{r:Bool×List Int×List Int}(h:An8 l procs labels=some r):r.2.1.length=(labels+1).toNat∧r.2.2.length=(labels+1).toNat:=by
 unfold An8 at h
 split at h
 ·cases h
 ·rename_i p m o a he
  have:=C6r _ _ _ _ _ _ _ he
  simp only[Option.some.injEq]at h
  subst h
  simpa using this
def Bo1(nm:List UInt8)(data:Adt)(l:OpL)(gl:Af7)(procs labels:Int):Bool :=
 Axw nm==0&&decide (0≤procs)&&decide (0≤labels)&&l.all (Ajs data.length procs labels) &&
 (match An8 l procs labels with
  |none=>false
  |some (b,o,a)=>b&&(Afn 0 l&&An7 l)&&Bxk data gl procs&&A1p 0 l o a)
theorem Cml{nd procs labels:Int}{x:Int×Int×Int}(h:Ajs nd procs labels x=true)(h29:x.1=29):0≤x.2.2∧x.2.2≤1000:=by
 obtain⟨op,n,m⟩:=x
 simp only at h29;subst h29
 simp[Ajs,A2g,inB]at h
 exact h.2
theorem Bmt{nd procs labels:Int}{x:Int×Int×Int}(h:Ajs nd procs labels x=true)(h19:x.1=19):1≤x.2.1∧x.2.1≤labels:=by
 obtain⟨op,n,m⟩:=x
 simp only at h19;subst h19
 simp[Ajs,A2g,inB]at h
 exact h.1
structure Cuk(N:Nat)(nm:List UInt8)(data:Adt)(l:OpL)(gl:Af7)(procs labels:Int):Prop where
 n1:nm.length≤1099511627776
 n2:nm.length<N
 l1:l.length<N
 l2:l.length≤1099511627776
 d1:B23 data
 d2:data.length≤2000
 d3:∀d,d∈data→d.1.length<N∧d.2.2.length<N
 N1:2000<N
 g1:gl.length<N
 g2:gl.length≤1099511627776
 lb:labels≤20000
 pb:procs≤200
theorem Cul{R:Type}{N:Nat}{nm:List UInt8}{data:Adt}{l:OpL}{gl:Af7}{procs labels:Int}(F:Cuk N nm data l gl procs labels)(K:Bool→Option R) :
  Amz N nm data l gl procs labels K=K (Bo1 nm data l gl procs labels):=by
 simp only[Amz,Bpt]
 obtain⟨r,hq⟩:=Cdl N nm F.n1 F.n2
 rw[hq]
 unfold Bo1
 by_cases h1:Axw nm=0
 case neg=>
  rw[if_pos (by simpa using h1),show (Axw nm==0)=false by simpa using h1];rfl
 rw[if_neg (by simpa using h1),show (Axw nm==0)=true by simpa using h1,Bool.true_and]
 by_cases h2:procs<0
 ·rw[if_pos (by simpa using h2),show decide (0≤procs)=false by simp;omega];rfl
 rw[if_neg (by simpa using h2),show decide (0≤procs)=true by simp;omega,Bool.true_and]
 by_cases h3:labels<0
 ·rw[if_pos (by simpa using h3),show decide (0≤labels)=false by simp;omega];rfl
 rw[if_neg (by simpa using h3),show decide (0≤labels)=true by simp;omega,Bool.true_and]
 simp only[Ab2]
 have hloop:=Db4 (R:=R) N nm data l gl procs labels F.l2 (by have:=F.d2;omega) (fun m=>K m) (fun e f c g i j=>Ac5 N e f c g i j (fun n p q=>if ((!n)=true) then (K false) else (Af2 N c (fun s=>if ((!s)=true) then (K false) else (Af3 N e f c g i j (fun t=>if ((!t)=true) then (K false) else (Ad1 N N 0 c ((len c)) 0 p q (fun d=>K d) (K true)))))))) N 0 (by omega) (by have:=F.l1;omega)
 rw[List.drop_zero]at hloop
 refine Eq.trans hloop ?_
 by_cases hn:l.all (Ajs data.length procs labels)=true
 case neg=>
  rw[if_neg hn,show l.all (Ajs data.length procs labels)=false by simpa using hn];rfl
 rw[if_pos hn,hn,Bool.true_and]
 have hall:∀o,o∈l→Ajs data.length procs labels o=true:=List.all_eq_true.mp hn
 rw[B0b N _ _ _ _ _ _ F.l1 F.l2 ⟨by omega,by have:=F.lb;omega⟩ (fun o ho h=>Bmt (hall o ho) h)]
 cases hp:An8 l procs labels with
 |none=>rfl
 |some r=>
  obtain⟨b,o,a⟩:=r
  have hlen:=B03 hp
  simp only at hlen
  dsimp only
  cases b
  ·rfl
  rw[if_neg (by decide),Cuj N _ F.l1 F.l2 (by have:=F.N1;omega) (fun o ho h=>Cml (hall o ho) h),Bool.true_and]
  cases Afn 0 l&&An7 l
  ·rfl
  rw[if_neg (by decide),Cuh N _ _ _ _ _ _ F.d1 F.d2 F.d3 F.N1 F.g1 F.g2,Bool.true_and]
  cases Bxk data gl procs
  ·rfl
  rw[if_neg (by decide),Bool.true_and]
  have hu:=Db6 (R:=R) N l o a F.l2 (by omega) (fun x hx=>by
   rcases Bnd (hall x hx) with h|h
   ·exact .inl h
   ·exact .inr ⟨h.1,by omega⟩) (fun d=>K d) (K true) N 0 0 (by omega) (by have:=F.l1;omega)
  rw[List.drop_zero]at hu
  refine Eq.trans hu ?_
  cases A1p 0 l o a<;>rfl
def Az6:OpL→Nat
 |[]=>0
 |x::r=>if x.1=19 then Az6 r+1 else 0
def Aeu(l:OpL)(j:Nat):Nat:=j+Az6 (l.drop j)
theorem Dfq:∀l:OpL,l≠[]→(∀o,l.getLast? = some o→o.1≠19)→Az6 l<l.length:=by
 intro l
 induction l with
 |nil=>intro h;exact absurd rfl h
 |cons x r ih=>
  intro _ h
  rw[Az6]
  by_cases h19:x.1=19
  ·rw[if_pos h19]
   cases r with
   |nil=>exact absurd h19 (h x rfl)
   |cons y r=>
    have:=ih (by simp) (fun o ho=>h o (by rw[List.getLast?_cons_cons];exact ho))
    simp only[List.length_cons]at this ⊢;omega
  ·rw[if_neg h19];simp
theorem Db7:∀(l:OpL) (c:Nat),Afn c l=true→∀o,l.getLast? = some o→o.1≠19:=by
 intro l
 induction l with
 |nil=>intro c _ o h;cases h
 |cons x r ih=>
  intro c h o ho
  cases r with
  |nil=>
   simp only[List.getLast?_singleton,Option.some.injEq]at ho
   subst ho
   cases c with
   |zero=>
    intro h19
    rw[Afn,h19]at h
    simp[A4y,Aey,h19]at h
   |succ c=>
    simp only[Afn,Bool.and_eq_true,beq_iff_eq]at h
    omega
  |cons y r=>
   rw[List.getLast?_cons_cons]at ho
   cases c with
   |zero=>
    rw[Afn]at h
    simp only[Bool.and_eq_true]at h
    obtain⟨_,h⟩:=h
    split at h
    ·exact ih _ h o ho
    ·simp only[Bool.and_eq_true]at h
     exact ih _ h.2 o ho
   |succ c=>
    simp only[Afn,Bool.and_eq_true]at h
    exact ih c (by simpa [Afn]using h.2) o ho
theorem Bo2{l:OpL}(h:Afn 0 l=true){j:Nat}(hj:j<l.length):Aeu l j<l.length:=by
 have:=Dfq (l.drop j) (by intro h0;have:=congrArg List.length h0;simp at this;omega) (fun o ho=>by
  rw[List.getLast?_drop,if_neg (by omega)]at ho
  exact Db7 l 0 h o ho)
 rw[List.length_drop]at this
 unfold Aeu;omega
theorem C9h{R:Type}(N:Nat)(l:OpL)(hl:l.length≤1099511627776)(K:Int→Option R):∀(k j:Nat),Aeu l j<l.length→l.length-j<k→
  Ag8 N k l j K=K (Aeu l j:Nat):=by
 intro k
 induction k with
 |zero=>intro j _ h;omega
 |succ k ih=>
  intro j hj hk
  have hjl:j<l.length:=by unfold Aeu at hj;omega
  have hin:(0:Int)≤j∧(j:Int)<len l:=by simp only[len];omega
  have hd':l.drop j=l[j]::l.drop (j+1):=List.drop_eq_getElem_cons hjl
  simp only[Ag8,Bhu]
  rw[if_pos hin,Akp _ _ hjl,Aco (by omega)]
  by_cases h19:l[j].1=19
  ·have:Aeu l j=Aeu l (j+1):=by unfold Aeu;rw[hd',Az6,if_pos h19];omega
   rw[if_pos (by simpa using h19),ih (j+1) (by omega) (by omega),this]
  ·have:Aeu l j=j:=by unfold Aeu;rw[hd',Az6,if_neg h19];rfl
   rw[if_neg (by simpa using h19),this]
theorem B24{R:Type}(N:Nat)(l:OpL)(j:Int)(hl:l.length≤1099511627776)(hN:l.length<N)(ho:Afn 0 l=true)(h0:0≤j)(hj:j<l.length)(K:Int→Option R) :
  Ae7 N l j K=K (Aeu l j.toNat:Nat):=by
 obtain⟨n,rfl⟩:=Int.eq_ofNat_of_zero_le h0
 simp only[Ae7,Bpy]
 exact C9h N l hl K N n (Bo2 ho (by omega)) (by omega)
def Brl(x:Int×Int×Int)(d:Int)(flag:Bool):Bool :=
 (if x.1=2∨x.1=3 then inB x.2.1 2 (d-1) else if x.1=4 then decide (2≤x.2.1) else if x.1=23 then inB x.2.1 2 (d-3)
  else if x.1=18 then flag||decide (x.2.1≤d+2000+2) else true)&&(x.1==24||decide (2≤d-(kT x.1).2.2.1))
theorem Cum(op:Int):0≤(kT op).2.2.1∧(kT op).2.2.1≤3∧0≤(kT op).2.2.2∧(kT op).2.2.2≤1:=by
 unfold kT
 generalize op.toNat=n
 by_cases h:n<31
 ·revert n;decide
 ·rw[List.getD_eq_getElem?_getD,List.getElem?_eq_none (by simp only[Ao8,List.length_cons,List.length_nil];omega)]
  decide
theorem B6g{R:Type}(N:Nat)(x:Int×Int×Int)(d:Int)(flag:Bool)(hd:0≤d∧d≤4000)(K:Bool→Option R) :
  Ais N x.1 x.2.1 x.2.2 d (kT x.1).1 (kT x.1).2.1 (kT x.1).2.2.1 (kT x.1).2.2.2 flag K=K (Brl x d flag):=by
 obtain⟨op,n,m⟩:=x
 have hp:=Cum op
 unfold Brl
 simp only
 generalize kT op=kk at hp ⊢
 have w1:wi (d-1)=d-1:=Aeh (by omega) (by omega)
 have w3:wi (d-3)=d-3:=Aeh (by omega) (by omega)
 have w2:wi (wi (d+2000)+2)=d+2000+2:=by rw[Aeh (i:=d+2000) (by omega) (by omega),Aeh (by omega) (by omega)]
 have wp:wi (d-kk.2.2.1)=d-kk.2.2.1:=Aeh (by omega) (by omega)
 simp only[Ais,Buz,Ahj,Bln,Af8,A46,w1,w2,w3,wp]
 by_cases h2:op=2
 ·subst h2;cases inB n 2 (d-1)<;>simp
 by_cases h3:op=3
 ·subst h3;cases inB n 2 (d-1)<;>simp
 by_cases h4:op=4
 ·subst h4
  by_cases hn:n<2
  ·simp[hn,show ¬2≤n by omega]
  ·simp[hn,show 2≤n by omega]
 by_cases h23:op=23
 ·subst h23;cases inB n 2 (d-3)<;>simp
 by_cases h18:op=18
 ·subst h18
  cases flag
  ·by_cases hn:n≤d+2000+2
   ·simp[hn,show ¬(d+2000+2<n) by omega]
   ·simp[hn,show d+2000+2<n by omega]
  ·simp
 by_cases h24:op=24
 ·subst h24;simp
 have b24:(op==24)=false:=by simpa using h24
 simp[h2,h3,h4,h23,h18,h24,b24]
def Aip(x:Int×Int×Int)(d:Int):Int :=
 if x.1=18 then x.2.1 else if x.1=24 then 2+x.2.2 else if x.1=23∨x.1=28 then x.2.1+1 else d-(kT x.1).2.2.1+(kT x.1).2.2.2
theorem Bmu{R:Type}(N:Nat)(x:Int×Int×Int)(d:Int)(hd:0≤d∧d≤4000)(hx:x.1=24∨x.1=23∨x.1=28→0≤x.2.1∧x.2.1≤4000∧0≤x.2.2∧x.2.2≤4000)(K:Int→Option R) :
  Adv N x.1 x.2.1 x.2.2 d (kT x.1).1 (kT x.1).2.1 (kT x.1).2.2.1 (kT x.1).2.2.2 K=K (Aip x d):=by
 obtain⟨op,n,m⟩:=x
 have hp:=Cum op
 simp only at hx
 unfold Aip
 simp only
 generalize kT op=kk at hp ⊢
 simp only[Adv,Bpv,Afl,Af0]
 by_cases h18:op=18
 ·simp[h18]
 by_cases h24:op=24
 ·rw[show wi (2+m)=2+m from Aeh (by have:=hx (.inl h24);omega) (by have:=hx (.inl h24);omega)]
  simp[h24]
 by_cases h23:op=23
 ·rw[show wi (n+1)=n+1 from Aeh (by have:=hx (.inr (.inl h23));omega) (by have:=hx (.inr (.inl h23));omega)]
  simp[h23]
 by_cases h28:op=28
 ·rw[show wi (n+1)=n+1 from Aeh (by have:=hx (.inr (.inr h28));omega) (by have:=hx (.inr (.inr h28));omega)]
  simp[h28]
 rw[show wi (wi (d-kk.2.2.1)+kk.2.2.2)=d-kk.2.2.1+kk.2.2.2 by
  rw[Aeh (i:=d-kk.2.2.1) (by omega) (by omega),Aeh (by omega) (by omega)]]
 simp[h18,h24,h23,h28]
noncomputable def Cdo{R:Type}(N:Nat)(rc:Aty R)(x:Int)(e:OpL)(f g:Int)(h:List UInt8)(i:Adt)(a:OpL)(j:Af7)(l m:Int)(b:List Int)(d:List (List UInt8×Int×Int×Int))(o:Bool→Option R)(n v w:Int)(y:List UInt8)(z A B:Int):Option R :=
 (if (((0:Int)≤n)∧(n<(31:Int))) then (if (n<(len d)) then (Adv N n v w x y z A B (fun c=>if ((decide ((c<(2:Int))))=true) then (o false) else (if ((decide ((c > (4000:Int))))=true) then (o false) else (Aby N n v w (fun p=>if ((decide ((p > (0:Int))))=true) then (if (((0:Int)≤p)∧(p<(len b))) then (Ae7 N a ((List.getD b (Int.toNat p) (0:Int))) (fun s=>if (((0:Int)≤s)∧(s<(len a))) then (if ((!(((List.getD a (Int.toNat s) ((0:Int),((0:Int),(0:Int)))).1==(28:Int))==(n==(27:Int))))=true) then (o false) else (if ((n != (19:Int))=true) then (Acg N a g (fun C=>if ((!C)=true) then (let q:=(wi (g+(1:Int)));if ((decide ((q<(len a))))=true) then (Ae7 N a q (fun t=>if (((0:Int)≤t)∧(t<(len a))) then (if (((List.getD a (Int.toNat t) ((0:Int),((0:Int),(0:Int)))).1==(28:Int))=true) then (o false) else (rc c e f q h i a j l m b d)) else none)) else (rc c e f q h i a j l m b d)) else (rc c e f ((wi (g+(1:Int)))) h i a j l m b d))) else (rc c e f ((wi (g+(1:Int)))) h i a j l m b d))) else none)) else none) else (if ((n != (19:Int))=true) then (Acg N a g (fun D=>if ((!D)=true) then (let r:=(wi (g+(1:Int)));if ((decide ((r<(len a))))=true) then (Ae7 N a r (fun u=>if (((0:Int)≤u)∧(u<(len a))) then (if (((List.getD a (Int.toNat u) ((0:Int),((0:Int),(0:Int)))).1==(28:Int))=true) then (o false) else (rc c e f r h i a j l m b d)) else none)) else (rc c e f r h i a j l m b d)) else (rc c e f ((wi (g+(1:Int)))) h i a j l m b d))) else (rc c e f ((wi (g+(1:Int)))) h i a j l m b d))))))) else none) else none)
theorem C4f{R:Type}(N:Nat)(rc:Aty R)(e:Int)(d:OpL)(h a:Int)(p:List UInt8)(q:Adt)(f:OpL)(r:Af7)(s t:Int)(u:List Int)(c:List (List UInt8×Int×Int×Int))(g:Bool→Option R)(w:Option R) :
  A8g @Ais @Adv @Aby @Ae7 @Acg N rc e d h a p q f r s t u c g w =
  if ((decide ((a<h)))=true) then (if (((0:Int)≤a)∧(a<(len d))) then (let b:=(List.getD d (Int.toNat a) ((0:Int),((0:Int),(0:Int)))).1;let i:=(List.getD d (Int.toNat a) ((0:Int),((0:Int),(0:Int)))).2.1;let j:=(List.getD d (Int.toNat a) ((0:Int),((0:Int),(0:Int)))).2.2;if (((0:Int)≤b)∧(b<(31:Int))) then (if (b<(len c)) then (let l:=(List.getD c (Int.toNat b) (([]:List UInt8),((0:Int),((0:Int),(0:Int))))).1;let m:=(List.getD c (Int.toNat b) (([]:List UInt8),((0:Int),((0:Int),(0:Int))))).2.1;let n:=(List.getD c (Int.toNat b) (([]:List UInt8),((0:Int),((0:Int),(0:Int))))).2.2.1;let o:=(List.getD c (Int.toNat b) (([]:List UInt8),((0:Int),((0:Int),(0:Int))))).2.2.2;if ((decide ((a > (0:Int))))=true) then (let v:=(wi (a-(1:Int)));if (((0:Int)≤v)∧(v<(len f))) then (Ais N b i j e l m n o (((List.getD f (Int.toNat v) ((0:Int),((0:Int),(0:Int)))).1==(19:Int))) (fun x=>if ((!x)=true) then (g false) else Cdo N rc e d h a p q f r s t u c g b i j l m n o)) else none)
   else (Ais N b i j e l m n o false (fun y=>if ((!y)=true) then (g false) else Cdo N rc e d h a p q f r s t u c g b i j l m n o))) else none) else none) else none) else w:=rfl
def Bs7(l:OpL)(o:List Int)(i:Nat)(x:Int×Int×Int)(d:Int):Bool :=
 decide (2≤Aip x d)&&decide (Aip x d≤4000) &&
 (decide (Aaj x≤0)||(((Aak l (Aeu l (o.getD (Aaj x).toNat 0).toNat)).1==28)==(x.1==27))) &&
 (x.1==19||Atq l i||decide (l.length≤i+1)||(Aak l (Aeu l (i+1))).1 != 28)
theorem C9i{R:Type}(N:Nat)(l:OpL)(i:Nat)(op:Int)(hl:l.length≤1099511627776)(hN:l.length<N)(ho:Afn 0 l=true)(hi:i<l.length)(F:Option R)(G:Int→Option R) :
  (if ((op != (19:Int))=true) then (Acg N l (i:Int) (fun c=>if ((!c)=true) then (let a:=(wi ((i:Int)+(1:Int)));if ((decide ((a<(len l))))=true) then (Ae7 N l a (fun b=>if (((0:Int)≤b)∧(b<(len l))) then (if (((List.getD l (Int.toNat b) ((0:Int),((0:Int),(0:Int)))).1==(28:Int))=true) then F else (G a)) else none)) else (G a)) else (G (wi ((i:Int)+(1:Int)))))) else (G (wi ((i:Int)+(1:Int)))))
   = if (op==19||Atq l i||decide (l.length≤i+1)||(Aak l (Aeu l (i+1))).1 != 28)=true then G ((i+1:Nat):Int) else F:=by
 rw[Brk N l i hl hi,Aco (by omega)]
 by_cases h19:op=19
 ·simp[h19]
 rw[if_pos (by simpa using h19),show (op==19)=false by simpa using h19,Bool.false_or]
 cases Atq l i
 case true=>rfl
 rw[if_pos (by decide),Bool.false_or]
 dsimp only
 by_cases hlt:i+1<l.length
 ·rw[if_pos (by simp only[len,decide_eq_true_eq];omega),B24 N l _ hl hN ho (by omega) (by omega),Int.toNat_natCast]
  have h1:=Bo2 ho hlt
  rw[if_pos (by simp only[len];omega),show decide (l.length≤i+1)=false by simp;omega,Bool.false_or]
  show (if ((Aak l (Aeu l (i+1))).1==28)=true then F else _)=_
  unfold bne
  cases (Aak l (Aeu l (i+1))).1==28<;>rfl
 ·rw[if_neg (by simp only[len,decide_eq_true_eq];omega),show decide (l.length≤i+1)=true by simp;omega];rfl
theorem Db8{R:Type}(N:Nat)(rc:Aty R)(d:Int)(nm:List UInt8)(data:Adt)(l:OpL)(gl:Af7)(procs labels:Int)(o:List Int)(i:Nat)(a:Bool→Option R)(x:Int×Int×Int)(hd:0≤d∧d≤4000)(hx:1≤x.1∧x.1≤30)(hx2:x.1=24∨x.1=23∨x.1=28→0≤x.2.1∧x.2.1≤4000∧0≤x.2.2∧x.2.2≤4000)(hn:Aaj x=0∨(1≤Aaj x∧Aaj x<o.length))(hl:l.length≤1099511627776)(hN:l.length<N)(ho:Afn 0 l=true)(hi:i<l.length)(hov:∀n,0≤o.getD n 0∧o.getD n 0<l.length) :
  Cdo N rc d l (len l) i nm data l gl procs labels o Ao8 a x.1 x.2.1 x.2.2 (kT x.1).1 (kT x.1).2.1 (kT x.1).2.2.1 (kT x.1).2.2.2 =
   if Bs7 l o i x d=true then rc (Aip x d) l (len l) ((i+1:Nat):Int) nm data l gl procs labels o Ao8 else a false:=by
 unfold Cdo Bs7
 rw[if_pos (by omega),if_pos (show x.1<len Ao8 from by simp only[len,Ao8,List.length_cons,List.length_nil];omega),Bmu N x d hd hx2]
 by_cases h1:Aip x d<2
 ·rw[if_pos (by simpa using h1),show decide (2≤Aip x d)=false by simp;omega];rfl
 rw[if_neg (by simpa using h1),show decide (2≤Aip x d)=true by simp;omega,Bool.true_and]
 by_cases h2:Aip x d > 4000
 ·rw[if_pos (by simpa using h2),show decide (Aip x d≤4000)=false by simp;omega];rfl
 rw[if_neg (by simpa using h2),show decide (Aip x d≤4000)=true by simp;omega,Bool.true_and,Bbp,show (x.1,x.2.1,x.2.2)=x from rfl]
 have he:=C9i (R:=R) N l i x.1 hl hN ho hi (a false) (fun v=>rc (Aip x d) l (len l) v nm data l gl procs labels o Ao8)
 by_cases h3:Aaj x > 0
 ·have hv:=hov (Aaj x).toNat
  have h4:=Bo2 ho (j:=(o.getD (Aaj x).toNat 0).toNat) (by omega)
  rw[if_pos (by simpa using h3),if_pos (by simp only[len];omega),B24 N l _ hl hN ho hv.1 hv.2,if_pos (by simp only[len];omega),show decide (Aaj x≤0)=false by simp;omega,Bool.false_or]
  show (if (!((Aak l (Aeu l (o.getD (Aaj x).toNat 0).toNat)).1==28)==(x.1==27))=true then _ else _)=_
  cases (((Aak l (Aeu l (o.getD (Aaj x).toNat 0).toNat)).1==28)==(x.1==27))
  ·rfl
  ·rw[if_neg (by decide),Bool.true_and];exact he
 ·rw[if_neg (by simpa using h3),show decide (Aaj x≤0)=true by simp;omega,Bool.true_or,Bool.true_and];exact he
def Bdx(l:OpL)(i:Nat):Bool:=decide (0<i)&&(Aak l (i-1)).1==19
def Bgc(l:OpL)(o:List Int):Nat→Int→OpL→Bool
 | _,_,[]=>true
 |i,d,x::r=>Brl x d (Bdx l i)&&Bs7 l o i x d&&Bgc l o (i+1) (Aip x d) r
theorem Bgd{nd procs labels:Int}(hp:procs≤200){x:Int×Int×Int}(h:Ajs nd procs labels x=true)(hc:x.1=24∨x.1=23∨x.1=28):0≤x.2.1∧x.2.1≤4000∧0≤x.2.2∧x.2.2≤4000:=by
 obtain⟨op,n,m⟩:=x
 simp only at hc
 rcases hc with rfl|rfl|rfl<;>simp[Ajs,A2g,inB]at h<;>simp only<;>omega
theorem Bge{nd procs labels:Int}{x:Int×Int×Int}(h:Ajs nd procs labels x=true):1≤x.1∧x.1≤30:=by
 simp only[Ajs,Bool.and_eq_true,decide_eq_true_eq]at h;exact h.1
theorem C4g{R:Type}(N:Nat)(nm:List UInt8)(data:Adt)(l:OpL)(gl:Af7)(procs labels:Int)(o:List Int)(nd:Int)(hp:procs≤200)(hl:l.length≤1099511627776)(hN:l.length<N)(ho:Afn 0 l=true)(hall:∀x,x∈l→Ajs nd procs labels x=true)(hlen:(o.length:Int)=labels+1)(hov:∀n,0≤o.getD n 0∧(0<l.length→o.getD n 0<l.length))(a:Bool→Option R)(c:Option R) :
  ∀(k i:Nat) (d:Int),i≤l.length→l.length-i<k→0≤d∧d≤4000→
   Aer N k d l (len l) i nm data l gl procs labels o Ao8 a c=if Bgc l o i d (l.drop i) then c else a false:=by
 intro k
 induction k with
 |zero=>intro i _ _ h;omega
 |succ k ih=>
  intro i d hi hk hd
  simp only[Aer,C4f]
  by_cases hlt:i<l.length
  case neg=>
   rw[if_neg (by simp[len];omega),List.drop_eq_nil_of_le (by omega)]
   simp[Bgc]
  have hin:(0:Int)≤i∧(i:Int)<len l:=by simp only[len];omega
  have hd':l.drop i=l[i]::l.drop (i+1):=List.drop_eq_getElem_cons hlt
  have hx':=hall l[i] (List.getElem_mem hlt)
  rw[if_pos (by simp[len];omega),if_pos hin,Akp _ _ hlt,hd',Bgc]
  obtain⟨x,hx⟩:∃x,l[i]=x:=⟨_,rfl⟩
  simp only[hx]at hx' ⊢
  have hop:=Bge hx'
  have hnm:Aaj x=0∨(1≤Aaj x∧Aaj x<o.length):=by
   rcases Bnd hx' with h|h
   ·exact .inl h
   ·exact .inr ⟨h.1,by omega⟩
  rw[if_pos (by omega),if_pos (show x.1<len Ao8 from by simp only[len,Ao8,List.length_cons,List.length_nil];omega),
   show List.getD Ao8 (Int.toNat x.1) (([]:List UInt8),((0:Int),((0:Int),(0:Int))))=kT x.1 from rfl]
  have tail:=Db8 N (fun e f g j m p q r s t u v=>Aer N k e f g j m p q r s t u v a c) d nm data l gl procs labels o i a x hd hop (Bgd hp hx') hnm hl hN ho hlt (fun n=>⟨(hov n).1,(hov n).2 (by omega)⟩)
  have fin:∀b,b=Bdx l i→(if (!Brl x d b)=true then a false else Cdo N (fun e f g j m p q r s t u v=>Aer N k e f g j m p q r s t u v a c) d l (len l) i nm data l gl procs labels o Ao8 a x.1 x.2.1 x.2.2 (kT x.1).1 (kT x.1).2.1 (kT x.1).2.2.1 (kT x.1).2.2.2)
    = if (Brl x d (Bdx l i)&&Bs7 l o i x d&&Bgc l o (i+1) (Aip x d) (l.drop (i+1)))=true then c else a false:=by
   intro b hb
   subst hb
   cases Brl x d (Bdx l i)
   ·rfl
   rw[if_neg (by decide),tail,Bool.true_and]
   cases ht:Bs7 l o i x d
   ·rfl
   have hy:0≤Aip x d∧Aip x d≤4000:=by
    simp only[Bs7,Bool.and_eq_true,decide_eq_true_eq]at ht;omega
   rw[if_pos rfl,ih (i+1) _ (by omega) (by omega) hy,Bool.true_and]
  by_cases h0:0<i
  ·have hw:wi ((i:Int)-1)=((i-1:Nat):Int):=by rw[Aeh (by omega) (by omega)];omega
   rw[if_pos (by simp;omega),hw,if_pos (by simp only[len];omega),B6g N x d _ hd]
   exact fin _ (by unfold Bdx Aak;rw[show decide (0<i)=true by simp;omega,Bool.true_and,Int.toNat_natCast])
  ·rw[if_neg (by simp;omega),B6g N x d _ hd]
   exact fin _ (by unfold Bdx;rw[show decide (0<i)=false by simp;omega,Bool.false_and])
theorem Dh3:∀(l:OpL) (i:Nat) (p m:Int) (o a:List Int) (r:Int×Int×List Int×List Int),plF i l p m o a=some r→∀(L:Nat),i+l.length≤L→(∀n,0≤o.getD n 0∧(0<L→o.getD n 0<L))→∀n,0≤r.2.2.1.getD n 0∧(0<L→r.2.2.1.getD n 0<L):=by
 intro l
 induction l with
 |nil=>intro i p m o a r h L _ ho;simp only[plF,Option.some.injEq]at h;subst h;exact ho
 |cons x l ih=>
  intro i p m o a r h L hL ho
  rw[List.length_cons]at hL
  rw[plF]at h
  split at h
  ·split at h
   ·exact ih _ _ _ _ _ _ h L (by omega) ho
   ·cases h
  ·split at h
   ·split at h
    ·cases h
    ·refine ih _ _ _ _ _ _ h L (by omega) (fun n=>?_)
     rw[List.getD_eq_getElem?_getD,List.getElem?_set]
     split
     ·split
      ·simp only[Option.getD_some];omega
      ·simp only[Option.getD_none];omega
     ·rw[←List.getD_eq_getElem?_getD];exact ho n
   ·exact ih _ _ _ _ _ _ h L (by omega) ho
theorem Chp{l:OpL}{procs labels:Int}{r:Bool×List Int×List Int}(h:An8 l procs labels=some r):∀n,0≤r.2.1.getD n 0∧(0<l.length→r.2.1.getD n 0<l.length):=by
 unfold An8 at h
 split at h
 ·cases h
 ·rename_i p m o a he
  have:=Dh3 _ _ _ _ _ _ _ he l.length (by omega) (fun n=>by
   rw[List.getD_eq_getElem?_getD,List.getElem?_replicate]
   split<;>simp<;>omega)
  simp only[Option.some.injEq]at h
  subst h
  exact this
def Bah(l:OpL)(procs labels:Int):Bool :=
 match An8 l procs labels with
 |none=>false
 |some (_,o,_)=>Bgc l o 0 0 l
theorem Cmm{R:Type}{N:Nat}{nm:List UInt8}{data:Adt}{l:OpL}{gl:Af7}{procs labels:Int}(F:Cuk N nm data l gl procs labels)(hc:Bo1 nm data l gl procs labels=true)(K:Bool→Option R) :
  Akx N nm data l gl procs labels K=K (Bah l procs labels):=by
 simp only[Bo1,Bool.and_eq_true,decide_eq_true_eq]at hc
 obtain⟨⟨⟨⟨_,hp0⟩,hl0⟩,hn⟩,hc⟩:=hc
 have hall:∀o,o∈l→Ajs data.length procs labels o=true:=List.all_eq_true.mp hn
 simp only[Akx,Bhy,Ab2]
 rw[B0b N _ _ _ _ _ _ F.l1 F.l2 ⟨by omega,by have:=F.lb;omega⟩ (fun o ho h=>Bmt (hall o ho) h)]
 unfold Bah
 cases hp:An8 l procs labels with
 |none=>rw[hp]at hc;cases hc
 |some r=>
  obtain⟨b,o,a⟩:=r
  rw[hp]at hc
  simp only[Bool.and_eq_true]at hc
  have hlen:=B03 hp
  have hval:=Chp hp
  simp only at hlen hval
  dsimp only
  have hs:=C4g (R:=R) N nm data l gl procs labels o data.length F.pb F.l2 F.l1 hc.1.1.2.1 hall (by omega) hval (fun c=>K c) (K true) N 0 0 (by omega) (by have:=F.l1;omega) (by omega)
  rw[List.drop_zero]at hs
  refine Eq.trans hs ?_
  cases Bgc l o 0 0 l<;>rfl
def Bxl(nm:List UInt8)(data:Adt)(l:OpL)(gl:Af7)(procs labels:Int):Int :=
 if Bag data l procs labels then 2 else if Bo1 nm data l gl procs labels then (if Bah l procs labels then 0 else 61) else 60
structure Cq1(N:Nat)(nm:List UInt8)(data:Adt)(gl:Af7):Prop where
 n1:nm.length≤1099511627776
 n2:nm.length<N
 d0:Bo0 data
 d1:B23 data
 d3:∀d,d∈data→d.1.length<N∧d.2.2.length<N
 N1:40000<N
 g1:gl.length<N
 g2:gl.length≤1099511627776
theorem B25{R:Type}{N:Nat}{nm:List UInt8}{data:Adt}{gl:Af7}(F:Cq1 N nm data gl)(l:OpL)(procs labels:Int)(K:Int→Option R) :
  Ah2 N nm data l gl procs labels K=K (Bxl nm data l gl procs labels):=by
 simp only[Ah2,Bp1]
 rw[Cug N _ _ _ _ _ _ F.d0 (by have:=F.N1;omega)]
 unfold Bxl
 cases h:Bag data l procs labels
 case true=>rfl
 simp only[Bag,Bool.or_eq_false_iff,decide_eq_false_iff_not]at h
 have G:Cuk N nm data l gl procs labels:=⟨F.n1,F.n2,by have:=F.N1;omega,by omega,F.d1,by omega,F.d3,by have:=F.N1;omega,F.g1,F.g2,by omega,by omega⟩
 rw[if_neg (by decide),Cul G]
 cases hc:Bo1 nm data l gl procs labels
 ·rfl
 rw[if_neg (by decide),Cmm G hc]
 cases Bah l procs labels<;>rfl
theorem A0h(s:List Int)(i n:Nat)(v:Int):(s.set i v).getD n 0=if i=n∧i<s.length then v else s.getD n 0:=by
 rw[List.getD_eq_getElem?_getD,List.getElem?_set]
 by_cases h:i=n
 ·subst h
  by_cases h2:i<s.length
  ·simp[h2]
  ·simp[h2]
 ·simp[h,List.getD_eq_getElem?_getD]
def Bmv:OpL→Int→Int→Option (Int×Int)
 |[],p,m=>some (p,m)
 |x::r,p,m=>if x.1=24 then (if x.2.1=p+1 then Bmv r (p+1) m else none)
  else Bmv r p (if x.1=19 then (if x.2.1 > m then x.2.1 else m) else m)
def B04(l:OpL)(p m procs labels:Int):Bool:=match Bmv l p m with|none=>false|some (p',m')=>p'==procs&&m'==labels
theorem B0c{R:Type}(N:Nat)(a b c:Int)(K:Bool→Option R):Abs N a b c K=K (Aki a):=by
 simp only[Abs,Aki]
 cases a != 20<;>cases a != 25<;>cases a != 26<;>cases a != 27<;>cases a != 29<;>cases a != 30<;>rfl
theorem B26{R:Type}(N:Nat)(a b c:Int)(K:Int→Option R):Aci N a b c K=K (Aaj (a,b,c)):=by
 simp only[Aci,Bqd,Afm,Aaj]
 by_cases h1:a=20
 ·simp[h1]
 by_cases h2:a=21
 ·simp[h2]
 by_cases h3:a=22
 ·simp[h3]
 by_cases h4:a=27
 ·simp[h4]
 by_cases h5:a=29
 ·simp[h5]
 by_cases h6:a=30
 ·simp[h6]
 simp[h1,h2,h3,h4,h5,h6]
def Cei(i:Nat)(x:Int×Int×Int)(r:OpL):Bool:=(!Aki x.1||(Aey r != none&&Aey r != some 24))&&(decide (0<i)||x.1==24)
theorem C5o{R:Type}(N:Nat)(p m c:Int)(nm:List UInt8)(data:Adt)(l:OpL)(gl:Af7)(procs labels:Int)(i:Nat)(x:Int×Int×Int)(hl:l.length≤1099511627776)(hi:i<l.length)(b:Bool→Option R)(a:Int→Int→Int→Int→List UInt8→Adt→OpL→Af7→Int→Int→Option R) :
  Adc N p m c i (decide (((i+1:Nat):Int)≥len l)) nm data l gl procs labels x.1 x.2.1 x.2.2 b a=if Cei i x (l.drop (i+1))=true then a p m c i nm data l gl procs labels else b false:=by
 simp only[Adc,Bfo,B0c]
 have first:(if ((i:Int)==0)=true then (if (x.1 != 24)=true then b false else a p m c i nm data l gl procs labels) else a p m c i nm data l gl procs labels)=if (decide (0<i)||x.1==24)=true then a p m c i nm data l gl procs labels else b false:=by
  by_cases h0:i=0
  ·subst h0
   rw[if_pos (by decide)]
   unfold bne
   cases x.1==24<;>rfl
  ·rw[if_neg (by simp;omega),show decide (0<i)=true by simp;omega];rfl
 rw[first]
 unfold Cei
 rw[Cdn,Aco (by omega)]
 cases Aki x.1
 ·rfl
 rw[if_pos rfl]
 by_cases h:i+1<l.length
 ·rw[show decide (((i+1:Nat):Int)≥len l)=false by simp only[len,decide_eq_false_iff_not];omega,if_neg (by decide),if_pos h]
  rw[if_pos (by simp only[len];omega),show l.getD (Int.toNat ((i+1:Nat):Int)) (0,0,0)=Aak l (i+1) by unfold Aak;rw[Int.toNat_natCast]]
  by_cases h24:(Aak l (i+1)).1=24
  ·rw[if_pos (by simpa using h24),h24];rfl
  ·rw[if_neg (by simpa using h24),show (some (Aak l (i+1)).1 != some 24)=true by simpa using h24];rfl
 ·rw[show decide (((i+1:Nat):Int)≥len l)=true by simp only[len,decide_eq_true_eq];omega,if_pos rfl,if_neg h];rfl
theorem Cvt(c:Nat)(x:Int×Int×Int)(r:OpL)(hx:1≤x.1):Afn c (x::r)=(decide (0<c)==(x.1==30)&&(x.1 != 19||(Aey r==some 18||Aey r==some 28||Aey r==some 19))&&(!Aki x.1||(Aey r != none&&Aey r != some 24))&&Afn (if x.1=29 then x.2.2.toNat else c-1) r):=by
 cases c with
 |succ c=>
  rw[Afn,show decide (0<c+1)=true by simp]
  by_cases h:x.1=30
  ·rw[h];simp[Aki]
  ·have h':(x.1==30)=false:=by simpa using h
   rw[h'];rfl
 |zero=>
  rw[Afn,show decide (0<0)=false by decide]
  by_cases h:x.1=30
  ·rw[h];simp
  ·have h':(x.1==30)=false:=by simpa using h
   have h2:(x.1 != 30)=true:=by simpa using h
   rw[h',h2]
   by_cases h29:x.1=29
   ·rw[if_pos h29,if_pos h29,h29];simp[Aki]
   ·rw[if_neg h29,if_neg h29];simp only[A4y,Bool.true_and];rfl
theorem Cvu(x:Int×Int×Int)(r:OpL)(p m:Int):Bmv (x::r) p m=if x.1=24 then (if x.2.1=p+1 then Bmv r (p+1) m else none) else Bmv r p (if x.1=19 then (if x.2.1 > m then x.2.1 else m) else m):=rfl
theorem C5p{R:Type}(N:Nat)(nm:List UInt8)(data:Adt)(l:OpL)(gl:Af7)(procs labels:Int)(hl:l.length≤1099511627776)(hop:∀o,o∈l→1≤o.1)(hM:∀o,o∈l→o.1=29→0≤o.2.2∧o.2.2≤1000)(K:Bool→Option R) :
  ∀(k i:Nat) (p m:Int) (c:Nat),i≤l.length→l.length-i<k→0≤p→p≤i→c≤1000→
  Ad9 N k p m c i nm data l gl procs labels (fun a=>K a) (fun b d e j n q s f g=>if ((e==(0:Int))=true) then (if ((b==f)=true) then (K ((d==g))) else (K false)) else (K false)) =
   K (Afn c (l.drop i)&&(decide (0<i)||An7 l)&&B04 (l.drop i) p m procs labels):=by
 intro k
 induction k with
 |zero=>intro i _ _ _ _ h;omega
 |succ k ih=>
  intro i p m c hi hk hp hpi hc
  simp only[Ad9,Bin]
  by_cases hlt:i<l.length
  case neg=>
   rw[if_neg (by simp[len];omega),List.drop_eq_nil_of_le (by omega)]
   have hf:(decide (0<i)||An7 l)=true:=by
    by_cases h0:0<i
    ·simp[h0]
    ·have:l=[]:=List.eq_nil_of_length_eq_zero (by omega)
     subst this;simp[An7,Aey]
   rw[hf,B04,Bmv]
   simp only[Afn,Bool.and_true]
   cases c with
   |zero=>
    rw[if_pos (by decide)]
    simp only[beq_self_eq_true,Bool.true_and]
    cases hpp:p==procs<;>simp
   |succ c=>simp;omega
  have hin:(0:Int)≤i∧(i:Int)<len l:=by simp only[len];omega
  have hop':=hop l[i] (List.getElem_mem hlt)
  have hM':=hM l[i] (List.getElem_mem hlt)
  have hhd:Aey (l.drop (i+1))=if i+1<l.length then some (Aak l (i+1)).1 else none:=Cdn
  rw[if_pos (by simp[len];omega),if_pos hin,Akp _ _ hlt,List.drop_eq_getElem_cons hlt]
  have hfst:(decide (0<i)||An7 l)=(decide (0<i)||(l[i]).1==24):=by
   by_cases h0:0<i
   ·simp[h0]
   ·obtain rfl:i=0:=by omega
    cases l with
    |nil=>simp at hlt
    |cons y r=>simp[An7,Aey]
  rw[hfst]
  obtain⟨x,hx⟩:∃x,l[i]=x:=⟨_,rfl⟩
  simp only[hx]at hop' hM' ⊢
  rw[Cvt c x _ hop']
  have hcd:decide ((c:Int) > 0)=decide (0<c):=by congr 1;simp
  rw[hcd]
  by_cases h1:(decide (0<c)==(x.1==30))=true
  case neg=>
   have h1':(decide (0<c)==(x.1==30))=false:=by simpa using h1
   rw[h1',if_pos (by decide)];simp
  rw[h1,if_neg (by decide),Bool.true_and]
  have rest:∀c1:Nat,c1=c-1→Aeo N p m (c1:Int) i nm data l gl procs labels x.1 x.2.1 x.2.2 (fun a=>K a) (fun b d e j n q s f g t=>Ad9 N k b d e (wi (j+1)) n q s f g t (fun a=>K a) (fun b d e j n q s f g=>if ((e==(0:Int))=true) then (if ((b==f)=true) then (K ((d==g))) else (K false)) else (K false))) =
    K ((x.1 != 19||(Aey (l.drop (i+1))==some 18||Aey (l.drop (i+1))==some 28||Aey (l.drop (i+1))==some 19))&&(!Aki x.1||(Aey (l.drop (i+1)) != none&&Aey (l.drop (i+1)) != some 24))&&Afn (if x.1=29 then x.2.2.toNat else c-1) (l.drop (i+1))&&(decide (0<i)||x.1==24)&&B04 (x::l.drop (i+1)) p m procs labels):=by
   intro c1 hc1
   have fin:∀(p2 m2:Int) (c2:Nat),0≤p2→p2≤i+1→c2≤1000→Adc N p2 m2 c2 i (decide (((i+1:Nat):Int)≥len l)) nm data l gl procs labels x.1 x.2.1 x.2.2 (fun a=>K a) (fun b d e j n q s f g t=>Ad9 N k b d e (wi (j+1)) n q s f g t (fun a=>K a) (fun b d e j n q s f g=>if ((e==(0:Int))=true) then (if ((b==f)=true) then (K ((d==g))) else (K false)) else (K false))) =
     K (Cei i x (l.drop (i+1))&&Afn c2 (l.drop (i+1))&&B04 (l.drop (i+1)) p2 m2 procs labels):=by
    intro p2 m2 c2 h0 h2 h3
    rw[C5o N p2 m2 c2 nm data l gl procs labels i x hl hlt]
    by_cases he:Cei i x (l.drop (i+1))=true
    ·rw[if_pos he,he,Aco (by omega),ih (i+1) p2 m2 c2 (by omega) (by omega) h0 (by omega) h3,show decide (0<i+1)=true by simp];simp
    ·rw[if_neg he,show Cei i x (l.drop (i+1))=false by simpa using he];rfl
   simp only[Aeo,Bfp]
   rw[Aco (by omega)]
   have hw:wi (p+1)=p+1:=Aeh (by omega) (by omega)
   unfold Cei at fin
   unfold B04 at fin ⊢
   rw[Cvu]
   by_cases h24:x.1=24
   ·rw[if_pos (by simpa using h24),hw,if_pos h24,if_neg (show ¬x.1=29 by omega),show (x.1 != 19)=true by rw[h24];rfl,Bool.true_or,Bool.true_and]
    by_cases he:x.2.1=p+1
    ·rw[if_neg (by simp[he]),if_pos he,fin (p+1) m c1 (by omega) (by omega) (by omega),hc1]
     congr 1
     cases (!Aki x.1||(Aey (l.drop (i+1)) != none&&Aey (l.drop (i+1)) != some 24))<;>cases (decide (0<i)||x.1==24)<;>cases Afn (c-1) (l.drop (i+1))<;>rfl
    ·rw[if_pos (by simpa using he),if_neg he];simp
   rw[if_neg (by simpa using h24),if_neg h24]
   by_cases h29:x.1=29
   ·rw[if_pos (by simpa using h29),if_pos h29,if_neg (show ¬x.1=19 by omega),show (x.1 != 19)=true by rw[h29];rfl,Bool.true_or,Bool.true_and]
    have hm:=hM' h29
    obtain⟨M,hMe⟩:=Int.eq_ofNat_of_zero_le hm.1
    have fM:=fin p m M hp (by omega) (by omega)
    rw[hMe]at fM
    rw[hMe,fM,Int.toNat_natCast]
    congr 1
    cases (!Aki x.1||(Aey (l.drop (i+1)) != none&&Aey (l.drop (i+1)) != some 24))<;>cases (decide (0<i)||x.1==24)<;>cases Afn M (l.drop (i+1))<;>rfl
   rw[if_neg (by simpa using h29),if_neg h29]
   by_cases h19:x.1=19
   ·rw[if_pos (by simpa using h19),if_pos h19,show (x.1 != 19)=false by rw[h19];rfl,Bool.false_or]
    have fin2:=fin p (if x.2.1 > m then x.2.1 else m) c1 hp (by omega) (by omega)
    by_cases hlt1:i+1<l.length
    ·have hg:l.getD (Int.toNat ((i+1:Nat):Int)) (0,0,0)=Aak l (i+1):=by unfold Aak;rw[Int.toNat_natCast]
     have hin1:(0:Int)≤((i+1:Nat):Int)∧((i+1:Nat):Int)<len l:=by simp only[len];omega
     have hx1:decide (((i+1:Nat):Int)≥len l)=false:=by simp only[len,decide_eq_false_iff_not];omega
     rw[hx1]at fin2 ⊢
     rw[if_neg (by decide)]
     simp only[if_pos hin1,hg]
     rw[hhd,if_pos hlt1]
     rw[hhd,if_pos hlt1]at fin2
     have comm:((!Aki x.1||(some (Aak l (i+1)).1 != none&&some (Aak l (i+1)).1 != some 24))&&(decide (0<i)||x.1==24)&&Afn c1 (l.drop (i+1))&&(match Bmv (l.drop (i+1)) p (if x.2.1 > m then x.2.1 else m) with|none=>false|some (p',m')=>p'==procs&&m'==labels)) =
       (true&&(!Aki x.1||(some (Aak l (i+1)).1 != none&&some (Aak l (i+1)).1 != some 24))&&Afn (c-1) (l.drop (i+1))&&(decide (0<i)||x.1==24)&&(match Bmv (l.drop (i+1)) p (if x.2.1 > m then x.2.1 else m) with|none=>false|some (p',m')=>p'==procs&&m'==labels)):=by
      rw[hc1]
      cases (!Aki x.1||(some (Aak l (i+1)).1 != none&&some (Aak l (i+1)).1 != some 24))<;>cases (decide (0<i)||x.1==24)<;>cases Afn (c-1) (l.drop (i+1))<;>rfl
     by_cases a1:(Aak l (i+1)).1=18
     ·rw[if_neg (by simpa using a1),show (some (Aak l (i+1)).1==some 18||some (Aak l (i+1)).1==some 28||some (Aak l (i+1)).1==some 19)=true by rw[a1];rfl]
      exact fin2.trans (by rw[comm])
     rw[if_pos (by simpa using a1)]
     by_cases a2:(Aak l (i+1)).1=28
     ·rw[if_neg (by simpa using a2),show (some (Aak l (i+1)).1==some 18||some (Aak l (i+1)).1==some 28||some (Aak l (i+1)).1==some 19)=true by rw[a2];rfl]
      exact fin2.trans (by rw[comm])
     rw[if_pos (by simpa using a2)]
     by_cases a3:(Aak l (i+1)).1=19
     ·rw[if_neg (by simpa using a3),show (some (Aak l (i+1)).1==some 18||some (Aak l (i+1)).1==some 28||some (Aak l (i+1)).1==some 19)=true by rw[a3];rfl]
      exact fin2.trans (by rw[comm])
     ·have b1:(some (Aak l (i+1)).1==some 18)=false:=by simpa using a1
      have b2:(some (Aak l (i+1)).1==some 28)=false:=by simpa using a2
      have b3:(some (Aak l (i+1)).1==some 19)=false:=by simpa using a3
      rw[if_pos (by simpa using a3),b1,b2,b3];rfl
    ·rw[if_pos (by simp only[len,decide_eq_true_eq];omega),hhd,if_neg hlt1];rfl
   ·rw[if_neg (by simpa using h19),if_neg h19,show (x.1 != 19)=true by simpa using h19,Bool.true_or,Bool.true_and,fin p m c1 hp (by omega) (by omega),hc1]
    congr 1
    cases (!Aki x.1||(Aey (l.drop (i+1)) != none&&Aey (l.drop (i+1)) != some 24))<;>cases (decide (0<i)||x.1==24)<;>cases Afn (c-1) (l.drop (i+1))<;>rfl
  by_cases h0:0<c
  ·rw[if_pos (by simpa using h0)]
   have hw:wi ((c:Int)-1)=((c-1:Nat):Int):=by rw[Aeh (by omega) (by omega)];omega
   rw[hw]
   exact rest (c-1) rfl
  ·rw[if_neg (by simpa using h0)]
   obtain rfl:c=0:=by omega
   exact rest 0 rfl
theorem Db9{R:Type}(N:Nat)(nm:List UInt8)(data:Adt)(l:OpL)(gl:Af7)(procs labels:Int)(hl:l.length≤1099511627776)(hN:l.length<N)(hop:∀o,o∈l→1≤o.1)(hM:∀o,o∈l→o.1=29→0≤o.2.2∧o.2.2≤1000)(K:Bool→Option R) :
  Ajz N nm data l gl procs labels K=K (Afn 0 l&&An7 l&&B04 l 0 0 procs labels):=by
 simp only[Ajz,Bqa]
 have:=C5p N nm data l gl procs labels hl hop hM K N 0 0 0 0 (by omega) (by omega) (by omega) (by omega) (by omega)
 rw[show ((0:Nat):Int)=0 from rfl,List.drop_zero]at this
 exact this
def plR:Nat→OpL→Int→List Int→List Int→Option (List Int×List Int)
 | _,[],_,pl,pr=>some (pl,pr)
 |i,x::r,p,pl,pr=>
  if x.1=19 then (if 0≤pl.getD x.2.1.toNat 0 then none else plR (i+1) r p (pl.set x.2.1.toNat i) (pr.set i p))
  else plR (i+1) r (if x.1=24 then p+1 else p) pl (pr.set i (if x.1=24 then p+1 else p))
def B4p:Nat→OpL→List Int→List Int→Bool
 | _,[],_,_=>true
 |i,x::r,pl,pr=>(decide (Aaj x≤0)||(decide (0≤pl.getD (Aaj x).toNat 0)&&pr.getD (pl.getD (Aaj x).toNat 0).toNat 0==pr.getD i 0))&&B4p (i+1) r pl pr
theorem B27:∀(r:OpL) (i:Nat) (p:Int) (pl pr:List Int) (q:List Int×List Int),plR i r p pl pr=some q→q.1.length=pl.length∧q.2.length=pr.length
 |[],_,_,_,_,q,h=>by simp only[plR,Option.some.injEq]at h;subst h;exact⟨rfl,rfl⟩
 |x::r,i,p,pl,pr,q,h=>by
  rw[plR]at h
  split at h
  ·split at h
   ·cases h
   ·have:=B27 r _ _ _ _ q h
    simpa using this
  ·have:=B27 r _ _ _ _ q h
   simpa using this
theorem C4h:∀(r:OpL) (i:Nat) (p:Int) (pl pr:List Int) (q:List Int×List Int) (L:Int),plR i r p pl pr=some q→((i+r.length:Nat):Int)≤L→(∀n,pl.getD n 0<L∨pl.getD n 0≤0)→(∀n,q.1.getD n 0<L∨q.1.getD n 0≤0)
 |[],_,_,_,_,q,L,h,_,hv=>by simp only[plR,Option.some.injEq]at h;subst h;exact hv
 |x::r,i,p,pl,pr,q,L,h,hL,hv=>by
  rw[List.length_cons]at hL
  rw[plR]at h
  split at h
  ·split at h
   ·cases h
   ·refine C4h r _ _ _ _ q L h (by omega) (fun n=>?_)
    rw[A0h]
    split
    ·left;omega
    ·exact hv n
  ·exact C4h r _ _ _ _ q L h (by omega) hv
theorem Czi{R:Type}(N:Nat)(nm:List UInt8)(data:Adt)(l:OpL)(gl:Af7)(procs labels:Int)(a b pr:List Int)(hb:labels≤1000000)(K:List UInt8→Adt→OpL→Af7→Int→Int→List Int→List Int→List Int→List Int→Option R) :
  ∀(m k i:Nat) (pl:List Int),m<k→(i:Int)+m=labels+1→(pl.length:Int)=labels+1→
  Ade N k i nm data l gl procs labels a b pl pr K=K nm data l gl procs labels a b (pl.take i++List.replicate m (-1)) pr:=by
 intro m
 induction m with
 |zero=>
  intro k i pl hk hi hl
  obtain⟨k,rfl⟩:=exk hk
  simp only[Ade,A3r]
  rw[if_neg (by simp only[decide_eq_true_eq];omega),List.take_of_length_le (by omega)];simp
 |succ m ih=>
  intro k i pl hk hi hl
  obtain⟨k,rfl⟩:=exk hk
  simp only[Ade,A3r]
  rw[if_pos (by simp only[decide_eq_true_eq];omega),if_pos (by simp only[len];omega),Aco (by omega),Int.toNat_natCast,ih k (i+1) _ (by omega) (by omega) (by rw[List.length_set];exact hl)]
  have e:(pl.set i (-1)).take (i+1)=pl.take i++[-1]:=by
   rw[List.take_add_one,List.take_set,List.getElem?_set_self (by omega),List.set_eq_of_length_le (by rw[List.length_take];omega)];rfl
  rw[e,List.append_assoc,List.replicate_succ];rfl
theorem Cun{R:Type}(N:Nat)(nm:List UInt8)(data:Adt)(l:OpL)(gl:Af7)(procs labels:Int)(d e:List Int)(hl:l.length≤1099511627776)(hL:∀o,o∈l→o.1=19→1≤o.2.1∧o.2.1≤labels)(c:Bool→List Int→List Int→Option R)(f:List UInt8→Adt→OpL→Af7→Int→Int→List Int→List Int→List Int→List Int→Option R)(hK:∀a b a' b',c false a b=c false a' b') :
  ∀(k i:Nat) (p:Int) (pl pr:List Int),i≤l.length→l.length-i<k→0≤p→p≤i→(pl.length:Int)=labels+1→pr.length=l.length→
  Acy N k p i nm data l gl procs labels d e pl pr c f=match plR i (l.drop i) p pl pr with|none=>c false [] []|some (pl',pr')=>f nm data l gl procs labels d e pl' pr':=by
 intro k
 induction k with
 |zero=>intro i _ _ _ _ h;omega
 |succ k ih=>
  intro i p pl pr hi hk hp hpi hpl hpr
  simp only[Acy,Bch]
  by_cases hlt:i<l.length
  case neg=>
   rw[if_neg (by simp[len];omega),List.drop_eq_nil_of_le (by omega)];rfl
  have hin:(0:Int)≤i∧(i:Int)<len l:=by simp only[len];omega
  have hinp:(0:Int)≤i∧(i:Int)<len pr:=by simp only[len];omega
  have hL':=hL l[i] (List.getElem_mem hlt)
  rw[if_pos (by simp[len];omega),if_pos hin,Akp _ _ hlt,List.drop_eq_getElem_cons hlt,plR]
  simp only[Adi,if_pos hin,if_pos hinp,Akp _ _ hlt]
  obtain⟨x,hx⟩:∃x,l[i]=x:=⟨_,rfl⟩
  simp only[hx]at hL' ⊢
  rw[Aco (by omega),Int.toNat_natCast]
  have hw:wi (p+1)=p+1:=Aeh (by omega) (by omega)
  by_cases h24:x.1=24
  ·rw[if_pos (by simpa using h24),if_neg (show ¬(x.1==19)=true by rw[h24];decide),if_neg (show ¬x.1=19 by omega),if_pos h24,hw]
   exact ih (i+1) (p+1) pl _ (by omega) (by omega) (by omega) (by omega) hpl (by rw[List.length_set];exact hpr)
  rw[if_neg (by simpa using h24),if_neg h24]
  by_cases h19:x.1=19
  ·have hv:=hL' h19
   have hip:0≤x.2.1∧x.2.1<len pl:=by simp only[len];omega
   rw[if_pos (by simpa using h19),if_pos h19]
   simp only[if_pos hip]
   by_cases h0:0≤pl.getD x.2.1.toNat 0
   ·rw[if_pos (by simpa using h0),if_pos h0]
    exact hK _ _ _ _
   ·rw[if_neg (by simpa using h0),if_neg h0]
    exact ih (i+1) p _ _ (by omega) (by omega) hp (by omega) (by rw[List.length_set];exact hpl) (by rw[List.length_set];exact hpr)
  ·rw[if_neg (by simpa using h19),if_neg h19]
   exact ih (i+1) p pl _ (by omega) (by omega) hp (by omega) hpl (by rw[List.length_set];exact hpr)
theorem Cuo{R:Type}(N:Nat)(nm:List UInt8)(data:Adt)(l:OpL)(gl:Af7)(procs labels:Int)(a b pl pr:List Int)(hl:l.length≤1099511627776)(hn:∀x,x∈l→Aaj x=0∨(1≤Aaj x∧Aaj x≤labels))(hpl:(pl.length:Int)=labels+1)(hpr:pr.length=l.length)(hv:∀n,pl.getD n 0<l.length∨pl.getD n 0≤0)(c:Bool→List Int→List Int→Option R)(d:List Int→List Int→List Int→List Int→Option R) :
  ∀(k i:Nat),i≤l.length→l.length-i<k→
  Acs N k i nm data l gl procs labels a b pl pr c d=if B4p i (l.drop i) pl pr=true then d a b pl pr else c false pl pr:=by
 intro k
 induction k with
 |zero=>intro i _ h;omega
 |succ k ih=>
  intro i hi hk
  simp only[Acs,Bck]
  by_cases hlt:i<l.length
  case neg=>
   rw[if_neg (by simp[len];omega),List.drop_eq_nil_of_le (by omega)];rfl
  have hin:(0:Int)≤i∧(i:Int)<len l:=by simp only[len];omega
  have hinp:(0:Int)≤i∧(i:Int)<len pr:=by simp only[len];omega
  have hn':=hn l[i] (List.getElem_mem hlt)
  rw[if_pos (by simp[len];omega),if_pos hin,Akp _ _ hlt,List.drop_eq_getElem_cons hlt,B4p]
  obtain⟨x,hx⟩:∃x,l[i]=x:=⟨_,rfl⟩
  simp only[hx,B26]at hn' ⊢
  rw[show (x.1,x.2.1,x.2.2)=x from rfl,Aco (by omega),ih (i+1) (by omega) (by omega)]
  by_cases h0:Aaj x > 0
  ·have hip:0≤Aaj x∧Aaj x<len pl:=by simp only[len];omega
   rw[if_pos (by simpa using h0),if_pos hip,show decide (Aaj x≤0)=false by simp;omega,Bool.false_or]
   have hv':=hv (Aaj x).toNat
   by_cases hneg:pl.getD (Aaj x).toNat 0<0
   ·rw[if_pos (by simpa using hneg),show decide (0≤pl.getD (Aaj x).toNat 0)=false from decide_eq_false (by omega)];rfl
   ·rw[if_neg (by simpa using hneg),if_pos hip,if_pos (by simp only[len];omega),if_pos hinp,show decide (0≤pl.getD (Aaj x).toNat 0)=true from decide_eq_true (by omega),Bool.true_and,Int.toNat_natCast]
    by_cases he:pr.getD (pl.getD (Aaj x).toNat 0).toNat 0=pr.getD i 0
    ·rw[if_neg (by simpa using he),show (pr.getD (pl.getD (Aaj x).toNat 0).toNat 0==pr.getD i 0)=true by simpa using he,Bool.true_and]
    ·rw[if_pos (by simpa using he),show (pr.getD (pl.getD (Aaj x).toNat 0).toNat 0==pr.getD i 0)=false by simpa using he];rfl
  ·rw[if_neg (by simpa using h0),show decide (Aaj x≤0)=true by simp;omega,Bool.true_or,Bool.true_and]
def Bgs(l:OpL)(labels:Int):Option (List Int×List Int) :=
 match plR 0 l 0 (List.replicate (labels+1).toNat (-1)) (List.replicate l.length 0) with
 |none=>none
 |some (pl,pr)=>if B4p 0 l pl pr=true then some (pl,pr) else none
theorem C9j{R:Type}(N:Nat)(nm:List UInt8)(data:Adt)(l:OpL)(gl:Af7)(procs labels:Int)(hl:l.length<N)(hl2:l.length≤1000000)(hb:0≤labels∧labels≤20000)(hN:20001<N)(hL:∀o,o∈l→o.1=19→1≤o.2.1∧o.2.1≤labels)(hn:∀x,x∈l→Aaj x=0∨(1≤Aaj x∧Aaj x≤labels))(K:Bool→List Int→List Int→Option R)(hK:∀a b a' b',K false a b=K false a' b') :
  Ail N nm data l gl procs labels K=match Bgs l labels with|none=>K false [] []|some (pl,pr)=>K true pl pr:=by
 have hw:wi (labels+1)=labels+1:=Aeh (by omega) (by omega)
 simp only[Ail,Bl4,hw]
 rw[if_pos (by omega),if_pos (by simp only[len];omega)]
 have h7:=Czi (R:=R) N nm data l gl procs labels [] [] (List.replicate (Int.toNat (len l)) 0) (by omega) (fun C D E F G H I J L M=>Acy N N 0 0 C D E F G H I J L M (fun h i j=>K h i j) (fun m p r s t u v w y z=>Acs N N 0 m p r s t u v w y z (fun c d e=>K c d e) (fun A B f g=>K true f g)))
  (labels+1).toNat N 0 (List.replicate (labels+1).toNat 0) (by omega) (by omega) (by simp;omega)
 rw[show ((0:Nat):Int)=0 from rfl]at h7
 refine Eq.trans h7 ?_
 rw[List.take_zero,List.nil_append,show Int.toNat (len l)=l.length by simp[len]]
 have h17:=Cun (R:=R) N nm data l gl procs labels [] [] (by omega) hL (fun h i j=>K h i j) (fun m p r s t u v w y z=>Acs N N 0 m p r s t u v w y z (fun c d e=>K c d e) (fun A B f g=>K true f g)) hK
  N 0 0 (List.replicate (labels+1).toNat (-1)) (List.replicate l.length 0) (by omega) (by omega) (by omega) (by omega) (by simp;omega) (by simp)
 rw[show ((0:Nat):Int)=0 from rfl,List.drop_zero]at h17
 refine Eq.trans h17 ?_
 unfold Bgs
 cases hp:plR 0 l 0 (List.replicate (labels+1).toNat (-1)) (List.replicate l.length 0) with
 |none=>rfl
 |some q=>
  obtain⟨pl,pr⟩:=q
  have hlen:=B27 _ _ _ _ _ _ hp
  have hval:=C4h _ _ _ _ _ _ (l.length:Int) hp (by omega) (fun n=>by
   rw[List.getD_eq_getElem?_getD,List.getElem?_replicate];split<;>simp)
  simp only[List.length_replicate]at hlen
  dsimp only
  have h37:=Cuo (R:=R) N nm data l gl procs labels [] [] pl pr (by omega) hn (by omega) (by omega) hval (fun c d e=>K c d e) (fun A B f g=>K true f g) N 0 (by omega) (by omega)
  rw[show ((0:Nat):Int)=0 from rfl,List.drop_zero]at h37
  refine Eq.trans h37 ?_
  cases B4p 0 l pl pr
  ·exact hK _ _ _ _
  ·rfl
def C4i(i:Nat)(o a pl pr:List Int):Prop :=
 ∀n,n<a.length→(a.getD n 0=0∧pl.getD n 0<0)∨(1≤a.getD n 0∧pl.getD n 0=o.getD n 0∧1≤o.getD n 0∧o.getD n 0<i∧pr.getD (o.getD n 0).toNat 0=a.getD n 0)
theorem C4i.next{i:Nat}{o a pl pr:List Int}(h:C4i i o a pl pr)(v:Int):C4i (i+1) o a pl (pr.set i v):=by
 intro n hn
 rcases h n hn with h|⟨h1,h2,h3,h4,h5⟩
 ·exact .inl h
 ·refine .inr ⟨h1,h2,h3,by omega,?_⟩
  rw[A0h,if_neg (by omega)];exact h5
theorem Dlf:∀(r:OpL) (i:Nat) (p m:Int) (o a pl pr:List Int),o.length=a.length→pl.length=a.length→pr.length=i+r.length→(∀x,x∈r→x.1=19→1≤x.2.1∧x.2.1<a.length)→0≤p→(1≤p→1≤i)→(p=0→Aey r=none∨Aey r=some 24)→C4i i o a pl pr→
  match plF i r p m o a with
  |none=>Bmv r p m=none∨plR i r p pl pr=none
  |some (p',m',o',a')=>Bmv r p m=some (p',m')∧∃pl' pr',plR i r p pl pr=some (pl',pr')∧C4i (i+r.length) o' a' pl' pr':=by
 intro r
 induction r with
 |nil=>intro i p m o a pl pr _ _ _ _ _ _ _ h;exact⟨rfl,pl,pr,rfl,h⟩
 |cons x r ih=>
  intro i p m o a pl pr ho hpl hpr hx hp hpi hp0 hinv
  rw[List.length_cons]at hpr
  have hL:i+(x::r).length=(i+1)+r.length:=by rw[List.length_cons];omega
  rw[hL,plF,Bmv,plR]
  have hx':=hx x (by simp)
  have hr:∀y,y∈r→y.1=19→1≤y.2.1∧y.2.1<a.length:=fun y hy=>hx y (by simp[hy])
  by_cases h24:x.1=24
  ·rw[if_pos h24,if_pos h24,if_neg (show ¬x.1=19 by omega),if_pos h24]
   by_cases he:x.2.1=p+1
   ·rw[if_pos he,if_pos he]
    exact ih (i+1) (p+1) m o a pl _ ho hpl (by rw[List.length_set];omega) hr (by omega) (by omega) (by omega) (hinv.next _)
   ·rw[if_neg he,if_neg he];exact .inl rfl
  have hp1:1≤p:=by
   rcases Int.lt_or_le 0 p with h|h
   ·omega
   ·have:=hp0 (by omega)
    simp only[Aey]at this
    rcases this with h|h
    ·cases h
    ·injection h with h;exact absurd h h24
  rw[if_neg h24,if_neg h24]
  by_cases h19:x.1=19
  ·have hv:=hx' h19
   rw[if_pos h19,if_pos h19,if_pos h19]
   have hi:=hinv x.2.1.toNat (by omega)
   by_cases h0:a.getD x.2.1.toNat 0≠0∨p=0
   ·rw[if_pos h0,if_pos (show 0≤pl.getD x.2.1.toNat 0 by omega)];exact .inr rfl
   ·rw[if_neg h0,if_neg (show ¬0≤pl.getD x.2.1.toNat 0 by omega)]
    refine ih (i+1) p _ (o.set x.2.1.toNat i) (a.set x.2.1.toNat p) (pl.set x.2.1.toNat i) (pr.set i p) (by rw[List.length_set,List.length_set];exact ho) (by rw[List.length_set,List.length_set];exact hpl) (by rw[List.length_set];omega) (by rw[List.length_set];exact hr) hp (by omega) (by omega) ?_
    intro n hn
    rw[List.length_set]at hn
    rw[A0h,A0h,A0h]
    by_cases hnn:x.2.1.toNat=n
    ·right
     rw[if_pos ⟨hnn,by omega⟩,if_pos ⟨hnn,by omega⟩,if_pos ⟨hnn,by omega⟩,Int.toNat_natCast,A0h,if_pos ⟨rfl,by omega⟩]
     exact⟨hp1,rfl,by have:=hpi hp1;omega,by omega,rfl⟩
    ·rw[if_neg (fun h=>hnn h.1),if_neg (fun h=>hnn h.1),if_neg (fun h=>hnn h.1)]
     exact hinv.next p n hn
  ·rw[if_neg h19,if_neg h19,if_neg h19,if_neg h24]
   exact ih (i+1) p m o a pl _ ho hpl (by rw[List.length_set];omega) hr hp (by omega) (by omega) (hinv.next _)
def Cdp:OpL→Int→List Int
 |[],_=>[]
 |x::r,p=>(if x.1=24 then p+1 else p)::Cdp r (if x.1=24 then p+1 else p)
theorem C6s:∀(r:OpL) (i:Nat) (p:Int) (pl pr:List Int) (q:List Int×List Int),plR i r p pl pr=some q→pr.length=i+r.length→(∀j,j<i→q.2.getD j 0=pr.getD j 0)∧q.2.drop i=Cdp r p
 |[],i,p,pl,pr,q,h,hl=>by
  simp only[plR,Option.some.injEq]at h;subst h
  exact⟨fun _ _=>rfl,by rw[Cdp];exact List.drop_eq_nil_of_le (by simp at hl;simp;omega)⟩
 |x::r,i,p,pl,pr,q,h,hl=>by
  rw[List.length_cons]at hl
  rw[Cdp]
  have key:∀(p2:Int) (pl2:List Int),plR (i+1) r p2 pl2 (pr.set i p2)=some q→(∀j,j<i→q.2.getD j 0=pr.getD j 0)∧q.2.drop i=p2::Cdp r p2:=by
   intro p2 pl2 h2
   have:=C6s r (i+1) p2 pl2 (pr.set i p2) q h2 (by rw[List.length_set];omega)
   refine⟨fun j hj=>?_,?_⟩
   ·rw[this.1 j (by omega),A0h,if_neg (by omega)]
   ·have hlen:=(B27 r _ _ _ _ q h2).2
    rw[List.length_set]at hlen
    have h3:=this.1 i (by omega)
    rw[A0h,if_pos ⟨rfl,by omega⟩,List.getD_eq_getElem?_getD,List.getElem?_eq_getElem (by omega)]at h3
    rw[List.drop_eq_getElem_cons (by omega),this.2]
    simp only[Option.getD_some]at h3
    rw[h3]
  rw[plR]at h
  by_cases h24:x.1=24
  ·rw[if_neg (show ¬x.1=19 by omega),if_pos h24]at h
   rw[if_pos h24];exact key _ _ h
  ·rw[if_neg h24]at h ⊢
   split at h
   ·split at h
    ·cases h
    ·exact key _ _ h
   ·exact key _ _ h
theorem Dfr(o a pl pr:List Int)(I:Nat)(hinv:C4i I o a pl pr):∀(r:OpL) (i:Nat) (p m:Int),pr.drop i=Cdp r p→Bmv r p m≠none→0≤p→(p=0→Aey r=none∨Aey r=some 24)→(∀x,x∈r→Aaj x=0∨(1≤Aaj x∧Aaj x<a.length))→
  B4p i r pl pr=A1p p r o a:=by
 intro r
 induction r with
 |nil=>intros;rfl
 |cons x r ih=>
  intro i p m hpr hs hp hp0 hn
  rw[Cdp]at hpr
  have hlt:i<pr.length:=by
   rcases Nat.lt_or_ge i pr.length with h|h
   ·exact h
   ·rw[List.drop_eq_nil_of_le h]at hpr;cases hpr
  have hg:pr.getD i 0=(if x.1=24 then p+1 else p):=by
   rw[List.drop_eq_getElem_cons hlt]at hpr
   rw[List.getD_eq_getElem?_getD,List.getElem?_eq_getElem hlt];exact (List.cons.inj hpr).1
  have hd:pr.drop (i+1)=Cdp r (if x.1=24 then p+1 else p):=by
   rw[List.drop_eq_getElem_cons hlt]at hpr;exact (List.cons.inj hpr).2
  have hn':=hn x (by simp)
  rw[B4p,A1p,hg]
  have body:∀p2:Int,1≤p2→(decide (Aaj x≤0)||(decide (0≤pl.getD (Aaj x).toNat 0)&&pr.getD (pl.getD (Aaj x).toNat 0).toNat 0==p2))=(decide (Aaj x≤0)||(a.getD (Aaj x).toNat 0==p2&&o.getD (Aaj x).toNat 0 != 0)):=by
   intro p2 h2
   rcases hn' with h|h
   ·rw[h];rfl
   ·rcases hinv (Aaj x).toNat (by omega) with ⟨e1,e2⟩|⟨e1,e2,e3,e4,e5⟩
    ·rw[e1,show decide (0≤pl.getD (Aaj x).toNat 0)=false from decide_eq_false (by omega),show ((0:Int)==p2)=false from beq_eq_false_iff_ne.mpr (by omega)];rfl
    ·rw[e2,e5,show decide (0≤o.getD (Aaj x).toNat 0)=true from decide_eq_true (by omega),show (o.getD (Aaj x).toNat 0 != 0)=true from bne_iff_ne.mpr (by omega),Bool.true_and,Bool.and_true]
  rw[Cvu]at hs
  have hr:∀y,y∈r→Aaj y=0∨(1≤Aaj y∧Aaj y<a.length):=fun y hy=>hn y (by simp[hy])
  by_cases h24:x.1=24
  ·simp only[if_pos h24]at hs hd ⊢
   by_cases he:x.2.1=p+1
   ·rw[if_pos he]at hs
    rw[he,body _ (by omega),ih (i+1) (p+1) m hd hs (by omega) (by omega) hr]
   ·rw[if_neg he]at hs;exact absurd rfl hs
  ·simp only[if_neg h24]at hs hd ⊢
   have hp1:1≤p:=by
    rcases Int.lt_or_le 0 p with h|h
    ·omega
    ·have:=hp0 (by omega)
     simp only[Aey]at this
     rcases this with h|h
     ·cases h
     ·injection h with h;exact absurd h h24
   rw[body _ hp1,ih (i+1) p _ hd hs hp (by omega) hr]
theorem C9k(l:OpL)(procs labels:Int)(hb:0≤labels)(hf:An7 l=true)(hL:∀o,o∈l→o.1=19→1≤o.2.1∧o.2.1≤labels)(hn:∀x,x∈l→Aaj x=0∨(1≤Aaj x∧Aaj x≤labels)) :
  (match An8 l procs labels with|none=>false|some (b,o,a)=>b&&A1p 0 l o a)=(B04 l 0 0 procs labels&&(Bgs l labels).isSome)∧
  ∀b o a pl pr,An8 l procs labels=some (b,o,a)→A1p 0 l o a=true→Bgs l labels=some (pl,pr)→∀n:Nat,n<(labels+1).toNat→(a.getD n 0=0∧pl.getD n 0<0)∨(1≤a.getD n 0∧pl.getD n 0=o.getD n 0∧1≤o.getD n 0∧o.getD n 0<l.length):=by
 have hlen:(List.replicate (labels+1).toNat (0:Int)).length=(labels+1).toNat:=List.length_replicate
 have hrel:=Dlf l 0 0 0 (List.replicate (labels+1).toNat 0) (List.replicate (labels+1).toNat 0) (List.replicate (labels+1).toNat (-1)) (List.replicate l.length 0) rfl (by simp) (by simp) (fun x hx h19=>by have:=hL x hx h19;rw[hlen];omega) (by omega) (by omega)
  (fun _=>by
   unfold An7 at hf
   simp only[Bool.or_eq_true,beq_iff_eq]at hf;exact hf)
  (fun n hn=>by
   left
   rw[hlen]at hn
   simp only[List.getD_eq_getElem?_getD,List.getElem?_replicate,if_pos hn,Option.getD_some]
   exact⟨trivial,by omega⟩)
 have hh:Aey l=none∨Aey l=some 24:=by
  unfold An7 at hf
  simp only[Bool.or_eq_true,beq_iff_eq]at hf;exact hf
 unfold An8 Bgs B04
 cases hp:plF 0 l 0 0 (List.replicate (labels+1).toNat 0) (List.replicate (labels+1).toNat 0) with
 |none=>
  rw[hp]at hrel
  refine⟨?_,fun _ _ _ _ _ h=>by cases h⟩
  rcases hrel with h|h
  ·rw[h];rfl
  ·rw[h];simp
 |some q=>
  obtain⟨p,m,o,a⟩:=q
  rw[hp]at hrel
  obtain⟨h1,pl,pr,h2,h3⟩:=hrel
  have hal:=C6r _ _ _ _ _ _ _ hp
  simp only[List.length_replicate]at hal
  have hrun:=C6s l 0 0 _ _ _ h2 (by simp)
  rw[List.drop_zero]at hrun
  have hu:=Dfr o a pl pr (0+l.length) h3 l 0 0 0 hrun.2 (by rw[h1];simp) (by omega) (fun _=>hh) (fun x hx=>by
   have:=hn x hx
   rw[hal.2];omega)
  rw[h1,h2]
  simp only[hu]
  refine⟨?_,?_⟩
  ·cases A1p 0 l o a<;>simp
  ·intro b o' a' pl' pr' e1 e2 e3 n hn'
   simp only[Option.some.injEq,Prod.mk.injEq]at e1
   obtain⟨_,rfl,rfl⟩:=e1
   rw[if_pos e2]at e3
   simp only[Option.some.injEq,Prod.mk.injEq]at e3
   obtain⟨rfl,rfl⟩:=e3
   rcases h3 n (by omega) with h|⟨k1,k2,k3,k4,k5⟩
   ·exact .inl h
   ·exact .inr ⟨k1,k2,k3,by omega⟩
theorem Bmw{R:Type}(N:Nat)(x:Int×Int×Int)(d:Int)(hx:1≤x.1∧x.1≤30)(hd:0≤d∧d≤4000)(hm:x.1=24∨x.1=23∨x.1=28→0≤x.2.1∧x.2.1≤4000∧0≤x.2.2∧x.2.2≤4000)(K:Int→Option R) :
  Ady N x.1 x.2.1 x.2.2 d K=K (Aip x d):=by
 obtain⟨op,n,m⟩:=x
 simp only at hx hm
 have w1:wi (d+1)=d+1:=Aeh (by omega) (by omega)
 have w2:wi (d-1)=d-1:=Aeh (by omega) (by omega)
 have w3:wi (d-2)=d-2:=Aeh (by omega) (by omega)
 have w4:wi (d-3)=d-3:=Aeh (by omega) (by omega)
 simp only[Ady,Bqg,Adf,Bfu,Acz,Bft,Aep,w1,w2,w3,w4]
 by_cases h24:op=24
 ·subst h24
  rw[show wi (2+m)=2+m from Aeh (by have:=hm (.inl rfl);omega) (by have:=hm (.inl rfl);omega)]
  simp[Aip]
 by_cases h23:op=23
 ·subst h23
  rw[show wi (n+1)=n+1 from Aeh (by have:=hm (.inr (.inl rfl));omega) (by have:=hm (.inr (.inl rfl));omega)]
  simp[Aip]
 by_cases h28:op=28
 ·subst h28
  rw[show wi (n+1)=n+1 from Aeh (by have:=hm (.inr (.inr rfl));omega) (by have:=hm (.inr (.inr rfl));omega)]
  simp[Aip]
 rcases B21 hx with rfl|rfl|rfl|rfl|rfl|rfl|rfl|rfl|rfl|rfl|rfl|rfl|rfl|rfl|rfl|rfl|rfl|rfl|rfl|rfl|rfl|rfl|rfl|rfl|rfl|rfl|rfl|rfl|rfl|rfl <;>
  first
  |(exfalso;omega)
  |(simp[Aip,kT,Ao8];done)
  |(simp[Aip,kT,Ao8];congr 1;omega)
theorem Cup{R:Type}(N:Nat)(x:Int×Int×Int)(hx:1≤x.1∧x.1≤30)(K:Int→Option R):Ahf N x.1 x.2.1 x.2.2 K=K (kT x.1).2.2.1:=by
 obtain⟨op,n,m⟩:=x
 simp only at hx
 simp only[Ahf,Bqj,Ado,Bfv,Afa]
 rcases B21 hx with rfl|rfl|rfl|rfl|rfl|rfl|rfl|rfl|rfl|rfl|rfl|rfl|rfl|rfl|rfl|rfl|rfl|rfl|rfl|rfl|rfl|rfl|rfl|rfl|rfl|rfl|rfl|rfl|rfl|rfl <;>
  simp[kT,Ao8]
def C4j(x:Int×Int×Int)(d:Int):Bool :=
 if x.1=2∨x.1=3 then inB x.2.1 2 (d-1) else if x.1=4 then decide (2≤x.2.1) else if x.1=23 then inB x.2.1 2 (d-3) else if x.1=18 then decide (x.2.1≤d+2000+2) else true
theorem Cuq{R:Type}(N:Nat)(x:Int×Int×Int)(d:Int)(hd:0≤d∧d≤4000)(K:Bool→Option R):Ahg N x.1 x.2.1 x.2.2 d K=K (C4j x d):=by
 obtain⟨op,n,m⟩:=x
 have w1:wi (d-1)=d-1:=Aeh (by omega) (by omega)
 have w3:wi (d-3)=d-3:=Aeh (by omega) (by omega)
 have w2:wi (wi (d+2000)+2)=d+2000+2:=by rw[Aeh (i:=d+2000) (by omega) (by omega),Aeh (by omega) (by omega)]
 simp only[Ahg,Bqm,Ajd,Bip,Atp,w1,w2,w3,C4j]
 by_cases h2:op=2
 ·simp[h2]
 by_cases h3:op=3
 ·simp[h3]
 by_cases h4:op=4
 ·simp[h4]
 by_cases h23:op=23
 ·simp[h23]
 by_cases h18:op=18
 ·simp[h18]
 simp[h2,h3,h4,h23,h18]
theorem Dfs(x:Int×Int×Int)(d:Int)(f:Bool)(h24:x.1≠24):Brl x d f=(((x.1==18&&f)||C4j x d)&&decide (2≤d-(kT x.1).2.2.1)):=by
 unfold Brl C4j
 have b24:(x.1==24)=false:=beq_eq_false_iff_ne.mpr h24
 rw[b24,Bool.false_or]
 congr 1
 by_cases h2:x.1=2∨x.1=3
 ·rw[if_pos h2,if_pos h2,show (x.1==18)=false from beq_eq_false_iff_ne.mpr (by omega)];simp
 rw[if_neg h2,if_neg h2]
 by_cases h4:x.1=4
 ·rw[if_pos h4,if_pos h4,h4];simp
 rw[if_neg h4,if_neg h4]
 by_cases h23:x.1=23
 ·rw[if_pos h23,if_pos h23,h23];simp
 rw[if_neg h23,if_neg h23]
 by_cases h18:x.1=18
 ·rw[if_pos h18,if_pos h18,h18];simp
 ·rw[if_neg h18,if_neg h18];simp
def Bo3(l:OpL)(j:Nat):Bool:=(Aak l (Aeu l j)).1==28
theorem C9l{R:Type}(N:Nat)(l:OpL)(hl:l.length≤1099511627776)(K:OpL→Int→Option R):∀(k j:Nat),Aeu l j<l.length→l.length-j<k→
  Aha N k l j K=K l (Aeu l j:Nat):=by
 intro k
 induction k with
 |zero=>intro j _ h;omega
 |succ k ih=>
  intro j hj hk
  have hjl:j<l.length:=by unfold Aeu at hj;omega
  have hin:(0:Int)≤j∧(j:Int)<len l:=by simp only[len];omega
  have hd':l.drop j=l[j]::l.drop (j+1):=List.drop_eq_getElem_cons hjl
  simp only[Aha,Bis]
  rw[if_pos (by simp only[len,decide_eq_true_eq];omega),if_pos hin,Akp _ _ hjl,Aco (by omega)]
  by_cases h19:l[j].1=19
  ·have:Aeu l j=Aeu l (j+1):=by unfold Aeu;rw[hd',Az6,if_pos h19];omega
   rw[if_pos (by simpa using h19),ih (j+1) (by omega) (by omega),this]
  ·have:Aeu l j=j:=by unfold Aeu;rw[hd',Az6,if_neg h19];rfl
   rw[if_neg (by simpa using h19),this]
theorem Cur{R:Type}(N:Nat)(l:OpL)(j:Int)(hl:l.length≤1099511627776)(hN:l.length<N)(ho:Afn 0 l=true)(h0:0≤j)(hj:j<l.length)(K:Bool→Option R) :
  Af6 N l j K=K (Bo3 l j.toNat):=by
 obtain⟨n,rfl⟩:=Int.eq_ofNat_of_zero_le h0
 have hlt:=Bo2 ho (j:=n) (by omega)
 simp only[Af6,Bqp]
 rw[C9l N l hl _ N n hlt (by omega),if_pos (by simp only[len,decide_eq_true_eq];omega),if_pos (by simp only[len];omega),Int.toNat_natCast,Int.toNat_natCast]
 rfl
def dpB(l:OpL)(pl:List Int)(i:Nat)(d:Int)(f:Bool)(x:Int×Int×Int):Bool :=
 Brl x d (Bdx l i)&&decide (2≤Aip x d)&&decide (Aip x d≤4000)&&(x.1 != 28 || !f)&&(decide (Aaj x≤0)||(Bo3 l (pl.getD (Aaj x).toNat 0).toNat==(x.1==27)))
def Bbq(l:OpL)(pl:List Int):Nat→Int→Bool→OpL→Bool
 | _,_,_,[]=>true
 |i,d,f,x::r=>if x.1=24 then Bbq l pl (i+1) (2+x.2.2) true r
  else dpB l pl i d f x&&Bbq l pl (i+1) (Aip x d) (if x.1=19 then f else Aki x.1) r
noncomputable def Cq2{R:Type}(N:Nat)(rc:Atd R)(d:Int)(p:Bool)(e:Int)(f:List UInt8)(g:Adt)(c:OpL)(h:Af7)(i j:Int)(a l:List Int)(q:Bool→Option R)(b n o:Int):Option R :=
 (Aci N b n o (fun m=>if ((decide ((m > (0:Int))))=true) then (if (((0:Int)≤m)∧(m<(len a))) then (Af6 N c ((List.getD a (Int.toNat m) (0:Int))) (fun r=>if ((!(r==(b==(27:Int))))=true) then (q false) else (if ((b != (19:Int))=true) then (Abs N b n o (fun s=>rc d s ((wi (e+(1:Int)))) f g c h i j a l)) else (rc d p ((wi (e+(1:Int)))) f g c h i j a l)))) else none) else (if ((b != (19:Int))=true) then (Abs N b n o (fun t=>rc d t ((wi (e+(1:Int)))) f g c h i j a l)) else (rc d p ((wi (e+(1:Int)))) f g c h i j a l))))
noncomputable def B4q{R:Type}(N:Nat)(rc:Atd R)(d:Int)(a:Bool)(e:Int)(f:List UInt8)(g:Adt)(h:OpL)(i:Af7)(j l:Int)(m n:List Int)(b:Bool→Option R)(c o p:Int):Option R :=
 if ((c==(28:Int))=true) then (if (a=true) then (b false) else Cq2 N rc d a e f g h i j l m n b c o p) else Cq2 N rc d a e f g h i j l m n b c o p
theorem Dca{R:Type}(N:Nat)(rc:Atd R)(g:Int)(q:Bool)(a:Int)(h:List UInt8)(i:Adt)(b:OpL)(j:Af7)(l m:Int)(n o:List Int)(c:Bool→Option R)(s:Option R) :
  Bl7 @Ady @Ahf @Aav @Ahg @Aci @Af6 @Abs N rc g q a h i b j l m n o c s =
  if ((decide ((a<(len b))))=true) then (if (((0:Int)≤a)∧(a<(len b))) then (let d:=(List.getD b (Int.toNat a) ((0:Int),((0:Int),(0:Int)))).1;let f:=(List.getD b (Int.toNat a) ((0:Int),((0:Int),(0:Int)))).2.1;let e:=(List.getD b (Int.toNat a) ((0:Int),((0:Int),(0:Int)))).2.2;if ((d==(24:Int))=true) then (rc ((wi ((2:Int)+e))) true ((wi (a+(1:Int)))) h i b j l m n o) else (Ady N d f e g (fun p=>if ((d==(18:Int))=true) then (let r:=(wi (a-(1:Int)));if (((0:Int)≤r)∧(r<(len b))) then (Ahf N d f e (fun t=>if ((decide (((wi (g-t))<(2:Int))))=true) then (c false) else (Aav N p 2 4000 (fun u=>if ((!u)=true) then (c false) else (if ((!((List.getD b (Int.toNat r) ((0:Int),((0:Int),(0:Int)))).1==(19:Int)))=true) then (Ahg N d f e g (fun v=>if ((!v)=true) then (c false) else B4q N rc p q a h i b j l m n o c d f e)) else B4q N rc p q a h i b j l m n o c d f e))))) else none)
   else (Ahf N d f e (fun w=>if ((decide (((wi (g-w))<(2:Int))))=true) then (c false) else (Aav N p 2 4000 (fun x=>if ((!x)=true) then (c false) else (Ahg N d f e g (fun y=>if ((!y)=true) then (c false) else B4q N rc p q a h i b j l m n o c d f e))))))))) else none) else s:=rfl
theorem Dcb{R:Type}(N:Nat)(rc:Atd R)(a:Int)(f:Bool)(i:Nat)(nm:List UInt8)(data:Adt)(l:OpL)(gl:Af7)(procs labels:Int)(pl pr:List Int)(b:Bool→Option R)(x:Int×Int×Int)(hl:l.length≤1099511627776)(hN:l.length<N)(ho:Afn 0 l=true)(hi:i<l.length)(hn:0<Aaj x→0≤Aaj x∧Aaj x<pl.length∧0≤pl.getD (Aaj x).toNat 0∧pl.getD (Aaj x).toNat 0<l.length) :
  Cq2 N rc a f i nm data l gl procs labels pl pr b x.1 x.2.1 x.2.2=if (decide (Aaj x≤0)||(Bo3 l (pl.getD (Aaj x).toNat 0).toNat==(x.1==27)))=true then rc a (if x.1=19 then f else Aki x.1) ((i+1:Nat):Int) nm data l gl procs labels pl pr else b false:=by
 have fin:(if ((x.1 != (19:Int))=true) then (Abs N x.1 x.2.1 x.2.2 (fun c=>rc a c ((wi ((i:Int)+(1:Int)))) nm data l gl procs labels pl pr)) else (rc a f ((wi ((i:Int)+(1:Int)))) nm data l gl procs labels pl pr))=rc a (if x.1=19 then f else Aki x.1) ((i+1:Nat):Int) nm data l gl procs labels pl pr:=by
  rw[B0c,Aco (by omega)]
  by_cases h:x.1=19
  ·rw[if_neg (by simp[h]),if_pos h]
  ·rw[if_pos (by simpa using h),if_neg h]
 unfold Cq2
 rw[B26,show (x.1,x.2.1,x.2.2)=x from rfl]
 by_cases h0:Aaj x > 0
 ·have hn':=hn h0
  rw[if_pos (by simpa using h0),if_pos (by simp only[len];omega),Cur N l _ hl hN ho hn'.2.2.1 hn'.2.2.2,show decide (Aaj x≤0)=false from decide_eq_false (by omega),Bool.false_or]
  cases Bo3 l (pl.getD (Aaj x).toNat 0).toNat==(x.1==27)
  ·rfl
  ·rw[if_neg (by decide),if_pos rfl];exact fin
 ·rw[if_neg (by simpa using h0),show decide (Aaj x≤0)=true from decide_eq_true (by omega),Bool.true_or,if_pos rfl];exact fin
theorem Dft{R:Type}(N:Nat)(rc:Atd R)(a:Int)(f:Bool)(i:Nat)(nm:List UInt8)(data:Adt)(l:OpL)(gl:Af7)(procs labels:Int)(pl pr:List Int)(b:Bool→Option R)(x:Int×Int×Int)(hl:l.length≤1099511627776)(hN:l.length<N)(ho:Afn 0 l=true)(hi:i<l.length)(hn:0<Aaj x→0≤Aaj x∧Aaj x<pl.length∧0≤pl.getD (Aaj x).toNat 0∧pl.getD (Aaj x).toNat 0<l.length) :
  B4q N rc a f i nm data l gl procs labels pl pr b x.1 x.2.1 x.2.2=if ((x.1 != 28 || !f)&&(decide (Aaj x≤0)||(Bo3 l (pl.getD (Aaj x).toNat 0).toNat==(x.1==27))))=true then rc a (if x.1=19 then f else Aki x.1) ((i+1:Nat):Int) nm data l gl procs labels pl pr else b false:=by
 unfold B4q
 rw[Dcb N rc a f i nm data l gl procs labels pl pr b x hl hN ho hi hn]
 by_cases h:x.1=28
 ·rw[if_pos (by simpa using h),show (x.1 != 28)=false by rw[h];rfl]
  cases f
  ·rfl
  ·rfl
 ·rw[if_neg (by simpa using h),show (x.1 != 28)=true from bne_iff_ne.mpr h];rfl
theorem Dcc{R:Type}(N:Nat)(nm:List UInt8)(data:Adt)(l:OpL)(gl:Af7)(procs labels:Int)(pl pr:List Int)(nd:Int)(hp:procs≤200)(hl:l.length≤1099511627776)(hN:l.length<N)(ho:Afn 0 l=true)(hf:An7 l=true)(hall:∀x,x∈l→Ajs nd procs labels x=true)(hn:∀x,x∈l→0<Aaj x→0≤Aaj x∧Aaj x<pl.length∧0≤pl.getD (Aaj x).toNat 0∧pl.getD (Aaj x).toNat 0<l.length)(g:Bool→Option R)(j:Option R) :
  ∀(k i:Nat) (d:Int) (f:Bool),i≤l.length→l.length-i<k→0≤d∧d≤4000→
   Agy N k d f i nm data l gl procs labels pl pr g j=if Bbq l pl i d f (l.drop i)=true then j else g false:=by
 intro k
 induction k with
 |zero=>intro i _ _ _ h;omega
 |succ k ih=>
  intro i d f hi hk hd
  simp only[Agy,Dca]
  by_cases hlt:i<l.length
  case neg=>
   rw[if_neg (by simp[len];omega),List.drop_eq_nil_of_le (by omega)];rfl
  have hin:(0:Int)≤i∧(i:Int)<len l:=by simp only[len];omega
  have hx':=hall l[i] (List.getElem_mem hlt)
  have hn':=hn l[i] (List.getElem_mem hlt)
  have h0i:i=0→(l[i]).1=24:=by
   rintro rfl
   cases l with
   |nil=>simp at hlt
   |cons y r=>simpa [An7,Aey]using hf
  rw[if_pos (by simp[len];omega),if_pos hin,Akp _ _ hlt,List.drop_eq_getElem_cons hlt,Bbq]
  obtain⟨x,hx⟩:∃x,l[i]=x:=⟨_,rfl⟩
  simp only[hx]at hx' hn' h0i ⊢
  have hop:=Bge hx'
  by_cases h24:x.1=24
  ·have hm:=Bgd hp hx' (.inl h24)
   have hm8:x.2.2≤8:=by
    obtain⟨a,b,c⟩:=x
    simp only at h24;subst h24
    simp[Ajs,A2g,inB]at hx'
    simp only;omega
   rw[if_pos (by simpa using h24),if_pos h24,Aeh (i:=2+x.2.2) (by omega) (by omega),Aco (by omega)]
   exact ih (i+1) (2+x.2.2) true (by omega) (by omega) (by omega)
  rw[if_neg (by simpa using h24),if_neg h24,Bmw N x d hop hd (Bgd hp hx')]
  have hip:0<i:=by
   rcases Nat.eq_zero_or_pos i with h|h
   ·exact absurd (h0i h) h24
   ·exact h
  have hkt:=Cum x.1
  have hwn:wi (d-(kT x.1).2.2.1)=d-(kT x.1).2.2.1:=Aeh (by omega) (by omega)
  have mid:B4q N (fun m n o p q s t u v w z=>Agy N k m n o p q s t u v w z g j) (Aip x d) f i nm data l gl procs labels pl pr g x.1 x.2.1 x.2.2=_:=Dft N _ (Aip x d) f i nm data l gl procs labels pl pr g x hl hN ho hlt hn'
  have step:∀e:Bool,e=((x.1==18&&Bdx l i)||C4j x d)→(if (decide (wi (d-(kT x.1).2.2.1)<2))=true then g false else if (!inB (Aip x d) 2 4000)=true then g false else if (!e)=true then g false else B4q N (fun m n o p q s t u v w z=>Agy N k m n o p q s t u v w z g j) (Aip x d) f i nm data l gl procs labels pl pr g x.1 x.2.1 x.2.2) =
    if (dpB l pl i d f x&&Bbq l pl (i+1) (Aip x d) (if x.1=19 then f else Aki x.1) (l.drop (i+1)))=true then j else g false:=by
   intro e he
   unfold dpB
   rw[Dfs x d _ h24,←he,hwn]
   by_cases c1:d-(kT x.1).2.2.1<2
   ·rw[if_pos (by simpa using c1),show decide (2≤d-(kT x.1).2.2.1)=false from decide_eq_false (by omega)];simp
   rw[if_neg (by simpa using c1),show decide (2≤d-(kT x.1).2.2.1)=true from decide_eq_true (by omega),Bool.and_true]
   by_cases c2:2≤Aip x d
   case neg=>
    rw[if_pos (by unfold inB;simp;omega),show decide (2≤Aip x d)=false from decide_eq_false c2];simp
   by_cases c3:Aip x d≤4000
   case neg=>
    rw[if_pos (by unfold inB;simp;omega),show decide (Aip x d≤4000)=false from decide_eq_false c3];simp
   rw[if_neg (by unfold inB;simp;omega),show decide (2≤Aip x d)=true from decide_eq_true c2,show decide (Aip x d≤4000)=true from decide_eq_true c3,Bool.and_true,Bool.and_true]
   cases e
   ·rfl
   rw[if_neg (by decide),mid,Bool.true_and]
   cases hc:((x.1 != 28 || !f)&&(decide (Aaj x≤0)||(Bo3 l (pl.getD (Aaj x).toNat 0).toNat==(x.1==27))))
   ·rfl
   ·rw[if_pos rfl,Bool.true_and]
    exact ih (i+1) (Aip x d) _ (by omega) (by omega) (by omega)
  simp only[Cup N x hop,Atp,Cuq N x d hd]
  by_cases h18:x.1=18
  ·have hw:wi ((i:Int)-1)=((i-1:Nat):Int):=by rw[Aeh (by omega) (by omega)];omega
   rw[if_pos (by simpa using h18),hw,if_pos (by simp only[len];omega),Int.toNat_natCast]
   have hpv:Bdx l i=((Aak l (i-1)).1==19):=by unfold Bdx;rw[show decide (0<i)=true from decide_eq_true hip,Bool.true_and]
   refine Eq.trans ?_ (step _ rfl)
   rw[hpv,show (x.1==18)=true by rw[h18];rfl,Bool.true_and]
   show (if decide (wi (d-(kT x.1).2.2.1)<2)=true then g false else if (!inB (Aip x d) 2 4000)=true then g false else if (!(Aak l (i-1)).1==19)=true then _ else _)=_
   cases (Aak l (i-1)).1==19<;>rfl
  ·rw[if_neg (by simpa using h18)]
   refine Eq.trans ?_ (step _ rfl)
   rw[show (x.1==18)=false from beq_eq_false_iff_ne.mpr h18];rfl
def A2h:OpL→Option Int
 |[]=>none
 |x::r=>if x.1=19 then A2h r else some x.1
theorem Chq:∀(l:OpL) (h:Az6 l<l.length),A2h l=some (Aak l (Az6 l)).1
 |[],h=>by simp[Az6]at h
 |x::r,h=>by
  rw[Az6]at h ⊢
  rw[A2h]
  split
  ·rename_i h19
   rw[if_pos h19]at h
   rw[Chq r (by simp at h;omega)];rfl
  ·rfl
theorem Cvv{l:OpL}(ho:Afn 0 l=true){j:Nat}(hj:j<l.length):A2h (l.drop j)=some (Aak l (Aeu l j)).1:=by
 have h:=Bo2 ho hj
 rw[Chq _ (by rw[List.length_drop];unfold Aeu at h;omega)]
 unfold Aak Aeu
 rw[Cvs]
theorem Cq3(l:OpL)(pl:List Int):∀(r:OpL) (i:Nat) (d:Int),A2h r=some 28→Bbq l pl i d true r=false
 |[],_,_,h=>by cases h
 |x::r,i,d,h=>by
  rw[A2h]at h
  rw[Bbq]
  by_cases h19:x.1=19
  ·rw[if_pos h19]at h
   rw[if_neg (by omega),if_pos h19,Cq3 l pl r (i+1) _ h,Bool.and_false]
  ·rw[if_neg h19]at h
   injection h with h
   rw[if_neg (by omega)]
   have:dpB l pl i d true x=false:=by
    unfold dpB
    rw[h];simp
   rw[this,Bool.false_and]
theorem Dfu(l:OpL)(o pl:List Int)(hol:Afn 0 l=true)(hrel:∀x,x∈l→0<Aaj x→pl.getD (Aaj x).toNat 0=o.getD (Aaj x).toNat 0)(hop:∀x,x∈l→1≤x.1∧x.1≤30∧(x.1=29→0≤x.2.2)∧(x.1=24→0≤x.2.2∧x.2.2≤8)) :
  ∀(r:OpL) (i c:Nat) (d:Int) (f:Bool),l.drop i=r→Afn c r=true→(f=true→A2h r≠some 28)→Bgc l o i d r=Bbq l pl i d f r:=by
 intro r
 induction r with
 |nil=>intros;rfl
 |cons x r ih=>
  intro i c d f hd hc hf
  have hlt:i<l.length:=by
   rcases Nat.lt_or_ge i l.length with h|h
   ·exact h
   ·rw[List.drop_eq_nil_of_le h]at hd;cases hd
  have hdc:=hd
  rw[List.drop_eq_getElem_cons hlt]at hdc
  have hx:l[i]=x:=(List.cons.inj hdc).1
  have hr:l.drop (i+1)=r:=(List.cons.inj hdc).2
  have hm:x∈l:=by rw[←hx];exact List.getElem_mem hlt
  have hop':=hop x hm
  have hoa:Aak l i=x:=by rw[Atj hlt];exact hx
  rw[Cvt c x r hop'.1]at hc
  simp only[Bool.and_eq_true]at hc
  obtain⟨⟨⟨hc1,hc2⟩,hc3⟩,hc4⟩:=hc
  rw[Bgc,Bbq]
  have hG:∀f2:Bool,(f2=if x.1=19 then f else Aki x.1)→∀d2,(x.1==19||Atq l i||decide (l.length≤i+1)||(Aak l (Aeu l (i+1))).1 != 28)=true→Bgc l o (i+1) d2 r=Bbq l pl (i+1) d2 f2 r:=by
   intro f2 hf2 d2 hg
   refine ih (i+1) _ d2 f2 hr hc4 ?_
   intro h1
   by_cases h19:x.1=19
   ·rw[if_pos h19]at hf2
    have:=hf (by rw[←hf2];exact h1)
    rw[A2h,if_pos h19]at this;exact this
   ·rw[if_neg h19]at hf2
    have hgo:Aki x.1=true:=by rw[←hf2];exact h1
    have hne:Atq l i=false:=by
     unfold Atq
     rw[hoa]
     simp only[Aki,Bool.and_eq_true,bne_iff_ne,ne_eq]at hgo
     rw[if_neg (by omega),if_neg (by omega),if_neg (by omega)]
    rw[hne,show (x.1==19)=false from beq_eq_false_iff_ne.mpr h19,Bool.false_or,Bool.false_or]at hg
    by_cases h2:i+1<l.length
    ·rw[show decide (l.length≤i+1)=false from decide_eq_false (by omega),Bool.false_or,bne_iff_ne]at hg
     rw[←hr,Cvv hol h2]
     intro h;injection h with h;exact hg h
    ·rw[←hr,List.drop_eq_nil_of_le (by omega)];simp[A2h]
  have hG0:(x.1==19||Atq l i||decide (l.length≤i+1)||(Aak l (Aeu l (i+1))).1 != 28)=false→∀d2,Bbq l pl (i+1) d2 (if x.1=19 then f else Aki x.1) r=false:=by
   intro hg d2
   simp only[Bool.or_eq_false_iff,beq_eq_false_iff_ne,decide_eq_false_iff_not,bne_eq_false_iff_eq]at hg
   obtain⟨⟨⟨g1,g2⟩,g3⟩,g4⟩:=hg
   have hnl:A2h r=some 28:=by rw[←hr,Cvv hol (by omega),g4]
   rw[if_neg g1]
   have hgo:Aki x.1=true:=by
    unfold Atq at g2
    rw[hoa]at g2
    simp only at g2
    by_cases e1:x.1=20∨x.1=25∨x.1=26∨x.1=27
    ·rw[if_pos e1]at g2;cases g2
    rw[if_neg e1]at g2
    by_cases e2:x.1=29
    ·rw[if_pos e2]at g2
     rw[if_pos e2]at hc4
     have h3:=hop'.2.2.1 e2
     have h4:x.2.2≠0:=by simpa using g2
     obtain⟨q,hq⟩:∃q,x.2.2.toNat=q+1:=⟨x.2.2.toNat-1,by omega⟩
     rw[hq]at hc4
     cases r with
     |nil=>simp[Afn]at hc4
     |cons y r=>
      simp only[Afn,Bool.and_eq_true,beq_iff_eq]at hc4
      rw[A2h,if_neg (by omega),hc4.1]at hnl
      simp at hnl
    rw[if_neg e2]at g2
    by_cases e3:x.1=30
    ·rw[if_pos e3]at g2
     simp only[Bool.or_eq_false_iff,decide_eq_false_iff_not,bne_eq_false_iff_eq]at g2
     have h5:i+1<l.length:=by omega
     rw[←hr,List.drop_eq_getElem_cons h5,A2h,←Atj h5,g2.2]at hnl
     simp at hnl
    ·unfold Aki
     simp only[Bool.and_eq_true,bne_iff_ne,ne_eq]
     omega
   rw[hgo]
   exact Cq3 l pl r (i+1) d2 hnl
  unfold Bs7
  by_cases h24:x.1=24
  ·have hm8:=hop'.2.2.2 h24
   have ha:Aip x d=2+x.2.2:=by unfold Aip;rw[if_neg (by omega),if_pos h24]
   have hfit:Brl x d (Bdx l i)=true:=by unfold Brl;rw[h24];rfl
   have hnm:Aaj x=0:=by unfold Aaj;rw[if_neg (by omega),if_neg (by omega)]
   rw[if_pos h24,hfit,ha,hnm,show decide (2≤2+x.2.2)=true from decide_eq_true (by omega),show decide (2+x.2.2≤4000)=true from decide_eq_true (by omega)]
   have hgt:(if x.1=19 then f else Aki x.1)=true:=by rw[h24];rfl
   have h1:=hG true hgt.symm (2+x.2.2)
   have h2:=fun h=>hG0 h (2+x.2.2)
   rw[hgt]at h2
   cases hg:(x.1==19||Atq l i||decide (l.length≤i+1)||(Aak l (Aeu l (i+1))).1 != 28)
   ·rw[h2 hg];rfl
   ·rw[h1 hg];rfl
  rw[if_neg h24]
  unfold dpB
  have hrel':=hrel x hm
  have hx28:(x.1 != 28 || !f)=true:=by
   by_cases h28:x.1=28
   ·cases f
    ·simp
    ·have:=hf rfl
     rw[A2h,if_neg (by omega),h28]at this
     exact absurd rfl this
   ·rw[show (x.1 != 28)=true from bne_iff_ne.mpr h28];rfl
  have hnm:(decide (Aaj x≤0)||(((Aak l (Aeu l (o.getD (Aaj x).toNat 0).toNat)).1==28)==(x.1==27)))=(decide (Aaj x≤0)||(Bo3 l (pl.getD (Aaj x).toNat 0).toNat==(x.1==27))):=by
   by_cases h0:0<Aaj x
   ·rw[hrel' h0];rfl
   ·rw[show decide (Aaj x≤0)=true from decide_eq_true (by omega)];rfl
  rw[hx28,hnm,Bool.and_true]
  have h1:=hG _ rfl (Aip x d)
  have h2:=fun h=>hG0 h (Aip x d)
  cases hg:(x.1==19||Atq l i||decide (l.length≤i+1)||(Aak l (Aeu l (i+1))).1 != 28)
  ·rw[h2 hg];simp
  ·rw[h1 hg,Bool.and_true]
   cases Brl x d (Bdx l i)<;>cases decide (2≤Aip x d)<;>cases decide (Aip x d≤4000)<;>cases (decide (Aaj x≤0)||(Bo3 l (pl.getD (Aaj x).toNat 0).toNat==(x.1==27)))<;>rfl
theorem C9m{R:Type}(N:Nat)(nm:List UInt8)(data:Adt)(l:OpL)(gl:Af7)(procs labels:Int)(hl:l.length≤1099511627776)(hd:data.length≤2000)(hp:procs≤200)(hb:labels≤20000)(a:Int→Option R)(b:List UInt8→Adt→OpL→Af7→Int→Int→Option R) :
  ∀(k i:Nat),i≤l.length→l.length-i<k→
   Agf N k i nm data l gl procs labels a b=if (l.drop i).all (Ajs data.length procs labels) then b nm data l gl procs labels else a 60:=by
 intro k
 induction k with
 |zero=>intro i _ h;omega
 |succ k ih=>
  intro i hi hk
  simp only[Agf,Bfl]
  by_cases hlt:i<l.length
  case neg=>
   rw[if_neg (by simp[len];omega),List.drop_eq_nil_of_le (by omega)]
   simp
  have hin:(0:Int)≤i∧(i:Int)<len l:=by simp only[len];omega
  rw[if_pos (by simp[len];omega),if_pos hin,Akp _ _ hlt,Aco (by omega),List.drop_eq_getElem_cons hlt,List.all_cons,Cmj N _ _ _ nm data l gl procs labels hd hp hb]
  have:(inB l[i].1 1 30&&A2g l[i].1 l[i].2.1 l[i].2.2 data.length procs labels)=Ajs data.length procs labels l[i]:=rfl
  rw[this,ih (i+1) (by omega) (by omega)]
  cases Ajs data.length procs labels l[i]<;>rfl
theorem Dcd{nd procs labels:Int}{x:Int×Int×Int}(h:Ajs nd procs labels x=true)(h24:x.1=24):0≤x.2.2∧x.2.2≤8:=by
 obtain⟨op,n,m⟩:=x
 simp only at h24;subst h24
 simp[Ajs,A2g,inB]at h
 exact h.2
theorem B28{R:Type}{N:Nat}{nm:List UInt8}{data:Adt}{gl:Af7}(F:Cq1 N nm data gl)(l:OpL)(procs labels:Int)(K:Int→Option R) :
  Ah4 N nm data l gl procs labels K=K (Bxl nm data l gl procs labels):=by
 have hN:=F.N1
 simp only[Ah4,Bqs]
 rw[Cmk N _ _ _ _ _ _ F.d0 (by omega)]
 unfold Bxl
 cases h:Bag data l procs labels
 case true=>rfl
 simp only[Bag,Bool.or_eq_false_iff,decide_eq_false_iff_not]at h
 simp only[Bool.false_eq_true,if_false]
 unfold Bo1
 by_cases c1:procs<0
 ·rw[if_pos (by simpa using c1),show decide (0≤procs)=false from decide_eq_false (by omega)];simp
 rw[if_neg (by simpa using c1)]
 by_cases c2:labels<0
 ·rw[if_pos (by simpa using c2),show decide (0≤labels)=false from decide_eq_false (by omega)];simp
 rw[if_neg (by simpa using c2),Cui N nm data l gl procs labels F.d1 (by omega) F.d3 (by omega) F.g1 F.g2 F.n2 F.n1]
 rw[show decide (0≤procs)=true from decide_eq_true (by omega),show decide (0≤labels)=true from decide_eq_true (by omega)]
 cases c3:Axw nm==0
 case false=>simp
 rw[Bool.and_true,Bool.and_true,Bool.and_true,Bool.true_and]
 have hloop:=C9m (R:=R) N nm data l gl procs labels (by omega) (by omega) (by omega) (by omega) (fun j=>K j) (fun c d e f g i=>Ajz N c d e f g i (fun m=>if ((!m)=true) then (K 60) else (Ail N c d e f g i (fun n s t=>if ((!n)=true) then (K 60) else (Alk N c d e f g i s t (fun A=>if ((!A)=true) then (K 61) else (K 0))))))) N 0 (by omega) (by omega)
 rw[List.drop_zero,show ((0:Nat):Int)=0 from rfl]at hloop
 cases c4:Bxk data gl procs
 case false=>
  rw[if_pos (by decide)]
  cases An8 l procs labels with
  |none=>simp
  |some q=>obtain⟨b,o,a⟩:=q;simp
 rw[if_neg (by decide)]
 refine Eq.trans hloop ?_
 by_cases hn:l.all (Ajs data.length procs labels)=true
 case neg=>
  rw[if_neg hn,show l.all (Ajs data.length procs labels)=false by simpa using hn];rfl
 rw[if_pos hn,hn,Bool.true_and]
 have hall:∀o,o∈l→Ajs data.length procs labels o=true:=List.all_eq_true.mp hn
 rw[Db9 N nm data l gl procs labels (by omega) (by omega) (fun o ho=>(Bge (hall o ho)).1) (fun o ho h=>Cml (hall o ho) h)]
 cases c5:Afn 0 l&&An7 l
 case false=>
  rw[if_pos (by simp)]
  cases An8 l procs labels with
  |none=>simp
  |some q=>obtain⟨b,o,a⟩:=q;simp
 simp only[Bool.and_eq_true]at c5
 rw[Bool.true_and]
 have hL:∀o,o∈l→o.1=19→1≤o.2.1∧o.2.1≤labels:=fun o ho h=>Bmt (hall o ho) h
 have hnm:∀x,x∈l→Aaj x=0∨(1≤Aaj x∧Aaj x≤labels):=fun x hx=>Bnd (hall x hx)
 have hrel:=C9k l procs labels (by omega) c5.2 hL hnm
 have hcode:(match An8 l procs labels with|none=>false|some (b,o,a)=>b&&true&&true&&A1p 0 l o a)=(B04 l 0 0 procs labels&&(Bgs l labels).isSome):=by
  rw[←hrel.1]
  cases An8 l procs labels with
  |none=>rfl
  |some q=>obtain⟨b,o,a⟩:=q;simp
 refine Eq.trans ?_ (congrArg (fun b:Bool=>K (if b=true then (if Bah l procs labels=true then 0 else 61) else 60)) hcode.symm)
 rw[C9j N nm data l gl procs labels (by omega) (by omega) ⟨by omega,by omega⟩ (by omega) hL hnm _ (fun a b a' b'=>rfl)]
 cases c6:B04 l 0 0 procs labels
 case false=>rfl
 rw[if_neg (by decide),Bool.true_and]
 cases hpl:Bgs l labels with
 |none=>rfl
 |some q=>
  obtain⟨pl,pr⟩:=q
  simp only[Option.isSome_some,Bool.not_true,Bool.false_eq_true,if_false]
  rw[c6,hpl]at hrel
  cases hp:An8 l procs labels with
  |none=>
   rw[hp]at hrel
   exact absurd hrel.1 (by simp)
  |some q=>
   obtain⟨b,o,a⟩:=q
   have hr1:=hrel.1
   rw[hp]at hr1
   simp only[Option.isSome_some,Bool.and_true,Bool.and_eq_true]at hr1
   have hr2:=hrel.2 b o a pl pr hp hr1.2 rfl
   have hu:=hr1.2
   have hlen:=B03 hp
   simp only at hlen
   have hpll:pl.length=(labels+1).toNat:=by
    unfold Bgs at hpl
    split at hpl
    ·cases hpl
    ·rename_i pl' pr' hq
     have:=B27 _ _ _ _ _ _ hq
     split at hpl
     ·simp only[Option.some.injEq,Prod.mk.injEq]at hpl
      obtain⟨rfl,rfl⟩:=hpl
      simpa using this.1
     ·cases hpl
   have huse:∀(r:OpL) (p:Int),A1p p r o a=true→∀x,x∈r→0<Aaj x→o.getD (Aaj x).toNat 0≠0:=by
    intro r
    induction r with
    |nil=>intro p _ x hx;cases hx
    |cons y r ih=>
     intro p h x hx h0
     simp only[A1p,Bool.and_eq_true,Bool.or_eq_true,decide_eq_true_eq,bne_iff_ne,ne_eq,beq_iff_eq]at h
     rcases List.mem_cons.mp hx with rfl|hx
     ·rcases h.1 with h|h
      ·omega
      ·exact h.2
     ·exact ih _ h.2 x hx h0
   have hov:=Chp hp
   have hre:∀x,x∈l→0<Aaj x→(pl.getD (Aaj x).toNat 0=o.getD (Aaj x).toNat 0)∧0≤Aaj x∧Aaj x<pl.length∧0≤pl.getD (Aaj x).toNat 0∧pl.getD (Aaj x).toNat 0<l.length:=by
    intro x hx h0
    have h1:=hnm x hx
    have h2:=huse l 0 hu x hx h0
    have h3:=hr2 (Aaj x).toNat (by omega)
    have h4:=hov (Aaj x).toNat
    simp only at h4
    rcases h3 with ⟨e1,e2⟩|⟨e1,e2,e3,e4⟩
    ·exfalso
     have huse2:∀(r:OpL) (p:Int),A1p p r o a=true→(p=0→Aey r=none∨Aey r=some 24)→0≤p→(∀y,y∈r→y.1=24→1≤y.2.1)→∀x,x∈r→0<Aaj x→a.getD (Aaj x).toNat 0≠0:=by
      intro r
      induction r with
      |nil=>intro p _ _ _ _ x hx;cases hx
      |cons y r ih=>
       intro p h hp0 hp h24 x hx h0
       simp only[A1p,Bool.and_eq_true,Bool.or_eq_true,decide_eq_true_eq,bne_iff_ne,ne_eq,beq_iff_eq]at h
       have hp1:1≤(if y.1=24 then y.2.1 else p):=by
        split
        ·rename_i h;exact h24 y (by simp) h
        ·rename_i hy
         rcases Int.lt_or_le 0 p with h|h
         ·omega
         ·have:=hp0 (by omega)
          simp only[Aey]at this
          rcases this with h|h
          ·cases h
          ·injection h with h;exact absurd h hy
       rcases List.mem_cons.mp hx with rfl|hx
       ·rcases h.1 with h|h
        ·omega
        ·omega
       ·exact ih _ h.2 (by omega) (by omega) (fun z hz=>h24 z (by simp[hz])) x hx h0
     have hf:=c5.2
     unfold An7 at hf
     simp only[Bool.or_eq_true,beq_iff_eq]at hf
     exact huse2 l 0 hu (fun _=>hf) (by omega) (fun y hy h=>by
      have:=hall y hy
      obtain⟨u,v,w⟩:=y
      simp only at h;subst h
      simp[Ajs,A2g,inB]at this
      exact this.1.1) x hx h0 e1
    ·exact⟨e2,by omega,by omega,by omega,by omega⟩
   simp only[Alk,Bwr]
   have hd:=Dcc (R:=R) N nm data l gl procs labels pl pr data.length (by omega) (by omega) (by omega) c5.1 c5.2 hall (fun x hx h0=>(hre x hx h0).2) (fun B=>if (!B)=true then K 61 else K 0) (if (!true)=true then K 61 else K 0) N 0 0 false (by omega) (by omega) (by omega)
   rw[List.drop_zero,show ((0:Nat):Int)=0 from rfl]at hd
   refine Eq.trans hd ?_
   have hsd:=Dfu l o pl c5.1 (fun x hx h0=>(hre x hx h0).1) (fun x hx=>⟨(Bge (hall x hx)).1,(Bge (hall x hx)).2,fun h=>(Cml (hall x hx) h).1,fun h=>Dcd (hall x hx) h⟩) l 0 0 0 false rfl c5.1 (fun h=>by cases h)
   have hst:Bah l procs labels=Bbq l pl 0 0 false l:=by unfold Bah;rw[hp];exact hsd
   rw[hst]
   cases Bbq l pl 0 0 false l<;>rfl
def n16(v:Int):Int:=(v+32768)%65536-32768
def Aec(v:Int):Bool:=decide (v≥-32768)&&decide (v≤32767)
theorem Akj{v:Int}:Aec v=true ↔ -32768≤v∧v≤32767:=by unfold Aec;simp
theorem Bjz(v:Int):Aec (n16 v)=true:=by rw[Akj];unfold n16;omega
theorem Bdc{v:Int}(h:Aec v=true):n16 v=v:=by rw[Akj]at h;unfold n16;omega
theorem Cdq{v:Int}:(v==n16 v)=Aec v:=by
 cases h:Aec v
 ·have:¬Aec v=true:=by simp[h]
  rw[Akj]at this
  have h2:=Bjz v;rw[Akj]at h2
  simp;omega
 ·rw[Bdc h];simp
theorem Bxm{R:Type}(N:Nat)(v:Int)(K:Int→Option R):Abw N v 16 K=K (n16 v):=by
 simp only[Abw]
 rw[show wi ((64:Int)-16)=48 from rfl,if_neg (by decide),if_neg (by decide)]
 congr 1
 unfold Crf Bgv
 rw[IntKind.wrap_i64]
 simp only[show min (Int.toNat 48) (IntKind.bits .i64)=48 from rfl]
 unfold n16
 rw[show (2:Int)^48=281474976710656 from rfl,Int.fdiv_eq_ediv_of_nonneg _ (by decide)]
 omega
theorem Dce(v:Int):Int.tmod v 65536=if 0≤v then v%65536 else -((-v)%65536):=by
 by_cases h:0≤v
 ·rw[if_pos h,Int.tmod_eq_emod_of_nonneg h]
 ·rw[if_neg h]
  have:=Int.neg_tmod (-v) 65536
  rw[Int.neg_neg]at this
  rw[this,Int.tmod_eq_emod_of_nonneg (by omega)]
theorem Dh4{R:Type}(N:Nat)(n:Nat)(hn:n≤32)(K:Int→Option R):∀(m k i:Nat),m<k→i+m=n→Agr N k (n:Int) ((2^i:Nat):Int) (i:Int) K=K ((2^n:Nat):Int):=by
 intro m
 induction m with
 |zero=>
  intro k i hk hi
  obtain⟨k,rfl⟩:∃q,k=q+1:=⟨k-1,by omega⟩
  simp only[Agr,A7g]
  rw[if_neg (by simp only[decide_eq_true_eq];omega),show i=n by omega]
 |succ m ih=>
  intro k i hk hi
  obtain⟨k,rfl⟩:∃q,k=q+1:=⟨k-1,by omega⟩
  simp only[Agr,A7g]
  have h2:(2:Nat)^i≤2^32:=Nat.pow_le_pow_right (by decide) (by omega)
  have h3:(2:Nat)^32=4294967296:=by decide
  have h4:(2:Nat)^(i+1)=2^i*2:=Nat.pow_succ ..
  rw[if_pos (by simp only[decide_eq_true_eq];omega),Aco (by omega),Aeh (by omega) (by omega),show (((2^i:Nat):Int)*2)=((2^(i+1):Nat):Int) by omega]
  exact ih k (i+1) (by omega) (by omega)
theorem B0d{R:Type}(N:Nat)(hN:40<N)(n:Nat)(hn:n≤32)(K:Int→Option R):Ab0 N (n:Int) K=K ((2^n:Nat):Int):=by
 simp only[Ab0,Bqu]
 have:=Dh4 N n hn K n N 0 (by omega) (by omega)
 exact this
theorem A0i{R:Type}(N:Nat)(hN:40<N)(v:Int)(hv:-9223372036854775808≤v∧v≤9223372036854775807)(K:Int→Option R):Abx N v 16 K=K (n16 v):=by
 simp only[Abx,Bww,Ah1]
 have hp:=fun K=>B0d (R:=R) N hN 16 (by decide) K
 rw[show ((16:Nat):Int)=16 from rfl,show ((2^16:Nat):Int)=65536 from rfl]at hp
 rw[hp,if_neg (by decide),Dce]
 rw[show wi (Int.tdiv (wi ((0:Int)-65536)) 2) = -32768 from rfl,show wi (Int.tdiv 65536 (2:Int))=32768 from rfl]
 unfold n16
 by_cases h0:0≤v
 ·simp only[if_pos h0]
  rw[if_neg (by simp only[decide_eq_true_eq];omega)]
  by_cases h1:v%65536≥32768
  ·rw[if_pos (by simpa using h1),Aeh (by omega) (by omega)]
   congr 1;omega
  ·rw[if_neg (by simpa using h1)]
   congr 1;omega
 ·simp only[if_neg h0]
  by_cases h1:-((-v)%65536) < -32768
  ·rw[if_pos (by simpa using h1),Aeh (by omega) (by omega),if_neg (by simp only[decide_eq_true_eq];omega)]
   congr 1;omega
  ·rw[if_neg (by simpa using h1),if_neg (by simp only[decide_eq_true_eq];omega)]
   congr 1;omega
theorem Dlg(v:Int):Int.bmod v (2^16)=n16 v:=by
 rw[Int.bmod_def,show (((2^16:Nat):Int))=65536 from rfl]
 unfold n16
 split<;>omega
theorem Cq4(v:Int):Int.bmod v (2^64)=(v+9223372036854775808)%18446744073709551616-9223372036854775808:=by
 rw[Int.bmod_def,show (((2^64:Nat):Int))=18446744073709551616 from rfl]
 split<;>omega
theorem sx{a:Int}(h:Aec a=true):BitVec.ofInt 64 a=(BitVec.ofInt 16 a).signExtend 64:=by
 rw[Akj]at h
 apply BitVec.eq_of_toInt_eq
 rw[BitVec.toInt_signExtend_of_le (by decide),BitVec.toInt_ofInt,BitVec.toInt_ofInt,Dlg,Cq4]
 unfold n16
 omega
theorem Bj0(x:BitVec 64):IntKind.i64.wrap (x.toNat:Int)=x.toInt:=by
 rw[IntKind.wrap_i64,BitVec.toInt_eq_toNat_bmod,Cq4]
theorem C9n(x:BitVec 16):Aec ((x.signExtend 64).toInt)=true:=by
 rw[BitVec.toInt_signExtend_of_le (by decide),Akj]
 have h1:=BitVec.le_toInt x
 have h2:=BitVec.toInt_lt (x:=x)
 simp at h1 h2
 omega
theorem Dcf{a b:Int}(ha:Aec a=true)(hb:Aec b=true):Aec (Bk7 .i64 a b)=true:=by
 have h:Bk7 .i64 a b=(BitVec.ofInt 64 a &&&BitVec.ofInt 64 b:BitVec 64).toInt:=Bj0 _
 rw[h,sx ha,sx hb,←BitVec.signExtend_and]
 exact C9n _
theorem Dl7{a b:Int}(ha:Aec a=true)(hb:Aec b=true):Aec (orI .i64 a b)=true:=by
 have h:orI .i64 a b=(BitVec.ofInt 64 a ||| BitVec.ofInt 64 b:BitVec 64).toInt:=Bj0 _
 rw[h,sx ha,sx hb,←BitVec.signExtend_or]
 exact C9n _
theorem C4k{a b:Int}(ha:Aec a=true)(hb:Aec b=true):Aec (Bbt .i64 a b)=true:=by
 have h:Bbt .i64 a b=(BitVec.ofInt 64 a ^^^ BitVec.ofInt 64 b:BitVec 64).toInt:=Bj0 _
 rw[h,sx ha,sx hb,←BitVec.signExtend_xor]
 exact C9n _
theorem Dh5{a:Int}(ha:Aec a=true):Bbt .i64 (-1) a = -a-1:=by
 unfold Bbt
 rw[Akj]at ha
 have e:(BitVec.ofInt (IntKind.bits .i64) (-1) ^^^ BitVec.ofInt (IntKind.bits .i64) a:BitVec 64) = ~~~ (BitVec.ofInt 64 a):=by
  show (BitVec.ofInt 64 (-1) ^^^ BitVec.ofInt 64 a:BitVec 64)=_
  rw[show (BitVec.ofInt 64 (-1):BitVec 64)=BitVec.allOnes 64 from by decide,BitVec.allOnes_xor]
 refine (Bj0 (BitVec.ofInt (IntKind.bits .i64) (-1) ^^^ BitVec.ofInt (IntKind.bits .i64) a:BitVec 64)).trans ?_
 rw[e,BitVec.toInt_not,Cq4]
 have h1:=Bj0 (BitVec.ofInt 64 a)
 rw[IntKind.wrap_i64,BitVec.toInt_ofInt,Cq4]at h1
 have h2:=(BitVec.ofInt 64 a).isLt
 omega
def doV(op a b:Int):Int :=
 if op=1 then a*b else if op=2 then Int.tdiv a b else if op=3 then Int.tmod a b else if op=4 then a+b else if op=5 then a-b
 else if op=6 then (if b<0 then 0 else if b≥16 then 0 else Bgv .i64 a b)
 else if op=7 then (if b<0 then 0 else if b≥16 then 0 else Crf .i64 (Bk7 .i64 a 65535) b)
 else if op=8 then Bk7 .i64 a b else if op=9 then orI .i64 a b else if op=10 then Bbt .i64 a b else if op=11 then Bbt .i64 (-1) (Bbt .i64 a b)
 else if op=12 then (if (a==b)=true then -1 else 0) else if op=13 then (if (a != b)=true then -1 else 0) else if op=14 then (if decide (a<b)=true then -1 else 0)
 else if op=15 then (if decide (a≤b)=true then -1 else 0) else if op=16 then (if decide (a > b)=true then -1 else 0) else if op=17 then (if decide (a≥b)=true then -1 else 0)
 else if op=18 then -a else -a-1
noncomputable def wOp{R:Type}(N:Nat)(op a b:Int)(K:Int→Option R):Option R :=
 match op.toNat with
 |1=>Abj N a b 16 K|2=>Abk N a b 16 K|3=>Abl N a b 16 K|4=>Abm N a b 16 K|5=>Abn N a b 16 K
 |6=>Abo N a b 16 K|7=>Abp N a b 16 K|8=>Abq N a b 16 K|9=>Abr N a b 16 K|10=>Abb N a b 16 K
 |11=>Abc N a b 16 K|12=>Abd N a b 16 K|13=>Abe N a b 16 K|14=>Abf N a b 16 K|15=>Abg N a b 16 K
 |16=>Abh N a b 16 K|17=>Abi N a b 16 K|18=>Aa5 N a b 16 K|19=>Aa6 N a b 16 K | _=>none
theorem Cmn{op:Int}(h:1≤op∧op≤19):op=1∨op=2∨op=3∨op=4∨op=5∨op=6∨op=7∨op=8∨op=9∨op=10∨op=11∨op=12∨op=13∨op=14∨op=15∨op=16∨op=17∨op=18∨op=19:=by omega
theorem Dl8{R:Type}(N:Nat)(op a b:Int)(h:1≤op∧op≤19)(K:Int→Int→Option R):Ajo N op a b 16 K=wOp N op a b (fun y=>Abw N y 16 (fun z=>K z 0)):=by
 rcases Cmn h with rfl|rfl|rfl|rfl|rfl|rfl|rfl|rfl|rfl|rfl|rfl|rfl|rfl|rfl|rfl|rfl|rfl|rfl|rfl<;>rfl
theorem Dl9{R:Type}(N:Nat)(op a b w:Int)(h:1≤op∧op≤19)(K:Bool→Int→Option R):Afs N op a b 16 w K=Aga N b (fun y=>if y=true then wOp N op a b (fun y=>K (y==w) 0) else K false 0):=by
 rcases Cmn h with rfl|rfl|rfl|rfl|rfl|rfl|rfl|rfl|rfl|rfl|rfl|rfl|rfl|rfl|rfl|rfl|rfl|rfl|rfl<;>rfl
theorem Dgu{R:Type}(N:Nat)(op a b w o':Int)(h:1≤op∧op≤19)(K:Bool→Int→Option R)(c:Int→Int→Int→Int→Int→Option R):Aej N op a b 16 w o' true K c=wOp N op a 0 (fun y=>K (y==w) 0):=by
 rcases Cmn h with rfl|rfl|rfl|rfl|rfl|rfl|rfl|rfl|rfl|rfl|rfl|rfl|rfl|rfl|rfl|rfl|rfl|rfl|rfl<;>rfl
theorem Cmo{R:Type}(N:Nat)(v:Int)(K:Bool→Option R):Aga N v K=K (Aec v):=by
 simp only[Aga,Aec]
 by_cases h:v≥-32768
 ·rw[if_pos (by simpa using h),decide_eq_true h];rfl
 ·rw[if_neg (by simpa using h),decide_eq_false h];rfl
theorem C4l{R:Type}(N:Nat)(v:Int)(K:Bool→Option R):Ah3 N v K=K (Aec v):=by
 simp only[Ah3,Aec]
 by_cases h:v≥-32768
 ·rw[if_pos (by simpa using h),decide_eq_true h];rfl
 ·rw[if_neg (by simpa using h),decide_eq_false h];rfl
theorem C4m{R:Type}(N:Nat)(v:Int)(K:Bool→Option R):Acj N v K=K (Aec v):=by
 simp only[Acj,Aec]
 by_cases h:v≥-32768
 ·rw[if_pos (by simpa using h),decide_eq_true h];rfl
 ·rw[if_neg (by simpa using h),decide_eq_false h];rfl
theorem Bgt{R:Type}(N:Nat)(v:Int)(K:Bool→Option R):Ahp N v K=K (Aec v):=by
 simp only[Ahp,Aec]
 by_cases h:v≥-32768
 ·rw[if_pos (by simpa using h),decide_eq_true h];rfl
 ·rw[if_neg (by simpa using h),decide_eq_false h];rfl
theorem C9o{a:Int}(h:Aec a=true):a.natAbs≤32768:=by rw[Akj]at h;omega
theorem C9p{a b:Int}(ha:Aec a=true)(hb:Aec b=true):-1073741824≤a*b∧a*b≤1073741824:=by
 have h:(a*b).natAbs≤32768*32768:=by rw[Int.natAbs_mul];exact Nat.mul_le_mul (C9o ha) (C9o hb)
 omega
theorem C4n{a b:Int}(ha:Aec a=true):-32768≤Int.tdiv a b∧Int.tdiv a b≤32768:=by
 have h:(Int.tdiv a b).natAbs≤a.natAbs:=by rw[Int.natAbs_tdiv];exact Nat.div_le_self _ _
 have:=C9o ha
 omega
theorem C5q{R:Type}(N:Nat)(a:Int)(K:Int→Option R):Aky N a 16 K=K (Bk7 .i64 a 65535):=by
 simp only[Aky]
 rw[if_neg (by decide),show wi (Bgv .i64 1 16-1)=65535 from rfl]
theorem Bgf{R:Type}(N:Nat)(b:Bool)(K:Int→Option R):Aa4 N b K=K (if b=true then -1 else 0):=by cases b<;>rfl
theorem Dcg{R:Type}(N:Nat)(b:Bool)(K:Int→Option R):Aj0 N b K=K (if b=true then -1 else 0):=by cases b<;>rfl
theorem Cq5{R:Type}(N:Nat)(op a b:Int)(h:1≤op∧op≤19)(ha:Aec a=true)(hb:Aec b=true)(h0:op=2∨op=3→b≠0)(K:Int→Option R):wOp N op a b K=K (doV op a b):=by
 have ha':=Akj.1 ha
 have hb':=Akj.1 hb
 have hm:=C9p ha hb
 have hd:=C4n (b:=b) ha
 rcases Cmn h with rfl|rfl|rfl|rfl|rfl|rfl|rfl|rfl|rfl|rfl|rfl|rfl|rfl|rfl|rfl|rfl|rfl|rfl|rfl
 ·show Abj N a b 16 K=_
  simp only[Abj];rw[Aeh (by omega) (by omega)];rfl
 ·show Abk N a b 16 K=_
  simp only[Abk];rw[if_neg (h0 (.inl rfl)),Aeh (by omega) (by omega)];rfl
 ·show Abl N a b 16 K=_
  simp only[Abl];rw[if_neg (h0 (.inr rfl))];rfl
 ·show Abm N a b 16 K=_
  simp only[Abm];rw[Aeh (by omega) (by omega)];rfl
 ·show Abn N a b 16 K=_
  simp only[Abn];rw[Aeh (by omega) (by omega)];rfl
 ·show Abo N a b 16 K=K (if b<0 then 0 else if b≥16 then 0 else Bgv .i64 a b)
  simp only[Abo]
  by_cases h1:b<0
  ·rw[if_pos (by simpa using h1)];simp[h1]
  rw[if_neg (by simpa using h1)]
  by_cases h2:b≥16
  ·rw[if_pos (by simpa using h2)];simp[h1,h2]
  rw[if_neg (by simpa using h2)];simp[h1,h2]
 ·show Abp N a b 16 K=K (if b<0 then 0 else if b≥16 then 0 else Crf .i64 (Bk7 .i64 a 65535) b)
  simp only[Abp,A8w,C5q]
  by_cases h1:b<0
  ·rw[if_pos (by simpa using h1)];simp[h1]
  rw[if_neg (by simpa using h1)]
  by_cases h2:b≥16
  ·rw[if_pos (by simpa using h2)];simp[h1,h2]
  rw[if_neg (by simpa using h2)];simp[h1,h2]
 ·rfl
 ·rfl
 ·rfl
 ·rfl
 ·exact Bgf N _ K
 ·exact Bgf N _ K
 ·exact Bgf N _ K
 ·exact Bgf N _ K
 ·exact Bgf N _ K
 ·exact Bgf N _ K
 ·show Aa5 N a b 16 K=_
  simp only[Aa5];rw[Aeh (by omega) (by omega),Int.zero_sub];rfl
 ·show Aa6 N a b 16 K=_
  simp only[Aa6];rw[Dh5 ha];rfl
theorem Cej(b:Bool):n16 (if b=true then -1 else 0)=(if b=true then -1 else 0):=by cases b<;>rfl
theorem Dch{R:Type}(N:Nat)(op a b:Int)(h:1≤op∧op≤19)(ha:Aec a=true)(hb:Aec b=true)(h0:op=2∨op=3→b≠0)(K:Int→Int→Option R):Agv N op a b 16 K=K (n16 (doV op a b)) 0:=by
 have ha':=Akj.1 ha
 have hb':=Akj.1 hb
 have hq:Agv N op a b 16 K=Aun N op a b 16 K:=by
  simp only[Agv,A82,Anq]
  rw[if_pos (by decide),if_neg (by decide),if_neg (by simp only[decide_eq_true_eq];omega),if_neg (by simp only[decide_eq_true_eq];omega)]
 have h50:=Dl8 N op a b h K
 rw[Cq5 N op a b h ha hb h0,Bxm]at h50
 rw[hq]
 simp only[Aun,Byv,Bxm,Bdc ha,Bdc hb,Bgf,Ait]
 rcases Cmn h with rfl|rfl|rfl|rfl|rfl|rfl|rfl|rfl|rfl|rfl|rfl|rfl|rfl|rfl|rfl|rfl|rfl|rfl|rfl
 ·exact h50
 ·have:(b==0)=false:=by simpa using h0 (.inl rfl)
  rw[this];exact h50
 ·have:(b==0)=false:=by simpa using h0 (.inr rfl)
  rw[this];exact h50
 ·rw[show wi (a+b)=a+b from Aeh (by omega) (by omega)];rfl
 ·rw[show wi (a-b)=a-b from Aeh (by omega) (by omega)];rfl
 ·exact h50
 ·exact h50
 ·show K (Bk7 .i64 a b) 0=K (n16 (Bk7 .i64 a b)) 0
  rw[Bdc (Dcf ha hb)]
 ·exact h50
 ·exact h50
 ·exact h50
 ·exact congrArg (fun x=>K x 0) (Cej _).symm
 ·exact congrArg (fun x=>K x 0) (Cej _).symm
 ·exact congrArg (fun x=>K x 0) (Cej _).symm
 ·exact congrArg (fun x=>K x 0) (Cej _).symm
 ·exact congrArg (fun x=>K x 0) (Cej _).symm
 ·exact congrArg (fun x=>K x 0) (Cej _).symm
 ·exact h50
 ·exact h50
def exB(op a b:Int):Bool :=
 if op<1∨19<op then false else if (op=2∨op=3)∧b=0 then false
 else if op=6 then decide (0≤a)&&(decide (0≤b)&&(decide (b≤15)&&decide (a*2^b.toNat≤32767)))
 else if op=7 then decide (0≤a)&&(decide (0≤b)&&decide (b≤15))
 else Aec (doV op a b)
def erB(op b:Int):Int:=if op<1∨19<op then 1 else if (op=2∨op=3)∧b=0 then 10 else 0
theorem C6t{a b:Int}(ha:0≤a∧a≤32767)(hb:0≤b∧b≤15):Bgv .i64 a b=a*2^b.toNat∧a*2^b.toNat≤32767*32768∧0≤a*2^b.toNat:=by
 have e:(b=0∨b=1∨b=2∨b=3∨b=4∨b=5∨b=6∨b=7∨b=8∨b=9∨b=10∨b=11∨b=12∨b=13∨b=14∨b=15):=by omega
 have key:∀p:Int,0≤p→p≤32768→IntKind.i64.wrap (a*p)=a*p∧a*p≤32767*32768∧0≤a*p:=by
  intro p h1 h2
  have h3:a*p≤32767*32768:=Int.mul_le_mul ha.2 h2 h1 (by decide)
  have h4:0≤a*p:=Int.mul_nonneg ha.1 h1
  exact⟨Aeh (by omega) (by omega),h3,h4⟩
 unfold Bgv
 rcases e with rfl|rfl|rfl|rfl|rfl|rfl|rfl|rfl|rfl|rfl|rfl|rfl|rfl|rfl|rfl|rfl<;>exact key _ (by decide) (by decide)
theorem sm8{op a b:Int}(ha:Aec a=true)(hb:Aec b=true)(h:8≤op∧op≤11):Aec (doV op a b)=true:=by
 have e:op=8∨op=9∨op=10∨op=11:=by omega
 rcases e with rfl|rfl|rfl|rfl
 ·exact Dcf ha hb
 ·exact Dl7 ha hb
 ·exact C4k ha hb
 ·exact C4k (a := -1) rfl (C4k ha hb)
theorem Dm5{R:Type}(N:Nat)(op a b:Int)(ha:Aec a=true)(hb:Aec b=true)(h:op<1∨19<op)(K:Bool→Int→Option R):Ajp N op a b 16 K=K false 1:=by
 simp only[Ajp,A84,Agv,A82,Anq]
 rw[if_pos (by decide),if_neg (by decide)]
 by_cases h1:op<1
 ·rw[if_pos (by simpa using h1)];rfl
 ·rw[if_neg (by simpa using h1),if_pos (by simp only[decide_eq_true_eq];omega)];rfl
theorem Dh6{R:Type}(N:Nat)(op a:Int)(ha:Aec a=true)(h:op=2∨op=3)(K:Int→Int→Option R):Agv N op a 0 16 K=K 0 10:=by
 simp only[Agv,A82,Anq,Aun,Byv,Bxm,Bdc ha,Ait,show n16 0=0 from rfl]
 generalize Ajo (R:=R) N=G
 rcases h with rfl|rfl<;>rfl
theorem Dma{R:Type}(N:Nat)(op a:Int)(ha:Aec a=true)(h:op=2∨op=3)(K:Bool→Int→Option R):Ajp N op a 0 16 K=K false 10:=by
 unfold Ajp A84
 rw[Dh6 N op a ha h]
 exact if_pos rfl
theorem Dlh{R:Type}(N:Nat)(op a b:Int)(h:1≤op∧op≤19)(ha:Aec a=true)(hb:Aec b=true)(h0:op=2∨op=3→b≠0)(K:Bool→Int→Option R):Ajp N op a b 16 K =
  if (op==18)=true then Aej N op a b 16 (n16 (doV op a b)) op (op==18) K (fun c d e f g=>Afs N c d e f g K)
  else Aej N op a b 16 (n16 (doV op a b)) op (op==19) K (fun c d e f g=>Afs N c d e f g K):=by
 unfold Ajp A84
 rw[Dch N op a b h ha hb h0,if_neg (by decide),Bxm,Bxm,Cmo,Bdc ha,Bdc hb,ha,if_neg (by decide),Cmo,Bjz,if_neg (by decide)]
theorem Dm6{R:Type}(N:Nat)(op a b:Int)(h:op=18∨op=19)(ha:Aec a=true)(hb:Aec b=true)(K:Bool→Int→Option R):Ajp N op a b 16 K=K (Aec (doV op a b)) 0:=by
 rw[Dlh N op a b (by omega) ha hb (by omega)]
 rcases h with rfl|rfl
 ·have e:∀c,doV 18 a c = -a:=fun _=>rfl
  rw[if_pos (by decide),show ((18:Int)==18)=true from rfl,Dgu N 18 a b _ _ (by decide),Cq5 N 18 a 0 (by decide) ha rfl (by omega),e 0,e b,Cdq]
 ·have e:∀c,doV 19 a c = -a-1:=fun _=>rfl
  rw[if_neg (by decide),show ((19:Int)==19)=true from rfl,Dgu N 19 a b _ _ (by decide),Cq5 N 19 a 0 (by decide) ha rfl (by omega),e 0,e b,Cdq]
theorem Dm7{R:Type}(N:Nat)(a b w:Int)(K:Bool→Int→Option R)(c:Int→Int→Int→Int→Int→Option R):Aej N 6 a b 16 w 6 false K c =
  if decide (a≥0)=true then (if decide (b≥0)=true then (if decide (b≤15)=true then (if b<0 then none else K (Bgv .i64 a b==w) 0) else K false 0) else K false 0) else K false 0:=rfl
theorem Dm8{R:Type}(N:Nat)(a b w:Int)(K:Bool→Int→Option R)(c:Int→Int→Int→Int→Int→Option R):Aej N 7 a b 16 w 7 false K c =
  if decide (a≥0)=true then (if decide (b≥0)=true then K (decide (b≤15)) 0 else K false 0) else K false 0:=rfl
theorem Dm9{R:Type}(N:Nat)(op a b w:Int)(h6:op≠6)(h7:op≠7)(K:Bool→Int→Option R)(c:Int→Int→Int→Int→Int→Option R):Aej N op a b 16 w op false K c=c op a b 16 w:=by
 unfold Aej Bh7
 rw[if_neg (by decide),if_neg (by simpa using h6),if_neg (by simpa using h7)]
theorem Dci{R:Type}(N:Nat)(op a b:Int)(ha:Aec a=true)(hb:Aec b=true)(K:Bool→Int→Option R):Ajp N op a b 16 K=K (exB op a b) (erB op b):=by
 by_cases ho:op<1∨19<op
 ·rw[Dm5 N op a b ha hb ho,exB,erB,if_pos ho,if_pos ho]
 by_cases hz:(op=2∨op=3)∧b=0
 ·obtain⟨h1,rfl⟩:=hz
  rw[Dma N op a ha h1,exB,erB,if_neg ho,if_pos ⟨h1,rfl⟩,if_neg ho,if_pos ⟨h1,rfl⟩]
 have h:1≤op∧op≤19:=by omega
 have h0:op=2∨op=3→b≠0:=fun h1 h2=>hz ⟨h1,h2⟩
 rw[exB,erB,if_neg ho,if_neg hz,if_neg ho,if_neg hz]
 by_cases h18:op=18∨op=19
 ·rw[Dm6 N op a b h18 ha hb,if_neg (by omega),if_neg (by omega)]
 rw[Dlh N op a b h ha hb h0,if_neg (by simp;omega),show (op==19)=false by simp;omega]
 have ha':=Akj.1 ha
 by_cases h6:op=6
 ·subst h6
  rw[Dm7,if_pos rfl]
  by_cases g1:a≥0
  ·rw[if_pos (by simpa using g1),decide_eq_true (show 0≤a from g1)]
   by_cases g2:b≥0
   ·rw[if_pos (by simpa using g2),decide_eq_true (show 0≤b from g2)]
    by_cases g3:b≤15
    ·rw[if_pos (by simpa using g3),decide_eq_true g3,if_neg (by omega)]
     obtain⟨e1,e2,e3⟩:=C6t (a:=a) (b:=b) (by omega) (by omega)
     have e4:doV 6 a b=Bgv .i64 a b:=by
      show (if b<0 then 0 else if b≥16 then 0 else Bgv .i64 a b)=_
      rw[if_neg (by omega),if_neg (by omega)]
     rw[e4,Cdq,e1]
     congr 1
     unfold Aec
     rw[decide_eq_true (by omega)];rfl
    ·rw[if_neg (by simpa using g3),decide_eq_false g3];rfl
   ·rw[if_neg (by simpa using g2),decide_eq_false (show ¬0≤b from g2)];rfl
  ·rw[if_neg (by simpa using g1),decide_eq_false (show ¬0≤a from g1)];rfl
 rw[if_neg h6]
 by_cases h7:op=7
 ·subst h7
  rw[Dm8,if_pos rfl]
  by_cases g1:a≥0
  ·rw[if_pos (by simpa using g1),decide_eq_true (show 0≤a from g1)]
   by_cases g2:b≥0
   ·rw[if_pos (by simpa using g2),decide_eq_true (show 0≤b from g2)];rfl
   ·rw[if_neg (by simpa using g2),decide_eq_false (show ¬0≤b from g2)];rfl
  ·rw[if_neg (by simpa using g1),decide_eq_false (show ¬0≤a from g1)];rfl
 rw[if_neg h7,Dm9 N op a b _ h6 h7,Dl9 N op a b _ h,Cmo,hb,if_pos rfl,Cq5 N op a b h ha hb h0,Cdq]
theorem Dcj{R:Type}(N:Nat)(op a b:Int)(K:Bool→Option R):Anr N op a b K=K (Aec a&&(Aec b&&exB op a b)):=by
 simp only[Anr,Bvj,C4l]
 cases ha:Aec a
 ·rfl
 cases hb:Aec b
 ·rfl
 rw[if_neg (by decide),if_neg (by decide),Dci N op a b ha hb]
 unfold exB erB
 by_cases ho:op<1∨19<op
 ·rw[if_pos ho,if_pos ho];rfl
 rw[if_neg ho,if_neg ho]
 by_cases hz:(op=2∨op=3)∧b=0
 ·rw[if_pos hz,if_pos hz];rfl
 rw[if_neg hz,if_neg hz];rfl
theorem Dli(x:Int):-9223372036854775808≤wi x∧wi x≤9223372036854775807:=by
 show -9223372036854775808≤IntKind.i64.wrap x∧IntKind.i64.wrap x≤9223372036854775807
 rw[IntKind.wrap_i64];omega
theorem Dfv{R:Type}(N:Nat)(hN:40<N)(left:Bool)(b:Nat)(hb:b≤32):∀(m i:Nat),i+m=b→∀v:Int,0≤v∧v<65536→∃w:Int,(0≤w∧w<65536)∧∀(k:Nat) (K:Int→Int→Option R),m<k→Aes N k v (b:Int) 16 left (i:Int) K=K w 16:=by
 intro m
 induction m with
 |zero=>
  intro i hi v hv
  refine⟨v,hv,fun k K hk=>?_⟩
  obtain⟨k,rfl⟩:∃q,k=q+1:=⟨k-1,by omega⟩
  simp only[Aes,At5]
  rw[if_neg (by simp only[decide_eq_true_eq];omega)]
 |succ m ih=>
  intro i hi v hv
  have hp:=fun K=>B0d (R:=R) N hN 16 (by decide) K
  rw[show ((16:Nat):Int)=16 from rfl,show ((2^16:Nat):Int)=65536 from rfl]at hp
  cases left
  ·obtain⟨w,hw,h⟩:=ih (i+1) (by omega) (v/2) (by omega)
   refine⟨w,hw,fun k K hk=>?_⟩
   obtain⟨k,rfl⟩:∃q,k=q+1:=⟨k-1,by omega⟩
   simp only[Aes,At5]
   rw[if_pos (by simp only[decide_eq_true_eq];omega),if_neg (by decide),Int.tdiv_eq_ediv_of_nonneg hv.1,Aeh (by omega) (by omega),Aco (by omega)]
   exact h k K (by omega)
  ·obtain⟨w,hw,h⟩:=ih (i+1) (by omega) (v*2%65536) (by omega)
   refine⟨w,hw,fun k K hk=>?_⟩
   obtain⟨k,rfl⟩:∃q,k=q+1:=⟨k-1,by omega⟩
   simp only[Aes,At5]
   rw[if_pos (by simp only[decide_eq_true_eq];omega),if_pos trivial,hp,if_neg (by decide),Aeh (i:=v*2) (by omega) (by omega),Int.tmod_eq_emod_of_nonneg (by omega),Aco (by omega)]
   exact h k K (by omega)
theorem Cus{R:Type}(N:Nat)(hN:40<N){a:Int}(ha:Aec a=true)(K:Int→Option R):Adg N a 16 K=K (if a<0 then a+65536 else a):=by
 have ha':=Akj.1 ha
 simp only[Adg,Bfx]
 have hp:=fun K=>B0d (R:=R) N hN 16 (by decide) K
 rw[show ((16:Nat):Int)=16 from rfl,show ((2^16:Nat):Int)=65536 from rfl]at hp
 rw[A0i N hN a (by omega),Bdc ha]
 by_cases h:a<0
 ·rw[if_pos (by simpa using h),hp,if_pos h,Aeh (by omega) (by omega)]
 ·rw[if_neg (by simpa using h),if_neg h]
theorem Dck{R:Type}(N:Nat)(hN:40<N){a b:Int}(ha:Aec a=true)(hb:Aec b=true)(left:Bool):∃w:Int,Aec w=true∧∀K:Int→Option R,Ae6 N a b 16 left K=K w:=by
 by_cases h1:b<0
 ·refine⟨0,rfl,fun K=>?_⟩
  simp only[Ae6,Azv];rw[if_pos (by simpa using h1)]
 by_cases h2:b≥16
 ·refine⟨0,rfl,fun K=>?_⟩
  simp only[Ae6,Azv];rw[if_neg (by simpa using h1),if_pos (by simpa using h2)]
 obtain⟨n,rfl⟩:=Int.eq_ofNat_of_zero_le (show 0≤b by omega)
 have ha':=Akj.1 ha
 obtain⟨w,hw,h⟩:=Dfv (R:=R) N hN left n (by omega) n 0 (by omega) (if a<0 then a+65536 else a) (by split<;>omega)
 refine⟨n16 w,Bjz w,fun K=>?_⟩
 simp only[Ae6,Azv]
 rw[if_neg (by simp),if_neg (by simpa using h2),Cus N hN ha]
 refine (h N _ (by omega)).trans ?_
 rw[A0i N hN w (by omega)]
theorem Dfw{R:Type}(N:Nat)(t0 t1 t2 t3:Int):∀(m i:Nat),i+m=16→∀x y p o:Int,0≤x∧x<65536→0≤y∧y<65536→-9223372036854775808≤o∧o≤9223372036854775807→
  ∃w:Int,(-9223372036854775808≤w∧w≤9223372036854775807)∧∀(k:Nat) (K:Int→Int→Option R),m<k→Afh N k x y 16 o p (i:Int) [t0,t1,t2,t3] K=K 16 w:=by
 intro m
 induction m with
 |zero=>
  intro i hi x y p o hx hy ho
  refine⟨o,ho,fun k K hk=>?_⟩
  obtain⟨k,rfl⟩:∃q,k=q+1:=⟨k-1,by omega⟩
  simp only[Afh,A1h]
  rw[if_neg (by simp only[decide_eq_true_eq];omega)]
 |succ m ih=>
  intro i hi x y p o hx hy ho
  obtain⟨w,hw,h⟩:=ih (i+1) (by omega) (x/2) (y/2) (wi (p*2)) (wi (o+wi (p*List.getD [t0,t1,t2,t3] (Int.toNat (2*(x%2)+y%2)) 0))) (by omega) (by omega) (Dli _)
  refine⟨w,hw,fun k K hk=>?_⟩
  obtain⟨k,rfl⟩:∃q,k=q+1:=⟨k-1,by omega⟩
  simp only[Afh,A1h]
  rw[if_pos (by simp only[decide_eq_true_eq];omega),Int.tmod_eq_emod_of_nonneg hx.1,Int.tmod_eq_emod_of_nonneg hy.1,Int.tdiv_eq_ediv_of_nonneg hx.1,Int.tdiv_eq_ediv_of_nonneg hy.1]
  rw[Aeh (i:=2*(x%2)) (by omega) (by omega),Aeh (i:=2*(x%2)+y%2) (by omega) (by omega),if_pos (by omega),if_pos (by simp only[len,List.length_cons,List.length_nil];omega)]
  rw[Aeh (i:=x/2) (by omega) (by omega),Aeh (i:=y/2) (by omega) (by omega),Aco (by omega)]
  exact h k K (by omega)
theorem Cq6{R:Type}(N:Nat)(hN:40<N){a b:Int}(ha:Aec a=true)(hb:Aec b=true)(t0 t1 t2 t3:Int):∃w:Int,Aec w=true∧∀K:Int→Option R,Adp N a b 16 t0 t1 t2 t3 K=K w:=by
 have ha':=Akj.1 ha
 have hb':=Akj.1 hb
 obtain⟨w,hw,h⟩:=Dfw (R:=R) N t0 t1 t2 t3 16 0 (by omega) (if a<0 then a+65536 else a) (if b<0 then b+65536 else b) 1 0 (by split<;>omega) (by split<;>omega) (by omega)
 refine⟨n16 w,Bjz w,fun K=>?_⟩
 simp only[Adp,Bi3]
 rw[Cus N hN ha,Cus N hN hb]
 refine (h N _ (by omega)).trans ?_
 rw[A0i N hN w hw]
def whl(op:Int):Bool:=decide (op≤5)||decide (12≤op)
theorem Cdr{R:Type}(N:Nat)(op a b:Int)(h:1≤op∧op≤19)(ha:Aec a=true)(hb:Aec b=true)(h0:op=2∨op=3→b≠0)(K:Int→Bool→Option R) :
  Ae8 N op a b K=if whl op=true then K (doV op a b) true else K 0 false:=by
 have ha':=Akj.1 ha
 have hb':=Akj.1 hb
 have hm:=C9p ha hb
 have hd:=C4n (b:=b) ha
 simp only[Ae8,Bqx,Dcg]
 rcases Cmn h with rfl|rfl|rfl|rfl|rfl|rfl|rfl|rfl|rfl|rfl|rfl|rfl|rfl|rfl|rfl|rfl|rfl|rfl|rfl
 ·rw[show wi (a*b)=a*b from Aeh (by omega) (by omega)];rfl
 ·rw[if_neg (by decide),if_pos (by decide),if_neg (h0 (.inl rfl)),show wi (Int.tdiv a b)=Int.tdiv a b from Aeh (by omega) (by omega)];rfl
 ·rw[if_neg (by decide),if_neg (by decide),if_pos (by decide),if_neg (h0 (.inr rfl))];rfl
 ·rw[show wi (a+b)=a+b from Aeh (by omega) (by omega)];rfl
 ·rw[show wi (a-b)=a-b from Aeh (by omega) (by omega)];rfl
 ·rfl
 ·rfl
 ·rfl
 ·rfl
 ·rfl
 ·rfl
 ·rfl
 ·rfl
 ·rfl
 ·rfl
 ·rfl
 ·rfl
 ·rw[show wi (0-a) = -a from by rw[Aeh (by omega) (by omega)];omega];rfl
 ·rw[show wi (0-a) = -a from by rw[Aeh (by omega) (by omega)];omega,show wi (-a-1) = -a-1 from Aeh (by omega) (by omega)];rfl
theorem Dcl{R:Type}(N:Nat)(hN:40<N)(op a b:Int)(h:1≤op∧op≤19)(ha:-9223372036854775808≤a∧a≤9223372036854775807)(hb:-9223372036854775808≤b∧b≤9223372036854775807)(h0:op=2∨op=3→n16 b≠0) :
  ∃w:Int,Aec w=true∧(whl op=true→w=n16 (doV op (n16 a) (n16 b)))∧∀K:Int→Int→Option R,Ah5 N op a b 16 K=K w 0:=by
 have sa:=Bjz a
 have sb:=Bjz b
 have ra:=Akj.1 sa
 have rb:=Akj.1 sb
 have hm:=C9p sa sb
 have hd:=C4n (b:=n16 b) sa
 have hq:∀K:Int→Int→Option R,Ah5 N op a b 16 K=Ae8 N op (n16 a) (n16 b) (fun d f=>if (f=true) then (Abx N d 16 (fun g=>K g 0)) else (if ((op==(6:Int))=true) then (Ae6 N (n16 a) (n16 b) 16 true (fun i=>K i 0)) else (if ((op==(7:Int))=true) then (Ae6 N (n16 a) (n16 b) 16 false (fun j=>K j 0)) else (if ((op==(8:Int))=true) then (Adp N (n16 a) (n16 b) 16 0 0 0 1 (fun l=>K l 0)) else (if ((op==(9:Int))=true) then (Adp N (n16 a) (n16 b) 16 0 1 1 1 (fun m=>K m 0)) else (if ((op==(10:Int))=true) then (Adp N (n16 a) (n16 b) 16 0 1 1 0 (fun n=>K n 0)) else (Adp N (n16 a) (n16 b) 16 1 0 0 1 (fun o=>K o 0)))))))):=by
  intro K
  simp only[Ah5,A4p,Anu,A0i N hN a ha,A0i N hN b hb]
  rw[if_pos (by decide),if_neg (by decide),if_neg (by simp only[decide_eq_true_eq];omega),if_neg (by simp only[decide_eq_true_eq];omega)]
  by_cases h2:op=2
  ·have:(n16 b==0)=false:=by simpa using h0 (.inl h2)
   rw[if_pos (by simpa using h2),this];rfl
  ·rw[if_neg (by simpa using h2)]
   by_cases h3:op=3
   ·have:(n16 b==0)=false:=by simpa using h0 (.inr h3)
    rw[if_pos (by simpa using h3),this];rfl
   ·rw[if_neg (by simpa using h3)]
 have hv:whl op=true→-9223372036854775808≤doV op (n16 a) (n16 b)∧doV op (n16 a) (n16 b)≤9223372036854775807:=by
  intro hw
  have ht:∀c:Bool,-9223372036854775808≤(if c=true then (-1:Int) else 0)∧(if c=true then (-1:Int) else 0)≤9223372036854775807:=by intro c;cases c<;>decide
  rcases Cmn h with rfl|rfl|rfl|rfl|rfl|rfl|rfl|rfl|rfl|rfl|rfl|rfl|rfl|rfl|rfl|rfl|rfl|rfl|rfl
  ·show _≤n16 a*n16 b∧n16 a*n16 b≤_;omega
  ·show _≤Int.tdiv (n16 a) (n16 b)∧Int.tdiv (n16 a) (n16 b)≤_;omega
  ·show _≤Int.tmod (n16 a) (n16 b)∧Int.tmod (n16 a) (n16 b)≤_
   have:=Int.natAbs_tmod (n16 a) (n16 b)
   have h5:(Int.natAbs (n16 a))%(Int.natAbs (n16 b))≤Int.natAbs (n16 a):=Nat.mod_le _ _
   omega
  ·show _≤n16 a+n16 b∧n16 a+n16 b≤_;omega
  ·show _≤n16 a-n16 b∧n16 a-n16 b≤_;omega
  ·cases hw
  ·cases hw
  ·cases hw
  ·cases hw
  ·cases hw
  ·cases hw
  ·exact ht _
  ·exact ht _
  ·exact ht _
  ·exact ht _
  ·exact ht _
  ·exact ht _
  ·show _≤-n16 a∧-n16 a≤_;omega
  ·show _≤-n16 a-1∧-n16 a-1≤_;omega
 by_cases hw:whl op=true
 ·refine⟨n16 (doV op (n16 a) (n16 b)),Bjz _,fun _=>rfl,fun K=>?_⟩
  rw[hq,Cdr N op _ _ h sa sb h0,if_pos hw,if_pos rfl,A0i N hN _ (hv hw)]
 ·have hw':∀K:Int→Int→Option R,Ah5 N op a b 16 K=_:=fun K=>(hq K).trans (by rw[Cdr N op _ _ h sa sb h0,if_neg hw,if_neg (by decide)])
  by_cases h6:op=6
  ·obtain⟨w,s,e⟩:=Dck (R:=R) N hN sa sb true
   exact⟨w,s,fun x=>absurd x hw,fun K=>by rw[hw',if_pos (by simpa using h6),e]⟩
  by_cases h7:op=7
  ·obtain⟨w,s,e⟩:=Dck (R:=R) N hN sa sb false
   exact⟨w,s,fun x=>absurd x hw,fun K=>by rw[hw',if_neg (by simpa using h6),if_pos (by simpa using h7),e]⟩
  by_cases h8:op=8
  ·obtain⟨w,s,e⟩:=Cq6 (R:=R) N hN sa sb 0 0 0 1
   exact⟨w,s,fun x=>absurd x hw,fun K=>by rw[hw',if_neg (by simpa using h6),if_neg (by simpa using h7),if_pos (by simpa using h8),e]⟩
  by_cases h9:op=9
  ·obtain⟨w,s,e⟩:=Cq6 (R:=R) N hN sa sb 0 1 1 1
   exact⟨w,s,fun x=>absurd x hw,fun K=>by rw[hw',if_neg (by simpa using h6),if_neg (by simpa using h7),if_neg (by simpa using h8),if_pos (by simpa using h9),e]⟩
  by_cases h10:op=10
  ·obtain⟨w,s,e⟩:=Cq6 (R:=R) N hN sa sb 0 1 1 0
   exact⟨w,s,fun x=>absurd x hw,fun K=>by rw[hw',if_neg (by simpa using h6),if_neg (by simpa using h7),if_neg (by simpa using h8),if_neg (by simpa using h9),if_pos (by simpa using h10),e]⟩
  ·obtain⟨w,s,e⟩:=Cq6 (R:=R) N hN sa sb 1 0 0 1
   exact⟨w,s,fun x=>absurd x hw,fun K=>by rw[hw',if_neg (by simpa using h6),if_neg (by simpa using h7),if_neg (by simpa using h8),if_neg (by simpa using h9),if_neg (by simpa using h10),e]⟩
noncomputable def exK{R:Type}(N:Nat)(op a b w:Int)(K:Bool→Int→Option R):Option R :=
 Ae8 N op a b (fun c d=>if (d=true) then (K ((c==w)) 0) else (if ((op==(6:Int))=true) then (if ((decide ((a<(0:Int))))=true) then (K false 0) else (if ((decide ((b<(0:Int))))=true) then (K false 0) else (if ((decide ((b > (15:Int))))=true) then (K false 0) else (if ((op==(6:Int))=true) then (Ab0 N b (fun e=>K ((decide (((wi (a*e))≤(32767:Int))))) 0)) else (K true 0))))) else (if ((op==(7:Int))=true) then (if ((decide ((a<(0:Int))))=true) then (K false 0) else (if ((decide ((b<(0:Int))))=true) then (K false 0) else (if ((decide ((b > (15:Int))))=true) then (K false 0) else (if ((op==(6:Int))=true) then (Ab0 N b (fun f=>K ((decide (((wi (a*f))≤(32767:Int))))) 0)) else (K true 0))))) else (K true 0))))
theorem Dlj{R:Type}(N:Nat)(hN:40<N)(op a b w:Int)(h:1≤op∧op≤19)(ha:Aec a=true)(hb:Aec b=true)(h0:op=2∨op=3→b≠0)(hw:whl op=true→w=n16 (doV op a b))(K:Bool→Int→Option R):exK N op a b w K=K (exB op a b) 0:=by
 have ho:¬(op<1∨19<op):=by omega
 have hz:¬((op=2∨op=3)∧b=0):=fun hh=>h0 hh.1 hh.2
 have ha':=Akj.1 ha
 have hb':=Akj.1 hb
 unfold exK
 rw[Cdr N op a b h ha hb h0,exB,if_neg ho,if_neg hz]
 by_cases hwh:whl op=true
 ·have:op≠6∧op≠7:=by unfold whl at hwh;simp at hwh;omega
  rw[if_pos hwh,if_pos rfl,if_neg this.1,if_neg this.2,hw hwh,Cdq]
 rw[if_neg hwh,if_neg (by decide)]
 by_cases h6:op=6
 ·subst h6
  rw[if_pos (by decide),if_pos rfl]
  by_cases g1:a<0
  ·rw[if_pos (by simpa using g1),decide_eq_false (p:=0≤a) (by omega)];rfl
  rw[if_neg (by simpa using g1),decide_eq_true (p:=0≤a) (by omega)]
  by_cases g2:b<0
  ·rw[if_pos (by simpa using g2),decide_eq_false (p:=0≤b) (by omega)];rfl
  rw[if_neg (by simpa using g2),decide_eq_true (p:=0≤b) (by omega)]
  by_cases g3:b > 15
  ·rw[if_pos (by simpa using g3),decide_eq_false (p:=b≤15) (by omega)];rfl
  rw[if_neg (by simpa using g3),decide_eq_true (p:=b≤15) (by omega),if_pos (by decide)]
  obtain⟨n,rfl⟩:=Int.eq_ofNat_of_zero_le (show 0≤b by omega)
  obtain⟨e1,e2,e3⟩:=C6t (a:=a) (b:=n) (by omega) (by omega)
  rw[B0d N hN n (by omega)]
  rw[show (((2^n:Nat):Int))=2^(Int.toNat (n:Int)) by rw[Int.toNat_natCast];exact Int.natCast_pow 2 n]
  rw[Aeh (by omega) (by omega)];rfl
 rw[if_neg (by simpa using h6),if_neg h6]
 by_cases h7:op=7
 ·subst h7
  rw[if_pos (by decide),if_pos rfl]
  by_cases g1:a<0
  ·rw[if_pos (by simpa using g1),decide_eq_false (p:=0≤a) (by omega)];rfl
  rw[if_neg (by simpa using g1),decide_eq_true (p:=0≤a) (by omega)]
  by_cases g2:b<0
  ·rw[if_pos (by simpa using g2),decide_eq_false (p:=0≤b) (by omega)];rfl
  rw[if_neg (by simpa using g2),decide_eq_true (p:=0≤b) (by omega)]
  by_cases g3:b > 15
  ·rw[if_pos (by simpa using g3),decide_eq_false (p:=b≤15) (by omega)];rfl
  rw[if_neg (by simpa using g3),decide_eq_true (p:=b≤15) (by omega),if_neg (by decide)];rfl
 rw[if_neg (by simpa using h7),if_neg h7]
 have:8≤op∧op≤11:=by unfold whl at hwh;simp at hwh;omega
 rw[sm8 ha hb this]
theorem Dna{R:Type}(N:Nat)(hN:40<N)(op a b:Int)(ha:-9223372036854775808≤a∧a≤9223372036854775807)(hb:-9223372036854775808≤b∧b≤9223372036854775807)(h:op<1∨19<op)(K:Bool→Int→Option R):Aj1 N op a b 16 K=K false 1:=by
 have hA:∀K:Int→Int→Option R,Ah5 N op a b 16 K=K 0 1:=by
  intro K
  simp only[Ah5,A4p,Anu]
  rw[if_pos (by decide),if_neg (by decide)]
  by_cases h1:op<1
  ·rw[if_pos (by simpa using h1)]
  ·rw[if_neg (by simpa using h1),if_pos (by simp only[decide_eq_true_eq];omega)]
 unfold Aj1 A4r
 rw[hA]
 exact if_pos rfl
theorem Dmb{R:Type}(N:Nat)(hN:40<N)(op a b:Int)(ha:-9223372036854775808≤a∧a≤9223372036854775807)(hb:-9223372036854775808≤b∧b≤9223372036854775807)(h:op=2∨op=3)(h0:n16 b=0)(K:Bool→Int→Option R):Aj1 N op a b 16 K=K false 10:=by
 have hA:∀K:Int→Int→Option R,Ah5 N op a b 16 K=K 0 10:=by
  intro K
  simp only[Ah5,A4p,Anu,A0i N hN a ha,A0i N hN b hb]
  rw[if_pos (by decide),if_neg (by decide),if_neg (by simp only[decide_eq_true_eq];omega),if_neg (by simp only[decide_eq_true_eq];omega),h0]
  rcases h with rfl|rfl
  ·rw[if_pos (by decide),if_pos (by decide)]
  ·rw[if_neg (by decide),if_pos (by decide),if_pos (by decide)]
 unfold Aj1 A4r
 rw[hA]
 exact if_pos rfl
theorem Dcm{R:Type}(N:Nat)(hN:40<N)(op a b:Int)(ha:-9223372036854775808≤a∧a≤9223372036854775807)(hb:-9223372036854775808≤b∧b≤9223372036854775807)(K:Bool→Int→Option R) :
  Aj1 N op a b 16 K=K (exB op (n16 a) (n16 b)) (erB op (n16 b)):=by
 by_cases ho:op<1∨19<op
 ·rw[Dna N hN op a b ha hb ho,exB,erB,if_pos ho,if_pos ho]
 by_cases hz:(op=2∨op=3)∧n16 b=0
 ·rw[Dmb N hN op a b ha hb hz.1 hz.2,exB,erB,if_neg ho,if_pos hz,if_neg ho,if_pos hz]
 have h:1≤op∧op≤19:=by omega
 have h0:op=2∨op=3→n16 b≠0:=fun h1 h2=>hz ⟨h1,h2⟩
 have sa:=Bjz a
 have sb:=Bjz b
 obtain⟨w,sw,hw,hA⟩:=Dcl (R:=R) N hN op a b h ha hb h0
 have hx:=Dlj N hN op (n16 a) (n16 b) w h sa sb h0 hw K
 rw[show erB op (n16 b)=0 by rw[erB,if_neg ho,if_neg hz],←hx]
 unfold Aj1 A4r
 rw[hA,if_neg (by decide),A0i N hN a ha,A0i N hN b hb]
 by_cases h18:op=18
 ·rw[if_pos (by simpa using h18),Bgt,sa,if_neg (by decide),Bgt,sw,if_neg (by decide)];rfl
 rw[if_neg (by simpa using h18),Bgt,sa,if_neg (by decide)]
 by_cases h19:op=19
 ·rw[if_neg (by simpa using h19),Bgt,sw,if_neg (by decide)];rfl
 ·rw[if_pos (by simpa using h19),Bgt,sb,if_neg (by decide),Bgt,sw,if_neg (by decide)];rfl
theorem Cvw{R:Type}(N:Nat)(hN:40<N)(op a b:Int)(ha:-9223372036854775808≤a∧a≤9223372036854775807)(hb:-9223372036854775808≤b∧b≤9223372036854775807)(K:Bool→Option R) :
  Al3 N op a b K=K (Aec a&&(Aec b&&exB op a b)):=by
 simp only[Al3,Bq5,C4m,Dcm N hN op a b ha hb]
 cases h1:Aec a
 ·rfl
 cases h2:Aec b
 ·rfl
 rw[if_pos rfl,if_pos rfl,Bdc h1,Bdc h2]
 unfold exB erB
 by_cases ho:op<1∨19<op
 ·rw[if_pos ho,if_pos ho];rfl
 rw[if_neg ho,if_neg ho]
 by_cases hz:(op=2∨op=3)∧b=0
 ·rw[if_pos hz,if_pos hz];rfl
 rw[if_neg hz,if_neg hz];rfl
def Cmp(op a:Int):Bool:=if op=4∨op=5∨op=9∨op=10∨op=6∨op=7 then a==0 else if op=1∨op=2 then a==1 else if op=8 then a == -1 else false
theorem C5r{R:Type}(N:Nat)(op a:Int)(K:Bool→Option R):Alw N op a K=K (Cmp op a):=by
 simp only[Alw,Blx,Ad6,Bb9,Ae3,Cmp]
 by_cases h4:op=4
 ·subst h4;rfl
 by_cases h5:op=5
 ·subst h5;rfl
 by_cases h9:op=9
 ·subst h9;rfl
 by_cases h10:op=10
 ·subst h10;rfl
 by_cases h6:op=6
 ·subst h6;rfl
 by_cases h7:op=7
 ·subst h7;rfl
 by_cases h1:op=1
 ·subst h1;rfl
 by_cases h2:op=2
 ·subst h2;rfl
 by_cases h8:op=8
 ·subst h8;rfl
 simp[h1,h2,h4,h5,h6,h7,h8,h9,h10]
theorem Dnb{R:Type}(N:Nat)(hN:10<N)(op:Int)(K:Int→Option R):∃v:Int,((v≥0) ↔ (op=4∨op=5∨op=9∨op=10∨op=6∨op=7))∧Aly N [4,5,9,10,6,7] op K=K v:=by
 obtain⟨n,rfl⟩:∃n,N=n+7:=⟨N-7,by omega⟩
 by_cases h4:op=4
 ·subst h4;exact⟨0,by simp,rfl⟩
 by_cases h5:op=5
 ·subst h5;exact⟨1,by simp,rfl⟩
 by_cases h9:op=9
 ·subst h9;exact⟨2,by simp,rfl⟩
 by_cases h10:op=10
 ·subst h10;exact⟨3,by simp,rfl⟩
 by_cases h6:op=6
 ·subst h6;exact⟨4,by simp,rfl⟩
 by_cases h7:op=7
 ·subst h7;exact⟨5,by simp,rfl⟩
 refine⟨-1,by omega,?_⟩
 have g4:((4:Int)==op)=false:=by simpa using fun e=>h4 e.symm
 have g5:((5:Int)==op)=false:=by simpa using fun e=>h5 e.symm
 have g9:((9:Int)==op)=false:=by simpa using fun e=>h9 e.symm
 have g10:((10:Int)==op)=false:=by simpa using fun e=>h10 e.symm
 have g6:((6:Int)==op)=false:=by simpa using fun e=>h6 e.symm
 have g7:((7:Int)==op)=false:=by simpa using fun e=>h7 e.symm
 simp only[Aly,Bmd,Ag7,Bf0]
 show (if ((4:Int)==op)=true then _ else _)=_
 rw[g4]
 show (if ((5:Int)==op)=true then _ else _)=_
 rw[g5]
 show (if ((9:Int)==op)=true then _ else _)=_
 rw[g9]
 show (if ((10:Int)==op)=true then _ else _)=_
 rw[g10]
 show (if ((6:Int)==op)=true then _ else _)=_
 rw[g6]
 show (if ((7:Int)==op)=true then _ else _)=_
 rw[g7]
 rfl
theorem Dfx{R:Type}(N:Nat)(hN:10<N)(a op:Int)(K:Bool→Option R):App N a op K=K (Cmp op a):=by
 simp only[App,Bw1]
 by_cases h0:a=0
 ·subst h0
  obtain⟨v,hv,e⟩:=Dnb N hN op (fun b=>K (decide (b≥0)))
  rw[if_pos (by decide),e]
  congr 1
  unfold Cmp
  by_cases h:op=4∨op=5∨op=9∨op=10∨op=6∨op=7
  ·rw[if_pos h,decide_eq_true (hv.2 h)];rfl
  ·rw[if_neg h,decide_eq_false (fun x=>h (hv.1 x))]
   split
   ·rfl
   ·split<;>rfl
 rw[if_neg (by simpa using h0)]
 have e0:(a==0)=false:=by simpa using h0
 by_cases h1:a=1
 ·subst h1
  rw[if_pos (by decide)]
  unfold Cmp
  by_cases g1:op=1
  ·subst g1;rfl
  rw[if_neg (by simpa using g1)]
  by_cases g2:op=2
  ·subst g2;rfl
  rw[show (op==2)=false by simpa using g2]
  split
  ·rfl
  ·split
   ·omega
   ·split<;>rfl
 rw[if_neg (by simpa using h1)]
 have e1:(a==1)=false:=by simpa using h1
 unfold Cmp
 rw[e0,e1]
 by_cases h2:a = -1
 ·subst h2
  rw[if_pos (by decide)]
  by_cases g8:op=8
  ·subst g8;rfl
  ·rw[show (op==8)=false by simpa using g8,if_neg g8]
   split
   ·rfl
   ·split<;>rfl
 rw[if_neg (by simpa using h2),show (a == -1)=false by simpa using h2]
 split
 ·rfl
 ·split
  ·rfl
  ·split<;>rfl
abbrev Ad5:=List (Int×Int)
abbrev Adz:=List (Int×Bool)
theorem A0j{l:OpL}{i:Nat}(h:l.length≤i):Aak l i=(0,0,0):=by
 unfold Aak;rw[List.getD_eq_getElem?_getD,List.getElem?_eq_none h];rfl
theorem Az7{R:Type}(N:Nat)(i:Nat)(l:OpL)(d:List Int)(at_:Ad5)(nm:Adz)(K:Int→OpL→List Int→Ad5→Adz→Option R):Aap N (i:Int) l d at_ nm K=K (Aak l i).1 l d at_ nm:=by
 simp only[Aap,len]
 by_cases h:i<l.length
 ·rw[if_pos (by simp only[decide_eq_true_eq];omega),if_pos (by omega)];rfl
 ·rw[if_neg (by simp only[decide_eq_true_eq];omega),A0j (by omega)]
theorem At8{R:Type}(N:Nat)(i:Nat)(l:OpL)(op:Int)(h0:op≠0)(K:Bool→Option R):Aax N l (i:Int) op K=K ((Aak l i).1==op):=by
 simp only[Aax,len]
 rw[if_pos (by simp only[decide_eq_true_eq];omega)]
 by_cases h:i<l.length
 ·rw[if_pos (by simp only[decide_eq_true_eq];omega),if_pos (by omega)];rfl
 ·rw[if_neg (by simp only[decide_eq_true_eq];omega),A0j (by omega)]
  have:((0:Int)==op)=false:=by simpa using fun e=>h0 e.symm
  exact congrArg K this.symm
theorem Cut{R:Type}(N:Nat)(l:OpL)(op:Int)(K:Bool→Option R):Aax N l (-1) op K=K false:=by
 simp only[Aax]
 rw[if_neg (by decide)]
theorem wi2{i:Nat}(h:i<4611686018427387000):wi ((i:Int)+2)=((i+2:Nat):Int):=by rw[Aeh (by omega) (by omega)];omega
def Cek(l:OpL)(i:Nat):Bool:=(Aak l i).1==1 &&
 (if (Aak l (i+1)).1=1 then (Aak l (i+2)).1==16&&(Aec (Aak l i).2.1&&(Aec (Aak l (i+1)).2.1&&exB (Aak l (i+2)).2.1 (Aak l i).2.1 (Aak l (i+1)).2.1))
  else if (Aak l (i+1)).1=17 then Aec (Aak l i).2.1&&(Aec 0&&exB (Aak l (i+1)).2.1 (Aak l i).2.1 0)
  else if (Aak l (i+1)).1=16 then Cmp (Aak l (i+1)).2.1 (Aak l i).2.1 else false)
theorem Az8{l:OpL}{i:Nat}(h:(Aak l i).1≠0):i<l.length:=by
 refine Nat.lt_of_not_le fun hh=>h ?_
 rw[A0j hh]
theorem Dfy{R:Type}(N:Nat)(i:Nat)(hi:i<4611686018427387000)(l:OpL)(d:List Int)(at_:Ad5)(nm:Adz)(K:Bool→OpL→List Int→Ad5→Adz→Option R):Aht N (i:Int) l d at_ nm K=K (Cek l i) l d at_ nm:=by
 simp only[Aht,Bcb,Az7,Aco (show i<4611686018427387904 by omega),wi2 hi,Dcj,C5r,len]
 unfold Cek
 by_cases h1:(Aak l i).1=1
 case neg=>rw[if_pos (by simpa using h1),show ((Aak l i).1==1)=false by simpa using h1];rfl
 have hl:=Az8 (l:=l) (i:=i) (by omega)
 rw[if_neg (by simpa using h1),if_pos (by omega),show ((Aak l i).1==1)=true by simpa using h1]
 rw[show List.getD l (Int.toNat (i:Int)) (0,0,0)=Aak l i from rfl,show List.getD l (Int.toNat ((i+1:Nat):Int)) (0,0,0)=Aak l (i+1) from rfl,show List.getD l (Int.toNat ((i+2:Nat):Int)) (0,0,0)=Aak l (i+2) from rfl]
 by_cases h2:(Aak l (i+1)).1=1
 ·have hl2:=Az8 (l:=l) (i:=i+1) (by omega)
  rw[if_pos (by simpa using h2),if_pos h2]
  by_cases h3:(Aak l (i+2)).1=16
  ·have hl3:=Az8 (l:=l) (i:=i+2) (by omega)
   rw[if_pos (by simpa using h3),if_pos (by omega),if_pos (by omega),show ((Aak l (i+2)).1==16)=true by simpa using h3];rfl
  ·rw[if_neg (by simpa using h3),show ((Aak l (i+2)).1==16)=false by simpa using h3];rfl
 rw[if_neg (by simpa using h2),if_neg h2]
 by_cases h4:(Aak l (i+1)).1=17
 ·have hl2:=Az8 (l:=l) (i:=i+1) (by omega)
  rw[if_pos (by simpa using h4),if_pos h4,if_pos (by omega)];rfl
 rw[if_neg (by simpa using h4),if_neg h4]
 by_cases h5:(Aak l (i+1)).1=16
 ·have hl2:=Az8 (l:=l) (i:=i+1) (by omega)
  rw[if_pos (by simpa using h5),if_pos h5,if_pos (by omega)];rfl
 rw[if_neg (by simpa using h5),if_neg h5];rfl
def Cel(l:OpL):Prop:=∀x,x∈l→-9223372036854775808≤x.2.1∧x.2.1≤9223372036854775807
theorem C4o{l:OpL}(h:Cel l)(i:Nat):-9223372036854775808≤(Aak l i).2.1∧(Aak l i).2.1≤9223372036854775807:=by
 by_cases hi:i<l.length
 ·rw[Atj hi];exact h _ (List.getElem_mem hi)
 ·rw[A0j (by omega)];decide
theorem C5s{R:Type}(N:Nat)(hN:40<N)(i:Nat)(hi:i<4611686018427387000)(l:OpL)(hl:Cel l)(K:Bool→Option R):Acc N l (i:Int) K=K (Cek l i):=by
 simp only[Acc,Bf4,Aco (show i<4611686018427387904 by omega),wi2 hi,Dfx N (by omega),len]
 rw[At8 N i l 1 (by decide)]
 unfold Cek
 by_cases h1:(Aak l i).1=1
 case neg=>rw[show ((Aak l i).1==1)=false by simpa using h1];rfl
 have hl1:=Az8 (l:=l) (i:=i) (by omega)
 rw[show ((Aak l i).1==1)=true by simpa using h1,if_neg (by decide),if_pos (by omega)]
 rw[show List.getD l (Int.toNat (i:Int)) (0,0,0)=Aak l i from rfl,show List.getD l (Int.toNat ((i+1:Nat):Int)) (0,0,0)=Aak l (i+1) from rfl,show List.getD l (Int.toNat ((i+2:Nat):Int)) (0,0,0)=Aak l (i+2) from rfl]
 rw[At8 N (i+1) l 17 (by decide),At8 N (i+1) l 16 (by decide),At8 N (i+1) l 1 (by decide),At8 N (i+2) l 16 (by decide)]
 have q0:=C4o hl i
 have q1:=C4o hl (i+1)
 rw[Cvw N hN _ _ 0 q0 (by decide),Cvw N hN _ _ _ q0 q1]
 by_cases h2:(Aak l (i+1)).1=1
 ·have hl2:=Az8 (l:=l) (i:=i+1) (by omega)
  rw[if_neg (by simp;omega),if_neg (by simp;omega),if_pos (by simpa using h2),if_pos h2]
  by_cases h3:(Aak l (i+2)).1=16
  ·have hl3:=Az8 (l:=l) (i:=i+2) (by omega)
   rw[if_pos (by simpa using h3),if_pos (by omega),if_pos (by omega),show ((Aak l (i+2)).1==16)=true by simpa using h3];rfl
  ·rw[if_neg (by simpa using h3),show ((Aak l (i+2)).1==16)=false by simpa using h3];rfl
 rw[if_neg h2]
 by_cases h4:(Aak l (i+1)).1=17
 ·have hl2:=Az8 (l:=l) (i:=i+1) (by omega)
  rw[if_pos (by simpa using h4),if_pos h4,if_pos (by omega)];rfl
 rw[if_neg (by simpa using h4),if_neg h4]
 by_cases h5:(Aak l (i+1)).1=16
 ·have hl2:=Az8 (l:=l) (i:=i+1) (by omega)
  rw[if_pos (by simpa using h5),if_pos h5,if_pos (by omega)];rfl
 rw[if_neg (by simpa using h5),if_neg h5,if_neg (by simpa using h2)];rfl
def skF(t:Int):OpL→Bool
 |[]=>false
 |x::r=>x.1==19&&(x.2.1==t||skF t r)
def Cem(l:OpL)(i:Nat):Bool:=(Aak l i).1==20&&skF (Aak l i).2.1 (l.drop (i+1))
theorem C9q{R:Type}(N:Nat)(l:OpL)(i:Nat)(hi:i<l.length)(hl:l.length≤1099511627776)(d:List Int)(at_:Ad5)(nm:Adz)(a:Bool→OpL→List Int→Ad5→Adz→Option R)(b:OpL→List Int→Ad5→Adz→Option R)(hK:∀k,l.length-k<N→True):∀(m k j:Nat),m<k→j+m=l.length→Aek N k (i:Int) (j:Int) l d at_ nm a b=if skF (Aak l i).2.1 (l.drop j)=true then a true l d at_ nm else b l d at_ nm:=by
 intro m
 induction m with
 |zero=>
  intro k j hk hj
  obtain⟨k,rfl⟩:∃q,k=q+1:=⟨k-1,by omega⟩
  simp only[Aek,Axi,Az7]
  rw[A0j (by omega),List.drop_eq_nil_of_le (by omega)];rfl
 |succ m ih=>
  intro k j hk hj
  obtain⟨k,rfl⟩:∃q,k=q+1:=⟨k-1,by omega⟩
  simp only[Aek,Axi,Az7,len]
  rw[List.drop_eq_getElem_cons (show j<l.length by omega),←Atj (show j<l.length by omega),skF]
  by_cases h1:(Aak l j).1=19
  ·rw[if_pos (by simpa using h1),if_pos (by omega),if_pos (by omega),show ((Aak l j).1==19)=true by simpa using h1]
   rw[show List.getD l (Int.toNat (i:Int)) (0,0,0)=Aak l i from rfl,show List.getD l (Int.toNat (j:Int)) (0,0,0)=Aak l j from rfl,Aco (by omega),ih k (j+1) (by omega) (by omega)]
   cases (Aak l j).2.1==(Aak l i).2.1<;>rfl
  ·rw[if_neg (by simpa using h1),show ((Aak l j).1==19)=false by simpa using h1];rfl
theorem Dfz{R:Type}(N:Nat)(l:OpL)(i:Nat)(hi:i<l.length)(hl:l.length≤1099511627776)(hN:l.length<N)(d:List Int)(at_:Ad5)(nm:Adz)(K:Bool→OpL→List Int→Ad5→Adz→Option R):Ahu N (i:Int) l d at_ nm K=K (Cem l i) l d at_ nm:=by
 simp only[Ahu,Bcd,Az7,Aco (show i<4611686018427387904 by omega)]
 unfold Cem
 by_cases h1:(Aak l i).1=20
 ·rw[if_neg (by simpa using h1),C9q N l i hi hl d at_ nm _ _ (fun _ _=>trivial) (l.length-(i+1)) N (i+1) (by omega) (by omega),show ((Aak l i).1==20)=true by simpa using h1]
  cases skF (Aak l i).2.1 (l.drop (i+1))<;>rfl
 ·rw[if_pos (by simpa using h1),show ((Aak l i).1==20)=false by simpa using h1];rfl
theorem Dcn{R:Type}(N:Nat)(l:OpL)(i:Nat)(hi:i<l.length)(hl:l.length≤1099511627776)(a:Bool→Option R)(b:Option R) :
  ∀(m k j:Nat),m<k→j+m=l.length→Ahq N k l (i:Int) (j:Int) a b=if skF (Aak l i).2.1 (l.drop j)=true then a true else b:=by
 intro m
 induction m with
 |zero=>
  intro k j hk hj
  obtain⟨k,rfl⟩:∃q,k=q+1:=⟨k-1,by omega⟩
  simp only[Ahq,Bbi]
  rw[At8 N j l 19 (by decide),A0j (by omega),List.drop_eq_nil_of_le (by omega)];rfl
 |succ m ih=>
  intro k j hk hj
  obtain⟨k,rfl⟩:∃q,k=q+1:=⟨k-1,by omega⟩
  simp only[Ahq,Bbi,len]
  rw[At8 N j l 19 (by decide)]
  rw[List.drop_eq_getElem_cons (show j<l.length by omega),←Atj (show j<l.length by omega),skF]
  by_cases h1:(Aak l j).1=19
  ·rw[if_pos (by simpa using h1),if_pos (by omega),if_pos (by omega),show ((Aak l j).1==19)=true by simpa using h1]
   rw[show List.getD l (Int.toNat (i:Int)) (0,0,0)=Aak l i from rfl,show List.getD l (Int.toNat (j:Int)) (0,0,0)=Aak l j from rfl,Aco (by omega),ih k (j+1) (by omega) (by omega)]
   cases (Aak l j).2.1==(Aak l i).2.1<;>rfl
  ·rw[if_neg (by simpa using h1),show ((Aak l j).1==19)=false by simpa using h1];rfl
theorem Dh7{R:Type}(N:Nat)(l:OpL)(i:Nat)(hi:i<l.length)(hl:l.length≤1099511627776)(hN:l.length<N)(K:Bool→Option R):Ad4 N l (i:Int) K=K (Cem l i):=by
 simp only[Ad4,Bw8,Aco (show i<4611686018427387904 by omega)]
 rw[At8 N i l 20 (by decide)]
 unfold Cem
 by_cases h1:(Aak l i).1=20
 ·rw[show ((Aak l i).1==20)=true by simpa using h1,if_neg (by decide),Dcn N l i hi hl _ _ (l.length-(i+1)) N (i+1) (by omega) (by omega)]
  cases skF (Aak l i).2.1 (l.drop (i+1))<;>rfl
 ·rw[show ((Aak l i).1==20)=false by simpa using h1];rfl
def Cq7(l:OpL)(i:Nat):Bool:=decide (0<i)&&((Aak l i).1 != 19&&((Aak l i).1 != 24&&Atq l (i-1)))
theorem Dh8{R:Type}(N:Nat)(l:OpL)(i:Nat)(hi:i<l.length)(hl:l.length≤1099511627776)(d:List Int)(at_:Ad5)(nm:Adz)(K:Bool→OpL→List Int→Ad5→Adz→Option R):Aiu N (i:Int) l d at_ nm K=K (Cq7 l i) l d at_ nm:=by
 simp only[Aiu,Bey,Az7]
 unfold Cq7
 by_cases h0:0<i
 ·rw[if_pos (by simp only[decide_eq_true_eq];omega),decide_eq_true h0,show wi ((i:Int)-1)=((i-1:Nat):Int) by rw[Aeh (by omega) (by omega)];omega,Brk N l (i-1) hl (by omega)]
  cases (Aak l i).1 != 19
  ·rfl
  cases (Aak l i).1 != 24<;>rfl
 ·rw[if_neg (by simp only[decide_eq_true_eq];omega),decide_eq_false h0];rfl
def Cds(l:OpL)(i:Nat):Bool:=decide (0<i)&&Atq l (i-1)
theorem Df0{R:Type}(N:Nat)(l:OpL)(i:Nat)(hi:i<l.length)(hl:l.length≤1099511627776)(K:Bool→Option R):Adl N l (wi ((i:Int)-1)) K=K (Cds l i):=by
 simp only[Adl,Bq9,Agg,Bf5,len]
 unfold Cds
 by_cases h0:0<i
 case neg=>
  have:i=0:=by omega
  subst this
  rfl
 rw[decide_eq_true h0,show wi ((i:Int)-1)=((i-1:Nat):Int) by rw[Aeh (by omega) (by omega)];omega,if_neg (by simp only[decide_eq_true_eq];omega),if_pos (by omega),Aco (show i-1<4611686018427387904 by omega),At8 N (i-1+1) l 30 (by decide)]
 rw[show List.getD l (Int.toNat ((i-1:Nat):Int)) (0,0,0)=Aak l (i-1) from rfl]
 unfold Atq
 simp only
 have e30:(decide (i-1+1=l.length)||(Aak l (i-1+1)).1 != 30) = !((Aak l (i-1+1)).1==30):=by
  rw[decide_eq_false (by omega)];rfl
 rw[e30]
 simp only[if_pos (show (0:Int)≤((i-1:Nat):Int)∧((i-1:Nat):Int)<l.length by omega)]
 generalize ((Aak l (i-1+1)).1==30)=E
 generalize ((Aak l (i-1)).2.2==0)=Z
 generalize (Aak l (i-1)).1=op
 by_cases h1:op=20
 ·subst h1;rfl
 by_cases h2:op=25
 ·subst h2;rfl
 by_cases h3:op=26
 ·subst h3;rfl
 by_cases h4:op=27
 ·subst h4;rfl
 by_cases h5:op=29
 ·subst h5;rfl
 by_cases h6:op=30
 ·subst h6;cases E<;>rfl
 simp[h1,h2,h3,h4,h5,h6]
def Cq8(l:OpL)(dp:List Int)(i:Nat):Bool:=(Aak l i).1==18&&(dp.getD i 0==(Aak l i).2.1 && !((Aak l (i-1)).1==19))
theorem still_eq{R:Type}(N:Nat)(l:OpL)(i:Nat)(hi:i<l.length)(hl:l.length≤1099511627776)(d:List Int)(hd:d.length=l.length)(h24:(Aak l 0).1=24)(at_:Ad5)(nm:Adz)(K:Bool→OpL→List Int→Ad5→Adz→Option R):Ahv N (i:Int) l d at_ nm K=K (Cq8 l d i) l d at_ nm:=by
 simp only[Ahv,Bcf,Az7,len]
 unfold Cq8
 by_cases h1:(Aak l i).1=18
 case neg=>rw[if_neg (by simpa using h1),show ((Aak l i).1==18)=false by simpa using h1];rfl
 have h0:0<i:=by
  refine Nat.pos_of_ne_zero fun e=>?_
  rw[e,h24]at h1;omega
 rw[if_pos (by simpa using h1),if_pos (by omega),if_pos (by omega),show wi ((i:Int)-1)=((i-1:Nat):Int) by rw[Aeh (by omega) (by omega)];omega,Az7,show ((Aak l i).1==18)=true by simpa using h1]
 rw[show List.getD l (Int.toNat (i:Int)) (0,0,0)=Aak l i from rfl,show List.getD d (Int.toNat (i:Int)) (0:Int)=d.getD i 0 from rfl]
 cases d.getD i 0==(Aak l i).2.1<;>rfl
def Bo5(l:OpL)(i:Nat):Bool:=(Aak l i).1==1&&(Aec (Aak l i).2.1&&((Aak l (i+1)).1==21||(Aak l (i+1)).1==22))
theorem C9r{R:Type}(N:Nat)(l:OpL)(i:Nat)(hi:i<l.length)(hl:l.length≤1099511627776)(d:List Int)(at_:Ad5)(nm:Adz)(K:Bool→OpL→List Int→Ad5→Adz→Option R):Agd N (i:Int) l d at_ nm K=K (Bo5 l i) l d at_ nm:=by
 simp only[Agd,A55,Az7,len,C4l,Aco (show i<4611686018427387904 by omega)]
 unfold Bo5
 by_cases h1:(Aak l i).1=1
 case neg=>rw[if_neg (by simpa using h1),show ((Aak l i).1==1)=false by simpa using h1];rfl
 rw[if_pos (by simpa using h1),if_pos (by omega),show ((Aak l i).1==1)=true by simpa using h1]
 rw[show List.getD l (Int.toNat (i:Int)) (0,0,0)=Aak l i from rfl]
 cases Aec (Aak l i).2.1
 ·rfl
 cases (Aak l (i+1)).1==21<;>rfl
def Cq9(l:OpL)(i:Nat):Bool:=(Aak l i).1==2&&((Aak l (i+1)).1==3&&(Aak l i).2.1==(Aak l (i+1)).2.1)
theorem Dh9{R:Type}(N:Nat)(l:OpL)(i:Nat)(hi:i<l.length)(hl:l.length≤1099511627776)(d:List Int)(at_:Ad5)(nm:Adz)(K:Bool→OpL→List Int→Ad5→Adz→Option R):Aiw N (i:Int) l d at_ nm K=K (Cq9 l i) l d at_ nm:=by
 simp only[Aiw,Bfa,Az7,len,Aco (show i<4611686018427387904 by omega)]
 unfold Cq9
 by_cases h1:(Aak l i).1=2
 case neg=>rw[if_neg (by simpa using h1),show ((Aak l i).1==2)=false by simpa using h1];rfl
 rw[if_pos (by simpa using h1),show ((Aak l i).1==2)=true by simpa using h1]
 by_cases h2:(Aak l (i+1)).1=3
 case neg=>rw[if_neg (by simpa using h2),show ((Aak l (i+1)).1==3)=false by simpa using h2];rfl
 have hl2:=Az8 (l:=l) (i:=i+1) (by omega)
 rw[if_pos (by simpa using h2),if_pos (by omega),if_pos (by omega),show ((Aak l (i+1)).1==3)=true by simpa using h2]
 rfl
def C9s(k v:Int)(m:Ad5):Ad5:=Az9 (kt:=(.int .i64)) (et:=(.int .i64)) k v m
def A1q(k:Int)(m:Ad5):Int:=Option.getD (Ash (kt:=(.int .i64)) (et:=(.int .i64)) k m) (0:Int)
def A4a(k:Int)(m:Adz):Bool:=Option.getD (Ash (kt:=(.int .i64)) (et:=.bool) k m) false
def Cra(k:Int)(m:Adz):Adz:=Az9 (kt:=(.int .i64)) (et:=.bool) k true m
theorem Cvx(k n:Int)(m:Adz):A4a n (Cra k m)=(n==k||A4a n m):=Cvr n k m
theorem Cvy(k v n:Int):∀m:Ad5,A1q n (C9s k v m)=if n=k then v else A1q n m
 |[]=>by
  show Option.getD (match Ty.beq (.int .i64) n k with|true=>some v|false=>none) 0=_
  by_cases h:n=k
  ·subst h;rw[if_pos rfl,show Ty.beq (.int .i64) n n=true by simp[Ty.beq]];rfl
  ·rw[if_neg h,show Ty.beq (.int .i64) n k=false by simpa [Ty.beq]using h];rfl
 |(k',v')::r=>by
  have ih:=Cvy k v n r
  unfold C9s A1q at *
  simp only[Az9]
  by_cases h:k=k'
  ·subst h
   rw[show Ty.beq (.int .i64) k k=true by simp[Ty.beq]]
   simp only[Ash]
   by_cases h2:n=k
   ·subst h2;rw[if_pos rfl,show Ty.beq (.int .i64) n n=true by simp[Ty.beq]];rfl
   ·rw[if_neg h2,show Ty.beq (.int .i64) n k=false by simpa [Ty.beq]using h2]
  ·rw[show Ty.beq (.int .i64) k k'=false by simpa [Ty.beq]using h]
   simp only[Ash]
   by_cases h2:n=k'
   ·subst h2
    rw[show Ty.beq (.int .i64) n n=true by simp[Ty.beq],if_neg (fun e=>h e.symm)]
   ·rw[show Ty.beq (.int .i64) n k'=false by simpa [Ty.beq]using h2]
    exact ih
def An5(n:Int):Nat→OpL→Int
 | _,[] => -1
 |i,x::r=>if x.1=19∧x.2.1=n then (i:Int) else An5 n (i+1) r
def Bdd(n:Int):Nat→OpL→Int→Int
 | _,[],v=>v
 |i,x::r,v=>Bdd n (i+1) r (if x.1=19∧x.2.1=n then (i:Int) else v)
theorem Dco{R:Type}(N:Nat)(l:OpL)(hl:l.length≤1099511627776)(n:Int)(a:Int→Option R)(b:Option R):∀(m k i:Nat),m<k→i+m=l.length→
  Ahr N k l n (i:Int) a b=if An5 n i (l.drop i) = -1 then b else a (An5 n i (l.drop i)):=by
 intro m
 induction m with
 |zero=>
  intro k i hk hi
  obtain⟨k,rfl⟩:∃q,k=q+1:=⟨k-1,by omega⟩
  simp only[Ahr,Bbl,len]
  rw[if_neg (by simp only[decide_eq_true_eq];omega),List.drop_eq_nil_of_le (by omega)];rfl
 |succ m ih=>
  intro k i hk hi
  obtain⟨k,rfl⟩:∃q,k=q+1:=⟨k-1,by omega⟩
  simp only[Ahr,Bbl,len]
  have hlt:i<l.length:=by omega
  have hin:(0:Int)≤(i:Int)∧(i:Int)<l.length:=by omega
  simp only[if_pos hin]
  rw[if_pos (by simp only[decide_eq_true_eq];omega),Aco (by omega),ih k (i+1) (by omega) (by omega),List.drop_eq_getElem_cons hlt,←Atj hlt,An5]
  rw[show List.getD l (Int.toNat (i:Int)) (0,0,0)=Aak l i from rfl]
  generalize hA:An5 n (i+1) (l.drop (i+1))=A
  by_cases h1:(Aak l i).1=19
  ·by_cases h2:(Aak l i).2.1=n
   ·rw[show ((Aak l i).1==19)=true by simpa using h1,show ((Aak l i).2.1==n)=true by simpa using h2,if_pos (c:=(Aak l i).1=19∧_) ⟨h1,h2⟩,if_pos rfl,if_pos rfl,if_neg (by omega)]
   ·rw[show ((Aak l i).1==19)=true by simpa using h1,show ((Aak l i).2.1==n)=false by simpa using h2,if_neg (c:=(Aak l i).1=19∧_) (fun h=>h2 h.2),if_pos rfl,if_neg (by decide)]
  ·rw[show ((Aak l i).1==19)=false by simpa using h1,if_neg (c:=(Aak l i).1=19∧_) (fun h=>h1 h.1),if_neg (by decide)]
theorem Df1{R:Type}(N:Nat)(l:OpL)(hl:l.length≤1099511627776)(hN:l.length<N)(n:Int)(K:Int→Option R):Ajr N l n K=K (An5 n 0 l):=by
 simp only[Ajr,Bxa]
 have:=Dco N l hl n (fun a=>K a) (K (-1)) l.length N 0 (by omega) (by omega)
 rw[show ((0:Nat):Int)=0 from rfl,List.drop_zero]at this
 rw[this]
 split
 ·rename_i h;rw[h]
 ·rfl
def B05:OpL→Prop
 |[]=>True
 |x::r=>(x.1=19→∀y,y∈r→y.1=19→y.2.1≠x.2.1)∧B05 r
theorem Chr(n:Int):∀(l:OpL) (i:Nat) (v:Int),(∀y,y∈l→y.1=19→y.2.1≠n)→Bdd n i l v=v
 |[],_,_,_=>rfl
 |x::r,i,v,h=>by
  rw[Bdd,if_neg (fun hh=>h x (by simp) hh.1 hh.2)]
  exact Chr n r (i+1) v fun y hy=>h y (by simp[hy])
theorem Crb(n:Int):∀(l:OpL) (i:Nat) (v:Int),B05 l→Bdd n i l v=if An5 n i l = -1 then v else An5 n i l
 |[],_,_,_=>by simp[Bdd,An5]
 |x::r,i,v,h=>by
  rw[Bdd,An5]
  by_cases hx:x.1=19∧x.2.1=n
  ·rw[if_pos hx,if_pos hx,if_neg (by omega),Chr n r (i+1) _ (fun y hy h19=>by rw[←hx.2];exact h.1 hx.1 y hy h19)]
  ·rw[if_neg hx,if_neg hx];exact Crb n r (i+1) v h.2
theorem B4r:∀(l:OpL) (i:Nat) (p m:Int) (o a:List Int) (r:Int×Int×List Int×List Int),plF i l p m o a=some r→0≤p→(∀x,x∈l→x.1=19→0≤x.2.1∧x.2.1<a.length)→
  B05 l∧∀x,x∈l→x.1=19→a.getD x.2.1.toNat 0=0
 |[],_,_,_,_,_,_,_,_,_=>⟨trivial,by simp⟩
 |x::l,i,p,m,o,a,r,h,hp,hL=>by
  rw[plF]at h
  split at h
  ·rename_i h24
   split at h
   case isFalse=>cases h
   obtain⟨u,q⟩:=B4r l (i+1) (p+1) m o a r h (by omega) (fun x hx=>hL x (by simp[hx]))
   refine⟨⟨fun e=>by omega,u⟩,fun y hy h19=>?_⟩
   rcases List.mem_cons.1 hy with rfl|hy
   ·omega
   ·exact q y hy h19
  ·split at h
   ·rename_i h24 h19x
    split at h
    case isTrue=>cases h
    rename_i hz
    have hz1:a.getD x.2.1.toNat 0=0:=Classical.byContradiction fun e=>hz (.inl e)
    have hp0:p≠0:=fun e=>hz (.inr e)
    have hxl:=hL x (by simp) h19x
    obtain⟨u,q⟩:=B4r l (i+1) p _ _ _ r h hp (fun x hx=>by rw[List.length_set];exact hL x (by simp[hx]))
    have hne:∀y,y∈l→y.1=19→y.2.1≠x.2.1:=by
     intro y hy hy19 e
     have:=q y hy hy19
     rw[e,A0h,if_pos ⟨rfl,by omega⟩]at this
     exact hp0 this
    refine⟨⟨fun _=>hne,u⟩,fun y hy h19=>?_⟩
    rcases List.mem_cons.1 hy with rfl|hy
    ·exact hz1
    ·have hq:=q y hy h19
     have hyl:=hL y (by simp[hy]) h19
     rw[A0h,if_neg (fun hh=>hne y hy h19 (by omega))]at hq
     exact hq
   ·rename_i h24 h19x
    obtain⟨u,q⟩:=B4r l (i+1) p m o a r h hp (fun x hx=>hL x (by simp[hx]))
    refine⟨⟨fun e=>absurd e h19x,u⟩,fun y hy h19=>?_⟩
    rcases List.mem_cons.1 hy with rfl|hy
    ·exact absurd h19 h19x
    ·exact q y hy h19
theorem C9t(N:Nat)(l:OpL)(hl:l.length≤1099511627776)(d:List Int):∀(m k i:Nat) (at_:Ad5) (nm:Adz),m<k→i+m=l.length→
  ∃at' nm',(∀n,A1q n at'=Bdd n i (l.drop i) (A1q n at_))∧(∀n,A4a n nm'=(A4a n nm||(l.drop i).any fun x=>decide (0<Aaj x)&&n==Aaj x))∧
   ∀(R:Type) (K:OpL→List Int→Ad5→Adz→Option R),Ae2 N k l (len l) (i:Int) l d at_ nm K=K l d at' nm':=by
 intro m
 induction m with
 |zero=>
  intro k i at_ nm hk hi
  obtain⟨k,rfl⟩:∃q,k=q+1:=⟨k-1,by omega⟩
  refine⟨at_,nm,fun n=>?_,fun n=>?_,?_⟩
  ·rw[List.drop_eq_nil_of_le (by omega)];rfl
  ·rw[List.drop_eq_nil_of_le (by omega)];simp
  ·intro R K
   simp only[Ae2,A15,len]
   rw[if_neg (by simp only[decide_eq_true_eq];omega)]
 |succ m ih=>
  intro k i at_ nm hk hi
  obtain⟨k,rfl⟩:∃q,k=q+1:=⟨k-1,by omega⟩
  have hlt:i<l.length:=by omega
  have key:∀at1:Ad5,(∀n,A1q n at1=if (Aak l i).1=19∧(Aak l i).2.1=n then (i:Int) else A1q n at_)→∃at' nm',(∀n,A1q n at'=Bdd n i (l.drop i) (A1q n at_))∧(∀n,A4a n nm'=(A4a n nm||(l.drop i).any fun x=>decide (0<Aaj x)&&n==Aaj x))∧
    ∀(R:Type) (K:OpL→List Int→Ad5→Adz→Option R),(if decide (Aaj (Aak l i) > 0)=true then Ae2 N k l (len l) (wi ((i:Int)+1)) l d at1 (Cra (Aaj (Aak l i)) nm) K else Ae2 N k l (len l) (wi ((i:Int)+1)) l d at1 nm K)=K l d at' nm':=by
   intro at1 h1
   rw[Aco (by omega),List.drop_eq_getElem_cons hlt,←Atj hlt]
   by_cases hn:Aaj (Aak l i) > 0
   ·obtain⟨at',nm',e1,e2,e3⟩:=ih k (i+1) at1 (Cra (Aaj (Aak l i)) nm) (by omega) (by omega)
    refine⟨at',nm',fun n=>?_,fun n=>?_,?_⟩
    ·rw[e1,Bdd,h1]
    ·rw[e2,Cvx,List.any_cons,decide_eq_true (show 0<Aaj (Aak l i) from hn)]
     cases n==Aaj (Aak l i)<;>cases A4a n nm<;>simp
    ·intro R K;rw[if_pos (by simpa using hn),e3]
   ·obtain⟨at',nm',e1,e2,e3⟩:=ih k (i+1) at1 nm (by omega) (by omega)
    refine⟨at',nm',fun n=>?_,fun n=>?_,?_⟩
    ·rw[e1,Bdd,h1]
    ·rw[e2,List.any_cons,decide_eq_false (show ¬0<Aaj (Aak l i) from hn)];simp
    ·intro R K;rw[if_neg (by simpa using hn),e3]
  by_cases h19:(Aak l i).1=19
  ·obtain⟨at',nm',e1,e2,e3⟩:=key (C9s (Aak l i).2.1 i at_) (fun n=>by
    rw[Cvy]
    by_cases e:n=(Aak l i).2.1
    ·rw[if_pos e,if_pos ⟨h19,e.symm⟩]
    ·rw[if_neg e,if_neg (fun h=>e h.2.symm)])
   refine⟨at',nm',e1,e2,fun R K=>?_⟩
   simp only[Ae2,A15,Af9,A6w,Bbp,len]
   rw[←e3 R K,if_pos (by simp only[decide_eq_true_eq];omega),if_pos (by omega),if_pos (show ((List.getD l (Int.toNat (i:Int)) (0,0,0)).1==19)=true from beq_iff_eq.2 h19)];rfl
  ·obtain⟨at',nm',e1,e2,e3⟩:=key at_ (fun n=>by rw[if_neg (fun h=>h19 h.1)])
   refine⟨at',nm',e1,e2,fun R K=>?_⟩
   simp only[Ae2,A15,Af9,A6w,Bbp,len]
   rw[←e3 R K,if_pos (by simp only[decide_eq_true_eq];omega),if_pos (by omega),if_neg (show ¬((List.getD l (Int.toNat (i:Int)) (0,0,0)).1==19)=true from fun e=>h19 (beq_iff_eq.1 e))];rfl
theorem Df2(N:Nat)(l:OpL)(hl:l.length≤1099511627776)(hN:l.length<N)(hu:B05 l)(d:List Int) :
  ∃at' nm',(∀n,A1q n at'=if An5 n 0 l = -1 then 0 else An5 n 0 l)∧(∀n,A4a n nm'=l.any fun x=>decide (0<Aaj x)&&n==Aaj x)∧∀(R:Type) (K:OpL→List Int→Ad5→Adz→Option R),Ak8 N l d K=K l d at' nm':=by
 obtain⟨at',nm',e1,e2,e3⟩:=C9t N l hl d l.length N 0 [] [] (by omega) (by omega)
 rw[List.drop_zero]at e1 e2
 refine⟨at',nm',fun n=>?_,fun n=>?_,?_⟩
 ·rw[e1,Crb n l 0 _ hu];rfl
 ·rw[e2];rfl
 ·intro R K;simp only[Ak8,Bu6];exact e3 R K
theorem C9u{R:Type}(N:Nat)(l:OpL)(hl:l.length≤1099511627776)(n:Int)(hn:0<n)(d:Bool→Option R)(f:Option R):∀(m k i:Nat),m<k→i+m=l.length→
  Afd N k l n (i:Int) d f=if ((l.drop i).any fun x=>decide (0<Aaj x)&&n==Aaj x)=true then d true else f:=by
 intro m
 induction m with
 |zero=>
  intro k i hk hi
  obtain⟨k,rfl⟩:∃q,k=q+1:=⟨k-1,by omega⟩
  simp only[Afd,A7o,len]
  rw[if_neg (by simp only[decide_eq_true_eq];omega),List.drop_eq_nil_of_le (by omega)];rfl
 |succ m ih=>
  intro k i hk hi
  obtain⟨k,rfl⟩:∃q,k=q+1:=⟨k-1,by omega⟩
  have hlt:i<l.length:=by omega
  simp only[Afd,A7o,Aeq,len]
  rw[if_pos (by simp only[decide_eq_true_eq];omega),if_pos (by omega),Aco (by omega),ih k (i+1) (by omega) (by omega),List.drop_eq_getElem_cons hlt,←Atj hlt,List.any_cons]
  rw[show List.getD l (Int.toNat (i:Int)) (0,0,0)=Aak l i from rfl]
  generalize ((l.drop (i+1)).any fun x=>decide (0<Aaj x)&&n==Aaj x)=A
  obtain⟨op,a,b⟩:=Aak l i
  have key:∀c:Int,(if (c==n)=true then d true else if A=true then d true else f)=if (decide (0<c)&&n==c||A)=true then d true else f:=by
   intro c
   by_cases h:c=n
   ·subst h;rw[if_pos (by simp),decide_eq_true hn];simp
   ·have:(n==c)=false:=by simpa using fun e=>h e.symm
    rw[if_neg (by simpa using h),this,Bool.and_false,Bool.false_or]
  simp only[Aaj]
  by_cases h1:op=20
  ·subst h1;exact key a
  by_cases h2:op=21
  ·subst h2;exact key a
  by_cases h3:op=22
  ·subst h3;exact key a
  by_cases h4:op=27
  ·subst h4;exact key a
  by_cases h5:op=29
  ·subst h5;exact key a
  by_cases h6:op=30
  ·subst h6;exact key b
  simp[h1,h2,h3,h4,h5,h6]
theorem Dcp{R:Type}(N:Nat)(l:OpL)(hl:l.length≤1099511627776)(hN:l.length<N)(n:Int)(hn:0<n)(K:Bool→Option R):Adk N l n K=K (l.any fun x=>decide (0<Aaj x)&&n==Aaj x):=by
 simp only[Adk,Bq7]
 have:=C9u N l hl n hn (fun a=>K a) (K false) l.length N 0 (by omega) (by omega)
 rw[show ((0:Nat):Int)=0 from rfl,List.drop_zero]at this
 rw[this]
 cases l.any fun x=>decide (0<Aaj x)&&n==Aaj x<;>rfl
def nxt(l:OpL)(n:Int):Int :=
 let i:=An5 n 0 l
 if i<0 then 0 else
  let j:=Aeu l i.toNat
  if (Aak l j).1=18∧(Aak l (j+1)).1=20 then (Aak l (j+1)).2.1 else 0
theorem Bxn(n:Int):∀(l:OpL) (i:Nat),An5 n i l = -1∨∃j,An5 n i l=((i+j:Nat):Int)∧j<l.length∧(Aak l j).1=19∧(Aak l j).2.1=n
 |[],_=>.inl rfl
 |x::r,i=>by
  rw[An5]
  by_cases h:x.1=19∧x.2.1=n
  ·rw[if_pos h];exact .inr ⟨0,rfl,by simp,h⟩
  ·rw[if_neg h]
   rcases Bxn n r (i+1) with e|⟨j,e,h1,h2⟩
   ·exact .inl e
   ·refine .inr ⟨j+1,?_,by simpa using h1,h2⟩
    rw[e];omega
theorem Cen:∀(l:OpL) (c:Nat),Afn c l=true→∀j,(Aak l j).1=19→(Aak l (j+1)).1=18∨(Aak l (j+1)).1=28∨(Aak l (j+1)).1=19
 |[],_,_,j,h=>by rw[A0j (by simp)]at h;cases h
 |x::r,c+1,ho,j,h=>by
  simp only[Afn,Bool.and_eq_true,beq_iff_eq]at ho
  cases j with
  |zero=>
   have:x.1=19:=h
   omega
  |succ j=>exact Cen r c ho.2 j h
 |x::r,0,ho,j,h=>by
  simp only[Afn,Bool.and_eq_true]at ho
  obtain⟨h30,ho⟩:=ho
  cases j with
  |succ j=>
   split at ho
   ·exact Cen r _ ho j h
   ·simp only[Bool.and_eq_true]at ho
    exact Cen r _ ho.2 j h
  |zero=>
   have hx:x.1=19:=h
   rw[if_neg (by omega)]at ho
   simp only[Bool.and_eq_true,A4y]at ho
   have:=ho.1.1
   rw[show (x.1 != 19)=false by simpa using hx,Bool.false_or]at this
   cases r with
   |nil=>simp[Aey]at this
   |cons y r=>
    simp only[Aey,Bool.or_eq_true,beq_iff_eq,Option.some.injEq]at this
    show y.1=18∨y.1=28∨y.1=19
    omega
theorem B4s{l:OpL}{j:Nat}(h:(Aak l j).1=19):Aeu l j=Aeu l (j+1):=by
 have hlt:=Az8 (l:=l) (i:=j) (by omega)
 unfold Aeu
 rw[List.drop_eq_getElem_cons hlt,←Atj hlt,Az6,if_pos h];omega
theorem Bai{l:OpL}{j:Nat}(h:(Aak l j).1≠19):Aeu l j=j:=by
 unfold Aeu
 by_cases hlt:j<l.length
 ·rw[List.drop_eq_getElem_cons hlt,←Atj hlt,Az6,if_neg h];omega
 ·rw[List.drop_eq_nil_of_le (by omega)];rfl
theorem C6u{l:OpL}(ho:Afn 0 l=true):∀(m j:Nat),j+m=l.length→(Aak l j).1=19→(Aak l (Aeu l j)).1=18∨(Aak l (Aeu l j)).1=28
 |0,j,hj,h=>by rw[A0j (by omega)]at h;cases h
 |m+1,j,hj,h=>by
  rw[B4s h]
  rcases Cen l 0 ho j h with e|e|e
  ·rw[Bai (by omega)];exact .inl e
  ·rw[Bai (by omega)];exact .inr e
  ·exact C6u ho m (j+1) (by omega) e
theorem C4p{R:Type}(N:Nat)(l:OpL)(hl:l.length≤1099511627776)(d:List Int)(at_:Ad5)(nm:Adz)(K:Int→OpL→List Int→Ad5→Adz→Option R):∀(m k j:Nat),m<k→j+m=l.length→
  Aez N k (j:Int) l d at_ nm K=K ((Aeu l j:Nat):Int) l d at_ nm:=by
 intro m
 induction m with
 |zero=>
  intro k j hk hj
  obtain⟨k,rfl⟩:∃q,k=q+1:=⟨k-1,by omega⟩
  simp only[Aez,Ay2,Az7]
  have:(Aak l j).1=0:=by rw[A0j (by omega)]
  rw[Bai (by omega),this];rfl
 |succ m ih=>
  intro k j hk hj
  obtain⟨k,rfl⟩:∃q,k=q+1:=⟨k-1,by omega⟩
  simp only[Aez,Ay2,Az7]
  by_cases h:(Aak l j).1=19
  ·rw[if_pos (by simpa using h),Aco (by omega),ih k (j+1) (by omega) (by omega),B4s h]
  ·rw[if_neg (by simpa using h),Bai h]
end Q

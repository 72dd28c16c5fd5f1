/- Part Q1 of the proof. -/
import Derived.Test.YtjdklngopfpjgaaGreatDoorO
import Derived.Test.YtjdklngopfpjgaaGreatDoorX7
open Go Go.AX Go.Proofs
namespace Q
def Boz(c:UInt8):Bool:=c==10||c==9||c==42||c==34
def Ath(c:UInt8):Bool := !Boz c&&(decide (c.toNat<32)||decide (126<c.toNat))
def Bel(c:UInt8):List Int:=if c=10 then [42,110] else if c=9 then [42,116] else if c=42 then [42,42] else if c=34 then [42,34] else [(c.toNat:Int)]
def Bdv(s:List UInt8):List Int:=s.flatMap Bel
def Ark(s:List UInt8):Int:=if s.any Ath then 3 else if 100<s.length then 2 else 0
theorem Ct9(c:UInt8):Blo [10,9,42,34] ((c.toNat:Nat):Int)=if c=10 then 0 else if c=9 then 1 else if c=42 then 2 else if c=34 then 3 else -1:=by
 have e:(((c.toNat:Nat):Int)).toNat.toUInt8=c:=by simp
 unfold Blo
 rw[e]
 simp only[Lib.indexByte,beq_iff_eq]
 by_cases h1:c=10
 ·subst h1;rfl
 by_cases h2:c=9
 ·subst h2;rfl
 by_cases h3:c=42
 ·subst h3;rfl
 by_cases h4:c=34
 ·subst h4;rfl
 simp[h1,h2,h3,h4,Ne.symm h1,Ne.symm h2,Ne.symm h3,Ne.symm h4]
theorem Cln(c:UInt8):(Bel c).length≤2∧Am7 (Bel c)=true:=by
 unfold Bel
 have:c.toNat<256:=c.toNat_lt
 repeat' split
 all_goals (constructor<;>simp[Am7]<;>omega)
theorem A8e(a b:List Int):Am7 (a++b)=(Am7 a&&Am7 b):=by simp[Am7]
theorem Bag{R:Type}(N:Nat)(v:Int)(b:List Int)(K:List Int→Option R)(h:b.length+1≤70368744177664):Aad N v b K=K (b++[v]):=by
 unfold Aad
 rw[if_pos (by simp;omega)]
theorem Csn{R:Type}(N:Nat)(v:Int)(b:List Int)(K:List Int→Option R)(h:b.length+1≤70368744177664):Abs N v b K=K (b++[v]):=by
 unfold Abs
 rw[if_pos (by simp;omega)]
theorem B3l{R:Type}(N:Nat)(s:List UInt8)(hs:s.length≤1099511627776)(a:List UInt8→Int→Option R)(d:List UInt8→List Int→Option R):∀(m k i:Nat) (b:List Int),m<k→i+m=s.length→b.length≤1+2*i→
  Agw N k s s.length i b a d=if (s.drop i).any Ath then a [] 3 else d s (b++Bdv (s.drop i))
 |m,0,_,_,hk,_,_=>by omega
 |0,k+1,i,b,_,hi,_=>by
  simp only[Agw,A2o]
  rw[if_neg (by simp;omega),List.drop_eq_nil_of_le (by omega)]
  simp[Bdv]
 |m+1,k+1,i,b,hk,hi,hb=>by
  simp only[Agw,A2o]
  have hin:(0:Int)≤i∧(i:Int)<len s:=by simp only[len];omega
  rw[if_pos (by simp;omega),if_pos hin]
  have hlt:i<s.length:=by omega
  have hd:s.drop i=s[i]::s.drop (i+1):=List.drop_eq_getElem_cons hlt
  have hg:s.getD (Int.toNat (i:Int)) 0=s[i]:=by
   rw[List.getD_eq_getElem?_getD];simp[hlt]
  rw[hg,hd]
  generalize s[i]=c
  have hc:=c.toNat_lt
  have hw:wi ((i:Int)+1)=((i+1:Nat):Int):=by
   simp only[wi];rw[w64 (by omega)];rfl
  have ih:=fun b' (hb':b'.length≤1+2*(i+1))=>B3l N s hs a d m k (i+1) b' (by omega) (by omega) hb'
  rw[Ct9]
  by_cases h1:c=10
  ·subst h1
   rw[if_pos rfl,if_pos (by decide),Bag _ _ _ _ (by omega),if_pos (by decide),Bag _ _ _ _ (by simp;omega),hw,ih _ (by simp;omega)]
   simp[Ath,Boz,Bdv,Bel]
  rw[if_neg h1]
  by_cases h2:c=9
  ·subst h2
   rw[if_pos rfl,if_pos (by decide),Bag _ _ _ _ (by omega),if_pos (by decide),Bag _ _ _ _ (by simp;omega),hw,ih _ (by simp;omega)]
   simp[Ath,Boz,Bdv,Bel]
  rw[if_neg h2]
  by_cases h3:c=42
  ·subst h3
   rw[if_pos rfl,if_pos (by decide),Bag _ _ _ _ (by omega),if_pos (by decide),Bag _ _ _ _ (by simp;omega),hw,ih _ (by simp;omega)]
   simp[Ath,Boz,Bdv,Bel]
  rw[if_neg h3]
  by_cases h4:c=34
  ·subst h4
   rw[if_pos rfl,if_pos (by decide),Bag _ _ _ _ (by omega),if_pos (by decide),Bag _ _ _ _ (by simp;omega),hw,ih _ (by simp;omega)]
   simp[Ath,Boz,Bdv,Bel]
  rw[if_neg h4,if_neg (by decide)]
  have hq:Boz c=false:=by simp[Boz,h1,h2,h3,h4]
  by_cases h5:c.toNat<32
  ·rw[if_pos (by simp;omega)]
   simp[Ath,hq,h5]
  rw[if_neg (by simp;omega)]
  by_cases h6:126<c.toNat
  ·rw[if_pos (by simp;omega)]
   simp[Ath,hq,h6]
  rw[if_neg (by simp;omega),Bag _ _ _ _ (by omega),hw,ih _ (by simp;omega)]
  simp[Ath,hq,h5,h6,Bdv,Bel,h1,h2,h3,h4]
theorem Cj3(s:List UInt8):Am7 (Bdv s)=true∧(Bdv s).length≤2*s.length:=by
 induction s with
 |nil=>simp[Bdv,Am7]
 |cons c s ih=>
  have:=Cln c
  simp only[Bdv,List.flatMap_cons,A8e,List.length_append,List.length_cons]at ih ⊢
  rw[this.2,ih.1]
  exact⟨rfl,by omega⟩
theorem Btc(N:Nat)(s:List UInt8)(hs:s.length≤1099511627776)(hN:s.length<N):∃r,∀{R:Type} (K:List UInt8→Int→Option R),Adb N s K=K r (Ark s):=by
 have key:∀{R:Type} (K:List UInt8→Int→Option R),Adb N s K=K (if s.any Ath then [] else if 100<s.length then [] else Axf (34::Bdv s++[34])) (Ark s):=by
  intro R K
  simp only[Adb,Bky]
  rw[Csn _ _ _ _ (by simp)]
  simp only[len]
  have:=B3l N s hs (fun b c=>K b c) (fun d e=>if (decide ((d.length:Int) > 100))=true then K [] 2 else Aad N 34 e fun a=>if 0<a.length∧a.length≤70368744177664∧Am7 a=true then K (Axf a) 0 else none) s.length N 0 ([]++[34]) hN (by omega) (by simp)
  rw[show ((0:Nat):Int)=0 from rfl]at this
  rw[this]
  simp only[List.drop_zero,Ark]
  by_cases h1:s.any Ath=true
  ·simp only[if_pos h1]
  simp only[if_neg h1]
  by_cases h2:100<s.length
  ·rw[if_pos (by simp;omega),if_pos h2,if_pos h2]
  rw[if_neg (by simp;omega),if_neg h2,if_neg h2]
  have hq:=Cj3 s
  rw[Bag _ _ _ _ (by simp;omega),if_pos]
  ·rfl
  ·refine⟨by simp,by simp;omega,?_⟩
   rw[A8e,A8e,hq.1];rfl
 exact⟨_,fun K=>key K⟩
def Ajp(n:Int):Bool:=decide (-2147483648≤n)&&decide (n≤2147483647)
def inB(v a b:Int):Bool:=decide (a≤v)&&decide (v≤b)
def Ama:List (List UInt8×Int×Int×Int):=[([],0,0,0),([110,117,109],1,0,1),([108,111,99,97,108],2,0,1),([112,117,116,108],2,1,0),([97,100,100,114,108],2,0,1),
 ([103,108,111,98,97,108],3,0,1),([112,117,116,103],3,1,0),([97,100,100,114,103],3,0,1),([115,116,97,116,105,99],4,0,1),([112,117,116,115],4,1,0),([97,100,100,114,115],4,0,1),
 ([112,114,111,99],5,0,1),([108,111,97,100],0,1,1),([115,116,111,114,101],0,2,0),([103,101,116,98],0,2,1),([112,117,116,98],0,3,0),([98,105,110],7,2,1),([117,110],8,1,1),
 ([115,116,97,99,107],2,0,0),([108,97,98,101,108],6,0,0),([106,117,109,112],6,0,0),([116,114,117,101],6,1,0),([102,97,108,115,101],6,1,0),([99,97,108,108],2,0,0),
 ([101,110,116,101,114],5,0,0),([114,101,116,117,114,110],0,1,0),([98,97,99,107],0,0,0),([114,101,115,117,108,116],6,1,0),([116,97,107,101],2,0,0),([115,119,105,116,99,104],6,1,0),([99,97,115,101],1,0,0)]
def kT(op:Int):List UInt8×Int×Int×Int:=Ama.getD op.toNat ([],0,0,0)
def Anv(op n m nd procs labels:Int):Bool :=
 if op=1 then Ajp n&&m==0
 else if op=2∨op=3∨op=4∨op=18∨op=23∨op=28 then inB n 0 4000&&m==0
 else if op=5∨op=6∨op=7 then inB n 0 199&&m==0
 else if op=8∨op=9∨op=10 then inB n 0 (nd-1)&&m==0
 else if op=11 then inB n 1 procs&&m==0
 else if op=16 then inB n 1 17&&m==0
 else if op=17 then (n==18||n==19)&&m==0
 else if op=19∨op=20∨op=21∨op=22∨op=27 then inB n 1 labels&&m==0
 else if op=24 then inB n 1 procs&&inB m 0 8
 else if op=29 then inB n 1 labels&&inB m 0 1000
 else if op=30 then Ajp n&&inB m 1 labels
 else n==0&&m==0
theorem Aw8{R:Type}(N:Nat)(v a b:Int)(K:Bool→Option R):Abg N v a b K=K (inB v a b):=by
 unfold Abg inB
 by_cases h:a≤v
 ·rw[if_pos (by simpa using h)];simp[h]
 ·rw[if_neg (by simpa using h)];simp[h]
theorem Aoy{R:Type}(N:Nat)(v a b:Int)(K:Bool→Option R):Aaq N v a b K=K (inB v a b):=by
 unfold Aaq inB
 by_cases h:a≤v
 ·rw[if_pos (by simpa using h)];simp[h]
 ·rw[if_neg (by simpa using h)];simp[h]
theorem Bqm{R:Type}(N:Nat)(v:Int)(K:Bool→Option R):Afb N v K=K (Ajp v):=by
 simp only[Afb,Bfq,Aw8];rfl
theorem ifT{R:Type}(a b:Bool)(K:Bool→Option R):(if a=true then K b else K false)=K (a&&b):=by cases a<;>rfl
theorem Ctk{R:Type}(N:Nat)(ok:Bool)(op n m:Int)(nm:List UInt8)(data:List (List UInt8×Bool×List Int))(ops:List (Int×Int×Int))(gl:List (Int×Int))(procs labels:Int)(K:Bool→Option R) :
  Abx N ok op n m nm data ops gl procs labels K=K (ok&&(if op=24 then inB m 0 8 else if op=29 then inB m 0 1000 else if op=30 then inB m 1 labels else m==0)):=by
 simp only[Abx,Ay4,Aw8,ifT,beq_iff_eq]
 repeat' split
 all_goals rfl
theorem Bni{op:Int}(h:1≤op∧op≤30):op=1∨op=2∨op=3∨op=4∨op=5∨op=6∨op=7∨op=8∨op=9∨op=10∨op=11∨op=12∨op=13∨op=14∨op=15∨op=16∨op=17∨op=18∨op=19∨op=20∨op=21∨op=22∨op=23∨op=24∨op=25∨op=26∨op=27∨op=28∨op=29∨op=30:=by omega
theorem Bzz{R:Type}(N:Nat)(op n m:Int)(nm:List UInt8)(data:List (List UInt8×Bool×List Int))(ops:List (Int×Int×Int))(gl:List (Int×Int))(procs labels:Int)(hd:data.length≤1000000)(h:1≤op∧op≤30)(K:Bool→Option R) :
  Adw N op n m nm data ops gl procs labels (kT op).1 (kT op).2.1 (kT op).2.2.1 (kT op).2.2.2 K=K (Anv op n m data.length procs labels):=by
 have hw:wi (len data-1)=(data.length:Int)-1:=by simp only[wi,len];rw[w64 (by omega)]
 rcases Bni h with rfl|rfl|rfl|rfl|rfl|rfl|rfl|rfl|rfl|rfl|rfl|rfl|rfl|rfl|rfl|rfl|rfl|rfl|rfl|rfl|rfl|rfl|rfl|rfl|rfl|rfl|rfl|rfl|rfl|rfl <;>
  simp only[Adw,A6s,Ctk,Aw8,Bqm,hw]<;>simp[kT,Ama,Anv]
 by_cases hn:n=18
 ·simp[hn]
 ·have:(n==18)=false:=by simpa using hn
  simp[hn,this]
theorem Clo{op n m nd procs labels:Int}(hd:nd≤2000)(hp:procs≤200)(hl:labels≤20000)(h:Anv op n m nd procs labels=true):Ajp n=true∧Ajp m=true:=by
 unfold Anv at h
 repeat' split at h
 all_goals
  simp only[inB,Ajp,Bool.and_eq_true,Bool.or_eq_true,decide_eq_true_eq,beq_iff_eq]at h ⊢
  omega
theorem Cj4{R:Type}(N:Nat)(op n m:Int)(nm:List UInt8)(data:List (List UInt8×Bool×List Int))(ops:List (Int×Int×Int))(gl:List (Int×Int))(procs labels:Int)(hd:data.length≤1000000)(h:1≤op∧op≤30)(hn:Ajp n=true)(hm:Ajp m=true)(K:Bool→Option R) :
  Aew N nm data ops gl procs labels op n m K=K (Anv op n m data.length procs labels):=by
 have hw:wi (len data-1)=(data.length:Int)-1:=by simp only[wi,len];rw[w64 (by omega)]
 have h1:inB n (-2147483648) 2147483647=true:=hn
 have h2:inB m (-2147483648) 2147483647=true:=hm
 have h0:inB op 1 30=true:=by simp[inB,h]
 simp only[Aew,Asz,Aoy,h0,h1,h2,Bool.not_true,Bool.false_eq_true,if_false]
 clear h0 h1 h2
 rcases Bni h with rfl|rfl|rfl|rfl|rfl|rfl|rfl|rfl|rfl|rfl|rfl|rfl|rfl|rfl|rfl|rfl|rfl|rfl|rfl|rfl|rfl|rfl|rfl|rfl|rfl|rfl|rfl|rfl|rfl|rfl <;>
  simp[Aat,Azr,Abm,Azq,Abl,Azp,Abh,Azo,Aar,Aoy,hw,Anv,hn,ifT]
 all_goals
  by_cases hz:m=0
  ·(try simp[hz])
   try
    by_cases hy:n=18
    ·simp[hy]
    ·have hy':(n==18)=false:=by simpa using hy
     simp[hy,hy']
  ·have hz':(m==0)=false:=by simpa using hz
   (try simp[hz,hz'])
theorem Bz0{R:Type}(N:Nat)(op n m:Int)(nm:List UInt8)(data:List (List UInt8×Bool×List Int))(ops:List (Int×Int×Int))(gl:List (Int×Int))(procs labels:Int)(hd:data.length≤2000)(hp:procs≤200)(hl:labels≤20000)(K:Bool→Option R) :
  Aew N nm data ops gl procs labels op n m K=K (inB op 1 30&&Anv op n m data.length procs labels):=by
 by_cases h:1≤op∧op≤30
 ·by_cases hw:Ajp n=true∧Ajp m=true
  ·rw[Cj4 N op n m nm data ops gl procs labels (by omega) h hw.1 hw.2]
   simp[inB,h]
  ·have hf:Anv op n m data.length procs labels=false:=by
    cases e:Anv op n m data.length procs labels with
    |false=>rfl
    |true=>exact absurd (Clo (by omega) hp hl e) hw
   have h0:inB op 1 30=true:=by simp[inB,h]
   have h1:inB n (-2147483648) 2147483647=Ajp n:=rfl
   have h2:inB m (-2147483648) 2147483647=Ajp m:=rfl
   rw[hf]
   simp only[Aew,Asz,Aoy,h0,h1,h2]
   by_cases h3:Ajp n=true
   ·have h4:Ajp m=false:=by
     cases e:Ajp m with
     |false=>rfl
     |true=>exact absurd ⟨h3,e⟩ hw
    simp[h3,h4]
   ·have h3:Ajp n=false:=by simpa using h3
    simp[h3]
 ·have h0:inB op 1 30=false:=by
   simp only[inB,Bool.and_eq_false_iff,decide_eq_false_iff_not];omega
  simp only[Aew,Asz,Aoy,h0]
  simp
abbrev Aa5:=List (List UInt8×Bool×List Int)
abbrev OpL:=List (Int×Int×Int)
abbrev Ab3:=List (Int×Int)
def Btd(d:List UInt8×Bool×List Int):Int:=d.2.2.length+(if d.2.1=true then (d.1.length+2)/2 else 0)
def Bo0(l:Aa5):Int:=(l.map Btd).sum
def A8f(data:Aa5)(ops:OpL)(procs labels:Int):Bool :=
 decide (40000<ops.length)||decide (2000<data.length)||decide (200<procs)||decide (20000<labels)||decide (7800<Bo0 data)
def A8g(l:Aa5):Prop:=∀d,d∈l→d.1.length≤140737488351232∧d.2.2.length≤140737488351232
theorem Cj5{R:Type}(N:Nat)(data:Aa5)(hd:A8g data)(hl:data.length≤2000)(K:Int→Option R):∀(m k i:Nat) (acc:Int),m<k→i+m=data.length→0≤acc→acc≤i*281474976710656→
  Aek N k acc data data.length i K=K (acc+Bo0 (data.drop i)):=by
 intro m
 induction m with
 |zero=>
  intro k i acc hk hi _ _
  obtain⟨k,rfl⟩:∃j,k=j+1:=⟨k-1,by omega⟩
  simp only[Aek,Avc]
  rw[if_neg (by simp;omega),List.drop_eq_nil_of_le (by omega)]
  simp[Bo0]
 |succ m ih0=>
  intro k i acc hk hi h0 ha
  obtain⟨k,rfl⟩:∃j,k=j+1:=⟨k-1,by omega⟩
  simp only[Aek,Avc]
  have hin:(0:Int)≤i∧(i:Int)<len data:=by simp only[len];omega
  rw[if_pos (by simp;omega),if_pos hin]
  have hlt:i<data.length:=by omega
  have hdr:data.drop i=data[i]::data.drop (i+1):=List.drop_eq_getElem_cons hlt
  have hg:data.getD (Int.toNat (i:Int)) (([]:List UInt8),(false,([]:List Int)))=data[i]:=by
   rw[List.getD_eq_getElem?_getD];simp[hlt]
  have hb:=hd data[i] (List.getElem_mem hlt)
  rw[hg,hdr]
  generalize data[i]=d at hb
  have hw:wi ((i:Int)+1)=((i+1:Nat):Int):=by simp only[wi];rw[w64 (by omega)];rfl
  have h1:wi (acc+((d.2.2.length:Nat):Int))=acc+d.2.2.length:=by simp only[wi];rw[w64 (by omega)]
  have h2:wi (((d.1.length:Nat):Int)+2)=d.1.length+2:=by simp only[wi];rw[w64 (by omega)]
  have h3:wi (Int.tdiv (((d.1.length:Nat):Int)+2) 2)=(d.1.length+2)/2:=by
   rw[Int.tdiv_eq_ediv_of_nonneg (by omega)];simp only[wi];rw[w64 (by omega)]
  have h4:wi (acc+((d.2.2.length:Nat):Int)+((d.1.length:Int)+2)/2)=acc+d.2.2.length+(d.1.length+2)/2:=by simp only[wi];rw[w64 (by omega)]
  rw[hw,h1,h2,h3,h4]
  have ih:=fun acc' h h'=>ih0 k (i+1) acc' (by omega) (by omega) h h'
  by_cases ht:d.2.1=true
  ·rw[if_pos ht,ih _ (by omega) (by omega)]
   simp only[Bo0,List.map_cons,List.sum_cons,Btd,if_pos ht]
   congr 1;omega
  ·rw[if_neg ht,ih _ (by omega) (by omega)]
   simp only[Bo0,List.map_cons,List.sum_cons,Btd,if_neg ht]
   congr 1;omega
theorem B7a{R:Type}(N:Nat)(nm:List UInt8)(data:Aa5)(ops:OpL)(gl:Ab3)(procs labels:Int)(hd:A8g data)(hN:2000<N)(K:Bool→Option R) :
  Aj0 N nm data ops gl procs labels K=K (A8f data ops procs labels):=by
 simp only[Aj0,Bbx,A8f,len]
 by_cases h1:(ops.length:Int) > 40000
 ·rw[if_pos (by simpa using h1)];simp[show 40000<ops.length by omega]
 rw[if_neg (by simpa using h1)]
 by_cases h2:(data.length:Int) > 2000
 ·rw[if_pos (by simpa using h2)];simp[show 2000<data.length by omega]
 rw[if_neg (by simpa using h2)]
 by_cases h3:procs > 200
 ·rw[if_pos (by simpa using h3)];simp[show 200<procs by omega]
 rw[if_neg (by simpa using h3)]
 by_cases h4:labels > 20000
 ·rw[if_pos (by simpa using h4)];simp[show 20000<labels by omega]
 rw[if_neg (by simpa using h4)]
 have:=Cj5 N data hd (by omega) (fun a=>K (decide (a > 7800))) data.length N 0 0 (by omega) (by omega) (by omega) (by omega)
 rw[show ((0:Nat):Int)=0 from rfl]at this
 rw[this]
 simp[show ¬40000<ops.length by omega,show ¬2000<data.length by omega,show ¬200<procs by omega,show ¬20000<labels by omega]
theorem Ce4{R:Type}(N:Nat)(nm:List UInt8)(data:Aa5)(ops:OpL)(gl:Ab3)(procs labels:Int)(hd:A8g data)(hl:data.length≤2000)(K:Int→Option R):∀(m k i:Nat) (acc:Int),m<k→i+m=data.length→0≤acc→acc≤i*281474976710656→
  Adr N k acc i nm data ops gl procs labels K=K (acc+Bo0 (data.drop i)):=by
 intro m
 induction m with
 |zero=>
  intro k i acc hk hi _ _
  obtain⟨k,rfl⟩:∃j,k=j+1:=⟨k-1,by omega⟩
  simp only[Adr,Ass]
  rw[if_neg (by simp[len];omega),List.drop_eq_nil_of_le (by omega)]
  simp[Bo0]
 |succ m ih0=>
  intro k i acc hk hi h0 ha
  obtain⟨k,rfl⟩:∃j,k=j+1:=⟨k-1,by omega⟩
  simp only[Adr,Ass]
  have hin:(0:Int)≤i∧(i:Int)<len data:=by simp only[len];omega
  rw[if_pos (by simp[len];omega),if_pos hin,if_pos hin,if_pos hin]
  have hlt:i<data.length:=by omega
  have hdr:data.drop i=data[i]::data.drop (i+1):=List.drop_eq_getElem_cons hlt
  have hg:data.getD (Int.toNat (i:Int)) (([]:List UInt8),(false,([]:List Int)))=data[i]:=by
   rw[List.getD_eq_getElem?_getD];simp[hlt]
  have hb:=hd data[i] (List.getElem_mem hlt)
  rw[hg,hdr]
  generalize data[i]=d at hb
  have hw:wi ((i:Int)+1)=((i+1:Nat):Int):=by simp only[wi];rw[w64 (by omega)];rfl
  have h1:wi (acc+((d.2.2.length:Nat):Int))=acc+d.2.2.length:=by simp only[wi];rw[w64 (by omega)]
  have h2:wi (((d.1.length:Nat):Int)+2)=d.1.length+2:=by simp only[wi];rw[w64 (by omega)]
  have h3:wi (Int.tdiv (((d.1.length:Nat):Int)+2) 2)=(d.1.length+2)/2:=by
   rw[Int.tdiv_eq_ediv_of_nonneg (by omega)];simp only[wi];rw[w64 (by omega)]
  have h4:wi (acc+((d.2.2.length:Nat):Int)+((d.1.length:Int)+2)/2)=acc+d.2.2.length+(d.1.length+2)/2:=by simp only[wi];rw[w64 (by omega)]
  rw[hw,h1,h2,h3,h4]
  have ih:=fun acc' h h'=>ih0 k (i+1) acc' (by omega) (by omega) h h'
  by_cases ht:d.2.1=true
  ·rw[if_pos ht,ih _ (by omega) (by omega)]
   simp only[Bo0,List.map_cons,List.sum_cons,Btd,if_pos ht]
   congr 1;omega
  ·rw[if_neg ht,ih _ (by omega) (by omega)]
   simp only[Bo0,List.map_cons,List.sum_cons,Btd,if_neg ht]
   congr 1;omega
theorem Bz1{R:Type}(N:Nat)(nm:List UInt8)(data:Aa5)(ops:OpL)(gl:Ab3)(procs labels:Int)(hd:A8g data)(hN:2000<N)(K:Bool→Option R) :
  Agd N nm data ops gl procs labels K=K (A8f data ops procs labels):=by
 simp only[Agd,A7l,A8f,len]
 by_cases h1:(ops.length:Int) > 40000
 ·rw[if_pos (by simpa using h1)];simp[show 40000<ops.length by omega]
 rw[if_neg (by simpa using h1)]
 by_cases h2:(data.length:Int) > 2000
 ·rw[if_pos (by simpa using h2)];simp[show 2000<data.length by omega]
 rw[if_neg (by simpa using h2)]
 by_cases h3:procs > 200
 ·rw[if_pos (by simpa using h3)];simp[show 200<procs by omega]
 rw[if_neg (by simpa using h3)]
 by_cases h4:labels > 20000
 ·rw[if_pos (by simpa using h4)];simp[show 20000<labels by omega]
 rw[if_neg (by simpa using h4)]
 have:=Ce4 N nm data ops gl procs labels hd (by omega) (fun a=>K (decide (a > 7800))) data.length N 0 0 (by omega) (by omega) (by omega) (by omega)
 rw[show ((0:Nat):Int)=0 from rfl]at this
 rw[this]
 simp[show ¬40000<ops.length by omega,show ¬2000<data.length by omega,show ¬200<procs by omega,show ¬20000<labels by omega]
theorem Ahx{α:Type}(l:List α)(d:α){i:Nat}(h:i<l.length):l.getD (Int.toNat (i:Int)) d=l[i]:=by
 rw[List.getD_eq_getElem?_getD];simp[h]
theorem Ac3{i:Nat}(h:i<4611686018427387904):wi ((i:Int)+1)=((i+1:Nat):Int):=by
 simp only[wi];rw[w64 (by omega)];rfl
theorem exk{k m:Nat}(h:m<k):∃j,k=j+1:=⟨k-1,by omega⟩
theorem Cgg{R:Type}(N:Nat)(s:List UInt8)(hs:s.length≤1099511627776)(a:List UInt8→Int→Option R)(d:List UInt8→List UInt8→Option R):∀(m k i:Nat) (b:List UInt8),m<k→i+m=s.length→b.length≤1+2*i→
  ∃b',b'.length≤1+2*s.length∧Aev N k s b i a d=if (s.drop i).any Ath then a [] 3 else d s b':=by
 intro m
 induction m with
 |zero=>
  intro k i b hk hi hb
  obtain⟨k,rfl⟩:=exk hk
  refine⟨b,by omega,?_⟩
  simp only[Aev,Aya]
  rw[if_neg (by simp[len];omega),List.drop_eq_nil_of_le (by omega)]
  simp
 |succ m ih=>
  intro k i b hk hi hb
  obtain⟨k,rfl⟩:=exk hk
  have hlt:i<s.length:=by omega
  have hin:(0:Int)≤i∧(i:Int)<len s:=by simp only[len];omega
  have hd:s.drop i=s[i]::s.drop (i+1):=List.drop_eq_getElem_cons hlt
  have hany:(s.drop i).any Ath=(Ath s[i]||(s.drop (i+1)).any Ath):=by rw[hd,List.any_cons]
  have hsub:List.drop (Int.toNat (i:Int)) (List.take (Int.toNat ((i+1:Nat):Int)) s)=[s[i]]:=by
   simp only[Int.toNat_natCast]
   rw[List.drop_take,show i+1-i=1 by omega,hd];rfl
  have hcut:∀{S:Type} (x y:S),(if (0:Int)≤((i+1:Nat):Int)∧((i+1:Nat):Int)≤len s then x else y)=x:=fun x y=>if_pos (by simp only[len];omega)
  have hcut2:∀{S:Type} (x y:S),(if (0:Int)≤(i:Int)∧(i:Int)≤((i+1:Nat):Int) then x else y)=x:=fun x y=>if_pos (by omega)
  have go:∀b2:List UInt8,b2.length≤1+2*(i+1)→Ath s[i]=false→(∃b',b'.length≤1+2*s.length∧Aev N k s b2 ((i+1:Nat):Int) a d=if (s.drop i).any Ath then a [] 3 else d s b'):=by
   intro b2 h2 hq
   obtain⟨b',h3,h4⟩:=ih k (i+1) b2 (by omega) (by omega) h2
   exact⟨b',h3,by rw[h4,hany,hq,Bool.false_or]⟩
  simp only[Aev,Aya]
  rw[if_pos (by simp[len];omega),if_pos hin,Ahx _ _ hlt,Ac3 (by omega),hsub]
  simp only[hcut,hcut2]
  generalize hc:s[i]=c at *
  have hcl:=c.toNat_lt
  have toc:∀n:Nat,n<256→(((c.toNat:Int)==(n:Int))=true ↔ c=UInt8.ofNat n):=by
   intro n hn
   rw[beq_iff_eq]
   constructor
   ·intro h
    have:c.toNat=n:=by omega
    rw[←this];simp
   ·intro h;subst h;simp[UInt8.toNat_ofNat'];omega
  have t10:(((c.toNat:Nat):Int)==10)=true ↔ c=10:=toc 10 (by decide)
  have t9:(((c.toNat:Nat):Int)==9)=true ↔ c=9:=toc 9 (by decide)
  have t42:(((c.toNat:Nat):Int)==42)=true ↔ c=42:=toc 42 (by decide)
  have t34:(((c.toNat:Nat):Int)==34)=true ↔ c=34:=toc 34 (by decide)
  by_cases h1:c=10
  ·rw[if_pos (t10.2 h1),if_pos (by omega)]
   exact go _ (by simp;omega) (by subst h1;rfl)
  rw[if_neg (fun h=>h1 (t10.1 h))]
  by_cases h2:c=9
  ·rw[if_pos (t9.2 h2),if_pos (by omega)]
   exact go _ (by simp;omega) (by subst h2;rfl)
  rw[if_neg (fun h=>h2 (t9.1 h))]
  by_cases h3:c=42
  ·rw[if_pos (t42.2 h3),if_pos (by simp),if_pos (by simp;omega)]
   exact go _ (by simp;omega) (by subst h3;rfl)
  rw[if_neg (fun h=>h3 (t42.1 h))]
  by_cases h4:c=34
  ·rw[if_pos (t34.2 h4),if_pos (by simp),if_pos (by simp;omega)]
   exact go _ (by simp;omega) (by subst h4;rfl)
  rw[if_neg (fun h=>h4 (t34.1 h))]
  have hq:Boz c=false:=by simp[Boz,h1,h2,h3,h4]
  by_cases h5:c.toNat<32
  ·rw[if_pos (by simp;omega)]
   exact⟨b,by omega,by rw[hany];simp[Ath,hq,h5]⟩
  rw[if_neg (by simp;omega)]
  by_cases h6:126<c.toNat
  ·rw[if_pos (by simp;omega)]
   exact⟨b,by omega,by rw[hany];simp[Ath,hq,h6]⟩
  rw[if_neg (by simp;omega),if_pos (by simp;omega)]
  exact go _ (by simp;omega) (by simp[Ath,hq,h5,h6])
theorem Bnj(N:Nat)(s:List UInt8)(hs:s.length≤1099511627776)(hN:s.length<N){R:Type}(K:List UInt8→Int→Option R):∃r,Acs N s K=K r (Ark s):=by
 simp only[Acs,Bcr]
 obtain⟨b',h1,h2⟩:=Cgg N s hs (fun c d=>K c d) (fun e a=>if (decide (len e > 100))=true then K [] 2 else if a.length+1≤70368744177664 then K (a++[34]) 0 else none) s.length N 0 [34] hN (by omega) (by simp)
 rw[show ((0:Nat):Int)=0 from rfl]at h2
 rw[h2]
 simp only[List.drop_zero,Ark]
 by_cases h3:s.any Ath=true
 ·exact⟨[],by simp only[if_pos h3]⟩
 simp only[if_neg h3]
 by_cases h4:100<s.length
 ·exact⟨[],by rw[if_pos (by simp[len];omega),if_pos h4]⟩
 ·exact⟨b'++[34],by rw[if_neg (by simp[len];omega),if_neg h4,if_pos (by omega)]⟩
def Bem(d:List UInt8×Bool×List Int):Bool :=
 if d.2.1=true then Ark d.1==0&&d.2.2.length==0 else d.1==([]:List UInt8)&&d.2.2.length != 0&&d.2.2.all Ajp
def Bnk(l:Aa5):Prop:=∀d,d∈l→d.1.length≤1099511627776∧d.2.2.length≤1099511627776
theorem Clp{R:Type}(N:Nat)(v:Int)(K:Bool→Option R):Agc N v K=K (!Ajp v):=by
 simp only[Agc,A6y,Bqm]
theorem Clq{R:Type}(N:Nat)(l:List Int)(hl:l.length≤1099511627776)(a:Int→Option R)(b:Option R):∀(m k i:Nat),m<k→i+m=l.length→
  ∃j:Nat,Abi N k l l.length i a b=if (l.drop i).all Ajp then b else a j:=by
 intro m
 induction m with
 |zero=>
  intro k i hk hi
  obtain⟨k,rfl⟩:=exk hk
  refine⟨0,?_⟩
  simp only[Abi,Alj]
  rw[if_neg (by simp;omega),List.drop_eq_nil_of_le (by omega)]
  simp
 |succ m ih=>
  intro k i hk hi
  obtain⟨k,rfl⟩:=exk hk
  have hlt:i<l.length:=by omega
  have hin:(0:Int)≤i∧(i:Int)<len l:=by simp only[len];omega
  have hd:l.drop i=l[i]::l.drop (i+1):=List.drop_eq_getElem_cons hlt
  simp only[Abi,Alj]
  rw[if_pos (by simp;omega),if_pos hin,Ahx _ _ hlt,Clp,Ac3 (by omega)]
  obtain⟨j,hj⟩:=ih k (i+1) (by omega) (by omega)
  rw[hj,hd,List.all_cons]
  by_cases h:Ajp l[i]=true
  ·exact⟨j,by simp[h]⟩
  ·exact⟨i,by simp[h]⟩
theorem Cgh{R:Type}(N:Nat)(l:List Int)(hl:l.length≤1099511627776)(hN:l.length<N)(K:Bool→Option R):Aa6 N l K=K (!l.all Ajp):=by
 simp only[Aa6,Anx,Adp,Apl,len]
 obtain⟨j,hj⟩:=Clq N l hl (fun a=>K (decide (a≥0))) (K (decide ((-1:Int)≥0))) l.length N 0 hN (by omega)
 rw[show ((0:Nat):Int)=0 from rfl]at hj
 rw[hj,List.drop_zero]
 by_cases h:l.all Ajp=true
 ·simp[h]
 ·have h':l.all Ajp=false:=by simpa using h
  simp only[h',Bool.false_eq_true,if_false,Bool.not_false]
  congr 1
theorem Cgi{R:Type}(N:Nat)(data:Aa5)(hd:Bnk data)(hl:data.length≤2000)(hN:∀d,d∈data→d.1.length<N∧d.2.2.length<N)(nm:List UInt8)(dat:Aa5)(ops:OpL)(gl:Ab3)(procs labels:Int)(a:Bool→Option R)(b:List UInt8→Aa5→OpL→Ab3→Int→Int→Option R) :
  ∀(m k i:Nat),m<k→i+m=data.length→
  Ad5 N k data data.length i nm dat ops gl procs labels a b=if (data.drop i).all Bem then b nm dat ops gl procs labels else a false:=by
 intro m
 induction m with
 |zero=>
  intro k i hk hi
  obtain⟨k,rfl⟩:=exk hk
  simp only[Ad5,Axt]
  rw[if_neg (by simp;omega),List.drop_eq_nil_of_le (by omega)]
  simp
 |succ m ih=>
  intro k i hk hi
  obtain⟨k,rfl⟩:=exk hk
  have hlt:i<data.length:=by omega
  have hin:(0:Int)≤i∧(i:Int)<len data:=by simp only[len];omega
  have hdr:data.drop i=data[i]::data.drop (i+1):=List.drop_eq_getElem_cons hlt
  simp only[Ad5,Axt]
  rw[if_pos (by simp;omega),if_pos hin,Ahx _ _ hlt,Ac3 (by omega),ih k (i+1) (by omega) (by omega),hdr,List.all_cons]
  have h1:=hd data[i] (List.getElem_mem hlt)
  have h2:=hN data[i] (List.getElem_mem hlt)
  generalize data[i]=d at h1 h2
  by_cases ht:d.2.1=true
  ·rw[if_pos ht]
   obtain⟨r,hr⟩:=Btc N d.1 h1.1 h2.1
   rw[hr]
   simp only[Bem,if_pos ht,len]
   by_cases hq:Ark d.1=0
   ·have hq':(Ark d.1 != 0)=false:=by simp[hq]
    have hq2:(Ark d.1==0)=true:=by simp[hq]
    rw[hq',hq2]
    by_cases hw:d.2.2.length=0
    ·have e1:(d.2.2.length==0)=true:=by simp[hw]
     have e2:decide (((d.2.2.length:Nat):Int) > 0)=false:=by simp[hw]
     simp only[e1,e2,Bool.false_eq_true,if_false,if_true,Bool.true_and,Bool.and_true,Bool.false_and,Bool.and_false,Bool.not_true,Bool.not_false]
    ·have e1:(d.2.2.length==0)=false:=by simp[hw]
     have e2:decide (((d.2.2.length:Nat):Int) > 0)=true:=by simp;omega
     simp only[e1,e2,Bool.false_eq_true,if_false,if_true,Bool.true_and,Bool.and_true,Bool.false_and,Bool.and_false,Bool.not_true,Bool.not_false]
   ·have hq':(Ark d.1 != 0)=true:=by simp[hq]
    have hq2:(Ark d.1==0)=false:=by simp[hq]
    rw[hq',hq2]
    simp only[Bool.false_eq_true,if_false,if_true,Bool.true_and,Bool.and_true,Bool.false_and,Bool.and_false,Bool.not_true,Bool.not_false]
  ·rw[if_neg ht]
   simp only[Bem,if_neg ht,len]
   by_cases hq:(d.1==([]:List UInt8))=true
   ·rw[hq]
    by_cases hw:d.2.2.length=0
    ·have e1:(((d.2.2.length:Nat):Int)==0)=true:=by simp[hw]
     have e2:(d.2.2.length != 0)=false:=by simp[hw]
     simp only[e1,e2,Bool.false_eq_true,if_false,if_true,Bool.true_and,Bool.and_true,Bool.false_and,Bool.and_false,Bool.not_true,Bool.not_false]
    ·have hw':(((d.2.2.length:Nat):Int)==0)=false:=by
      rw[beq_eq_false_iff_ne];omega
     have hw2:(d.2.2.length != 0)=true:=by simp[hw]
     rw[hw',hw2,Cgh N d.2.2 h1.2 h2.2]
     by_cases ha:d.2.2.all Ajp=true
     ·simp only[ha,Bool.false_eq_true,if_false,if_true,Bool.true_and,Bool.and_true,Bool.false_and,Bool.and_false,Bool.not_true,Bool.not_false]
     ·have ha':d.2.2.all Ajp=false:=by simpa using ha
      simp only[ha',Bool.false_eq_true,if_false,if_true,Bool.true_and,Bool.and_true,Bool.false_and,Bool.and_false,Bool.not_true,Bool.not_false]
   ·have hq':(d.1==([]:List UInt8))=false:=by simpa using hq
    rw[hq'];simp only[Bool.false_eq_true,if_false,if_true,Bool.true_and,Bool.and_true,Bool.false_and,Bool.and_false,Bool.not_true,Bool.not_false]
theorem Cj6{R:Type}(N:Nat)(i0:Int)(nm:List UInt8)(dat:Aa5)(ops:OpL)(gl:Ab3)(procs labels:Int)(tx:List UInt8)(is:Bool)(l:List Int)(hl:l.length≤1099511627776)(a:Bool→Option R)(b:Int→List UInt8→Aa5→OpL→Ab3→Int→Int→Option R):∀(m k i:Nat),m<k→i+m=l.length→
  Ab6 N k i0 i nm dat ops gl procs labels tx is l a b=if (l.drop i).all Ajp then b i0 nm dat ops gl procs labels else a false:=by
 intro m
 induction m with
 |zero=>
  intro k i hk hi
  obtain⟨k,rfl⟩:=exk hk
  simp only[Ab6,Avt]
  rw[if_neg (by simp[len];omega),List.drop_eq_nil_of_le (by omega)]
  simp
 |succ m ih=>
  intro k i hk hi
  obtain⟨k,rfl⟩:=exk hk
  have hlt:i<l.length:=by omega
  have hin:(0:Int)≤i∧(i:Int)<len l:=by simp only[len];omega
  have hd:l.drop i=l[i]::l.drop (i+1):=List.drop_eq_getElem_cons hlt
  simp only[Ab6,Avt]
  rw[if_pos (by simp[len];omega),if_pos hin,Ahx _ _ hlt,Aoy,Ac3 (by omega),ih k (i+1) (by omega) (by omega),hd,List.all_cons]
  have hw:inB l[i] (-2147483648) 2147483647=Ajp l[i]:=rfl
  rw[hw]
  by_cases h:Ajp l[i]=true
  ·simp only[h,Bool.not_true,Bool.false_eq_true,if_false,Bool.true_and]
  ·have h':Ajp l[i]=false:=by simpa using h
   simp only[h',Bool.not_false,if_true,Bool.false_and,Bool.false_eq_true,if_false]
theorem Cgj{R:Type}(N:Nat)(data:Aa5)(hd:Bnk data)(hl:data.length≤2000)(hN:∀d,d∈data→d.1.length<N∧d.2.2.length<N)(nm:List UInt8)(ops:OpL)(gl:Ab3)(procs labels:Int)(a:Bool→Option R)(b:List UInt8→Aa5→OpL→Ab3→Int→Int→Option R) :
  ∀(m k i:Nat),m<k→i+m=data.length→
  Acc N k i nm data ops gl procs labels a b=if (data.drop i).all Bem then b nm data ops gl procs labels else a false:=by
 intro m
 induction m with
 |zero=>
  intro k i hk hi
  obtain⟨k,rfl⟩:=exk hk
  simp only[Acc,Ayc]
  rw[if_neg (by simp[len];omega),List.drop_eq_nil_of_le (by omega)]
  simp
 |succ m ih=>
  intro k i hk hi
  obtain⟨k,rfl⟩:=exk hk
  have hlt:i<data.length:=by omega
  have hin:(0:Int)≤i∧(i:Int)<len data:=by simp only[len];omega
  have hdr:data.drop i=data[i]::data.drop (i+1):=List.drop_eq_getElem_cons hlt
  simp only[Acc,Ayc]
  rw[if_pos (by simp[len];omega),if_pos hin,Ahx _ _ hlt,hdr,List.all_cons]
  have h1:=hd data[i] (List.getElem_mem hlt)
  have h2:=hN data[i] (List.getElem_mem hlt)
  generalize data[i]=d at h1 h2
  by_cases ht:d.2.1=true
  ·rw[if_pos ht]
   obtain⟨r,hr⟩:=Bnj N d.1 h1.1 h2.1 (fun p c=>if (c != 0)=true then a false else if (decide (len d.2.2 > 0))=true then a false else Acc N k (wi ((i:Int)+1)) nm data ops gl procs labels a b)
   rw[hr,Ac3 (by omega),ih k (i+1) (by omega) (by omega)]
   simp only[Bem,if_pos ht,len]
   by_cases hq:Ark d.1=0
   ·have hq':(Ark d.1 != 0)=false:=by simp[hq]
    have hq2:(Ark d.1==0)=true:=by simp[hq]
    rw[hq',hq2]
    by_cases hw:d.2.2.length=0
    ·have e1:(d.2.2.length==0)=true:=by simp[hw]
     have e2:decide (((d.2.2.length:Nat):Int) > 0)=false:=by simp[hw]
     simp only[e1,e2,Bool.false_eq_true,if_false,Bool.true_and]
    ·have e1:(d.2.2.length==0)=false:=by simp[hw]
     have e2:decide (((d.2.2.length:Nat):Int) > 0)=true:=by simp;omega
     simp only[e1,e2,Bool.false_eq_true,if_false,if_true,Bool.and_false,Bool.false_and]
   ·have hq':(Ark d.1 != 0)=true:=by simp[hq]
    have hq2:(Ark d.1==0)=false:=by simp[hq]
    rw[hq',hq2]
    simp only[if_true,Bool.false_and,Bool.false_eq_true,if_false]
  ·rw[if_neg ht]
   simp only[Bem,if_neg ht,len]
   by_cases hq:(d.1==([]:List UInt8))=true
   ·rw[hq]
    by_cases hw:d.2.2.length=0
    ·have e1:(((d.2.2.length:Nat):Int)==0)=true:=by simp[hw]
     have e2:(d.2.2.length != 0)=false:=by simp[hw]
     simp only[e1,e2,Bool.not_true,Bool.false_eq_true,if_false,if_true,Bool.and_false,Bool.false_and]
    ·have hw':(((d.2.2.length:Nat):Int)==0)=false:=by rw[beq_eq_false_iff_ne];omega
     have hw2:(d.2.2.length != 0)=true:=by simp[hw]
     have hr:=Cj6 N i nm data ops gl procs labels d.1 d.2.1 d.2.2 h1.2 (fun e=>a e) (fun f g h j l n o=>Acc N k (wi (f+1)) g h j l n o a b) d.2.2.length N 0 h2.2 (by omega)
     rw[show ((0:Nat):Int)=0 from rfl]at hr
     rw[hw',hw2,hr,List.drop_zero,Ac3 (by omega),ih k (i+1) (by omega) (by omega)]
     by_cases ha:d.2.2.all Ajp=true
     ·simp only[ha,Bool.not_true,Bool.false_eq_true,if_false,if_true,Bool.true_and]
     ·have ha':d.2.2.all Ajp=false:=by simpa using ha
      simp only[ha',Bool.not_true,Bool.false_eq_true,if_false,Bool.and_false,Bool.false_and]
   ·have hq':(d.1==([]:List UInt8))=false:=by simpa using hq
    rw[hq'];simp only[Bool.not_false,if_true,Bool.false_and,Bool.false_eq_true,if_false]
theorem Cso{S:Type}(a b c d:Bool)(x y:S):(if (!a)=true then y else if b=true then y else if (!c)=true then y else if d=true then x else y)=if (a && !b&&c&&d)=true then x else y:=by
 cases a<;>cases b<;>cases c<;>cases d<;>rfl
def Bld(procs:Int):List Int→Ab3→Bool
 | _,[]=>true
 |seen,e::r=>inB e.1 1 199 && !seen.contains e.1&&inB e.2 1 procs&&Bld procs (e.1::seen) r
theorem Clr(k k':Int)(l:List (Int×Bool)):(A1n (kt:=.int .i64) (et:=.bool) k (A26 (kt:=.int .i64) (et:=.bool) k' true l)).getD false=(k==k'||(A1n (kt:=.int .i64) (et:=.bool) k l).getD false):=by
 induction l with
 |nil=>
  simp only[A26,A1n,Ty.beq]
  cases h:(k==k')<;>simp
 |cons x l ih=>
  obtain⟨a,b⟩:=x
  simp only[A26,Ty.beq]
  cases h1:(k'==a) with
  |true=>
   have:=beq_iff_eq.1 h1
   subst this
   simp only[A1n,Ty.beq]
   cases h:(k==k')<;>simp
  |false=>
   simp only[A1n,Ty.beq]
   cases h2:(k==a) with
   |true=>
    have:=beq_iff_eq.1 h2
    subst this
    have:(k==k')=false:=by
     rw[beq_eq_false_iff_ne]at h1 ⊢
     exact fun h=>h1 h.symm
    simp[this]
   |false=>simpa using ih
theorem Cnw{R:Type}(N:Nat)(gl:Ab3)(hl:gl.length≤1099511627776)(nm:List UInt8)(dat:Aa5)(ops:OpL)(gl2:Ab3)(procs labels:Int)(a:Bool→Option R)(b:Option R) :
  ∀(m k i:Nat) (seen:List Int) (mp:List (Int×Bool)),m<k→i+m=gl.length→(∀x,(A1n (kt:=.int .i64) (et:=.bool) x mp).getD false=seen.contains x)→
  Adh N k gl gl.length i nm dat ops gl2 procs labels mp a b=if Bld procs seen (gl.drop i) then b else a false:=by
 intro m
 induction m with
 |zero=>
  intro k i seen mp hk hi hm
  obtain⟨k,rfl⟩:=exk hk
  simp only[Adh,Avh]
  rw[if_neg (by simp;omega),List.drop_eq_nil_of_le (by omega)]
  simp[Bld]
 |succ m ih=>
  intro k i seen mp hk hi hm
  obtain⟨k,rfl⟩:=exk hk
  have hlt:i<gl.length:=by omega
  have hin:(0:Int)≤i∧(i:Int)<len gl:=by simp only[len];omega
  have hd:gl.drop i=gl[i]::gl.drop (i+1):=List.drop_eq_getElem_cons hlt
  simp only[Adh,Avh]
  rw[if_pos (by simp;omega),if_pos hin,Ahx _ _ hlt,Aw8,Aw8,Ac3 (by omega),hd]
  rw[ih k (i+1) (gl[i].1::seen) _ (by omega) (by omega) (fun x=>by rw[Clr,hm,List.contains_cons])]
  rw[hm]
  simp only[Bld]
  exact Cso _ _ _ _ _ _
theorem Cnx{R:Type}(N:Nat)(i:Nat)(nm:List UInt8)(dat:Aa5)(ops:OpL)(gl:Ab3)(procs labels g1 g2:Int)(hl:gl.length≤1099511627776)(hi:i≤gl.length)(a:Bool→Option R)(b:Int→List UInt8→Aa5→OpL→Ab3→Int→Int→Option R) :
  ∀(m k j:Nat),m<k→j+m=i→
  Ab7 N k i j nm dat ops gl procs labels g1 g2 a b=if ((gl.take i).drop j).any (fun e=>e.1==g1) then a false else b i nm dat ops gl procs labels:=by
 intro m
 induction m with
 |zero=>
  intro k j hk hj
  obtain⟨k,rfl⟩:=exk hk
  simp only[Ab7,Avu]
  rw[if_neg (by simp;omega),List.drop_eq_nil_of_le (by simp;omega)]
  simp
 |succ m ih=>
  intro k j hk hj
  obtain⟨k,rfl⟩:=exk hk
  have hlt:j<gl.length:=by omega
  have hin:(0:Int)≤j∧(j:Int)<len gl:=by simp only[len];omega
  have hlt2:j<(gl.take i).length:=by simp;omega
  have hd:(gl.take i).drop j=gl[j]::(gl.take i).drop (j+1):=by
   rw[List.drop_eq_getElem_cons hlt2];simp
  simp only[Ab7,Avu]
  rw[if_pos (by simp;omega),if_pos hin,Ahx _ _ hlt,Ac3 (by omega),ih k (j+1) (by omega) (by omega),hd,List.any_cons]
  by_cases h:(gl[j].1==g1)=true
  ·simp only[h,if_true,Bool.true_or]
  ·have h':(gl[j].1==g1)=false:=by simpa using h
   simp only[h',Bool.false_eq_true,if_false,Bool.false_or]
theorem Cpv{S:Type}(a b c d:Bool)(x y:S):(if (!a)=true then y else if (!c)=true then y else if b=true then y else if d=true then x else y)=if (a && !b&&c&&d)=true then x else y:=by
 cases a<;>cases b<;>cases c<;>cases d<;>rfl
theorem Cls{R:Type}(N:Nat)(gl:Ab3)(hl:gl.length<N)(hl2:gl.length≤1099511627776)(nm:List UInt8)(dat:Aa5)(ops:OpL)(procs labels:Int)(a:Bool→Option R)(b:List UInt8→Aa5→OpL→Ab3→Int→Int→Option R) :
  ∀(m k i:Nat) (seen:List Int),m<k→i+m=gl.length→(∀x,(gl.take i).any (fun e=>e.1==x)=seen.contains x)→
  Abu N k i nm dat ops gl procs labels a b=if Bld procs seen (gl.drop i) then b nm dat ops gl procs labels else a false:=by
 intro m
 induction m with
 |zero=>
  intro k i seen hk hi hm
  obtain⟨k,rfl⟩:=exk hk
  simp only[Abu,Avv]
  rw[if_neg (by simp[len];omega),List.drop_eq_nil_of_le (by omega)]
  simp[Bld]
 |succ m ih=>
  intro k i seen hk hi hm
  obtain⟨k,rfl⟩:=exk hk
  have hlt:i<gl.length:=by omega
  have hin:(0:Int)≤i∧(i:Int)<len gl:=by simp only[len];omega
  have hd:gl.drop i=gl[i]::gl.drop (i+1):=List.drop_eq_getElem_cons hlt
  simp only[Abu,Avv]
  rw[if_pos (by simp[len];omega),if_pos hin,Ahx _ _ hlt,Aoy,Aoy]
  have hdup:=Cnx N i nm dat ops gl procs labels gl[i].1 gl[i].2 hl2 (by omega) (fun c=>a c) (fun d f g h j l n=>Abu N k (wi (d+1)) f g h j l n a b) i N 0 (by omega) (by omega)
  rw[show ((0:Nat):Int)=0 from rfl]at hdup
  rw[hdup,List.drop_zero,Ac3 (by omega),hm,hd]
  rw[ih k (i+1) (gl[i].1::seen) (by omega) (by omega) (fun x=>by
   rw[List.take_succ_eq_append_getElem hlt,List.any_append,hm,List.contains_cons]
   simp only[List.any_cons,List.any_nil,Bool.or_false]
   rw[Bool.or_comm]
   congr 1
   exact BEq.comm)]
  simp only[Bld]
  exact Cpv _ _ _ _ _ _
def Bif(data:Aa5)(gl:Ab3)(procs:Int):Bool:=data.all Bem&&Bld procs [] gl
theorem B7b{R:Type}(N:Nat)(nm:List UInt8)(data:Aa5)(ops:OpL)(gl:Ab3)(procs labels:Int)(hd:Bnk data)(hl:data.length≤2000)(hN:∀d,d∈data→d.1.length<N∧d.2.2.length<N)(hN2:2000<N)(hg:gl.length<N)(hg2:gl.length≤1099511627776)(K:Bool→Option R) :
  Aeo N nm data ops gl procs labels K=K (Bif data gl procs):=by
 simp only[Aeo,Bb8,len]
 have h1:=Cgi N data hd hl hN nm data ops gl procs labels (fun c=>K c) (fun e f g a h i=>Adh N N a ((a.length:Nat):Int) 0 e f g a h i [] (fun b=>K b) (K true)) data.length N 0 (by omega) (by omega)
 have h2:=Cnw N gl hg2 nm data ops gl procs labels (fun b=>K b) (K true) gl.length N 0 [] [] hg (by omega) (fun x=>rfl)
 rw[show ((0:Nat):Int)=0 from rfl]at h1 h2
 rw[h1,List.drop_zero]
 simp only[h2,List.drop_zero,Bif]
 cases data.all Bem<;>cases Bld procs [] gl<;>rfl
theorem B7c{R:Type}(N:Nat)(nm:List UInt8)(data:Aa5)(ops:OpL)(gl:Ab3)(procs labels:Int)(hd:Bnk data)(hl:data.length≤2000)(hN:∀d,d∈data→d.1.length<N∧d.2.2.length<N)(hN2:2000<N)(hg:gl.length<N)(hg2:gl.length≤1099511627776)(hn:nm.length<N)(hn2:nm.length≤1099511627776)(K:Bool→Option R) :
  Ah0 N nm data ops gl procs labels K=K (Bif data gl procs&&Ark nm==0):=by
 simp only[Ah0,Bct]
 have h1:=Cgj N data hd hl hN nm ops gl procs labels (fun f=>K f) (fun g h i j l m=>Abu N N 0 g h i j l m (fun b=>K b) fun c n o p q s=>Acs N c fun e a=>K (a==0)) data.length N 0 (by omega) (by omega)
 have h2:=Cls N gl hg hg2 nm data ops procs labels (fun b=>K b) (fun c n o p q s=>Acs N c fun e a=>K (a==0)) gl.length N 0 [] hg (by omega) (fun x=>rfl)
 obtain⟨r,h3⟩:=Bnj N nm hn2 hn (fun e a=>K (a==0))
 rw[show ((0:Nat):Int)=0 from rfl]at h1 h2
 rw[h1,List.drop_zero]
 simp only[h2,List.drop_zero,Bif,h3]
 cases data.all Bem<;>cases Bld procs [] gl<;>rfl
def Acg(l:OpL)(i:Nat):Int×Int×Int:=l.getD i (0,0,0)
def Ahu(op:Int):Bool:=op != 20&&op != 25&&op != 26&&op != 27&&op != 29&&op != 30
def Ad3:OpL→Option Int
 |[]=>none
 |o::_=>some o.1
def A0s(o:Int×Int×Int)(r:OpL):Bool :=
 (o.1 != 19||(Ad3 r==some 18||Ad3 r==some 28||Ad3 r==some 19))&&(!Ahu o.1||(Ad3 r != none&&Ad3 r != some 24))
def Ae8:Nat→OpL→Bool
 |c,[]=>c==0
 |c+1,o::r=>o.1==30&&Ae8 c r
 |0,o::r=>o.1 != 30&&(if o.1=29 then Ae8 o.2.2.toNat r else A0s o r&&Ae8 0 r)
def Anz(c:Nat)(s:OpL):Bool:=decide (c≤s.length)&&(s.take c).all fun o=>o.1==30
theorem B3m:∀(c:Nat) (s:OpL),Ae8 c s=(Anz c s&&Ae8 0 (s.drop c))
 |0,s=>by simp[Anz]
 |c+1,[]=>by simp[Anz,Ae8]
 |c+1,o::r=>by
  have h:Anz (c+1) (o::r)=(o.1==30&&Anz c r):=by
   simp only[Anz,List.length_cons,List.take_succ_cons,List.all_cons]
   have:decide (c+1≤r.length+1)=decide (c≤r.length):=by simp
   rw[this]
   cases decide (c≤r.length)<;>cases (o.1==30)<;>simp
  rw[Ae8,B3m c r,h,List.drop_succ_cons,Bool.and_assoc]
theorem B8m{α:Type}(l:List α)(i j:Nat)(d:α):(l.drop i).getD j d=l.getD (i+j) d:=by
 simp[List.getD_eq_getElem?_getD]
theorem Cgk(l:OpL)(i:Nat):Ad3 (l.drop i)=if i<l.length then some (l.getD i (0,0,0)).1 else none:=by
 by_cases h:i<l.length
 ·rw[if_pos h,List.drop_eq_getElem_cons h]
  simp[Ad3,h]
 ·rw[if_neg h,List.drop_eq_nil_of_le (by omega)];rfl
theorem Clt{R:Type}(N:Nat)(l:OpL)(i M:Nat)(hl:l.length≤1099511627776)(hM:M≤1000)(hi:i<l.length)(a:Bool→Option R)(b:OpL→Int→Option R) :
  ∀(m k j:Nat),m<k→j+m=M→
  Acv N k l i M j a b=if Anz (M-j) (l.drop (i+1+j)) then b l i else a false:=by
 intro m
 induction m with
 |zero=>
  intro k j hk hj
  obtain⟨k,rfl⟩:=exk hk
  simp only[Acv,Avg]
  rw[if_neg (by simp;omega),show M-j=0 by omega]
  simp[Anz]
 |succ m ih=>
  intro k j hk hj
  obtain⟨k,rfl⟩:=exk hk
  simp only[Acv,Avg]
  rw[if_pos (by simp;omega),Ac3 (by omega)]
  have e1:wi (((i+1:Nat):Int)+(j:Int))=((i+1+j:Nat):Int):=by simp only[wi];rw[w64 (by omega)];omega
  rw[e1,Ac3 (by omega)]
  simp only[len]
  by_cases h:i+1+j<l.length
  ·rw[if_neg (by simp;omega),if_pos (by omega),Ahx _ _ h,ih k (j+1) (by omega) (by omega)]
   have hd:l.drop (i+1+j)=l[i+1+j]::l.drop (i+1+(j+1)):=List.drop_eq_getElem_cons h
   have hc:Anz (M-j) (l.drop (i+1+j))=(l[i+1+j].1==30&&Anz (M-(j+1)) (l.drop (i+1+(j+1)))):=by
    rw[hd,show M-j=(M-(j+1))+1 by omega]
    simp only[Anz,List.length_cons,List.take_succ_cons,List.all_cons]
    have:decide (M-(j+1)+1≤(l.drop (i+1+(j+1))).length+1)=decide (M-(j+1)≤(l.drop (i+1+(j+1))).length):=by simp
    rw[this]
    cases decide (M-(j+1)≤(l.drop (i+1+(j+1))).length)<;>cases (l[i+1+j].1==30)<;>simp
   rw[hc]
   by_cases h30:l[i+1+j].1=30
   ·simp[h30]
   ·have h2:(l[i+1+j].1==30)=false:=by simpa using h30
    have h3:(l[i+1+j].1 != 30)=true:=by simpa using h30
    simp only[h2,h3,if_true,Bool.false_and,Bool.false_eq_true,if_false]
  ·rw[if_pos (by simp;omega)]
   have hc:Anz (M-j) (l.drop (i+1+j))=false:=by
    simp only[Anz,Bool.and_eq_false_iff]
    left;simp;omega
   rw[hc];simp
def As9(l:OpL)(i:Nat):Bool :=
 let o:=Acg l i
 if o.1=20∨o.1=25∨o.1=26∨o.1=27 then true
 else if o.1=29 then o.2.2==0
 else if o.1=30 then decide (i+1=l.length)||(Acg l (i+1)).1 != 30
 else false
theorem Bqn{R:Type}(N:Nat)(l:OpL)(i:Nat)(hl:l.length≤1099511627776)(hi:i<l.length)(K:Bool→Option R):Abz N l i K=K (As9 l i):=by
 simp only[Abz,Bfz,Ae5,As9,Acg]
 have hin:(0:Int)≤i∧(i:Int)<len l:=by simp only[len];omega
 rw[if_pos hin,show Int.toNat (i:Int)=i from by simp]
 obtain⟨o,ho⟩:∃o,l.getD i (0,0,0)=o:=⟨_,rfl⟩
 simp only[ho,if_pos hin]
 by_cases h1:o.1=20
 ·simp[h1]
 by_cases h2:o.1=25
 ·simp[h2]
 by_cases h3:o.1=26
 ·simp[h3]
 by_cases h4:o.1=27
 ·simp[h4]
 rw[if_neg (by simpa using h1),if_neg (by simpa using h2),if_neg (by simpa using h3),if_neg (by simpa using h4),if_neg (show ¬(o.1=20∨o.1=25∨o.1=26∨o.1=27) by omega)]
 by_cases h5:o.1=29
 ·rw[if_pos (by simpa using h5),if_pos h5]
 rw[if_neg (by simpa using h5),if_neg h5]
 by_cases h6:o.1=30
 ·rw[if_pos (by simpa using h6),if_pos h6,Ac3 (by omega)]
  by_cases h7:i+1=l.length
  ·rw[if_pos (by simp only[len,beq_iff_eq];omega)];simp[h7]
  ·rw[if_neg (by simp only[len,beq_iff_eq];omega),if_pos (by simp only[len];omega)]
   simp[h7]
 ·rw[if_neg (by simpa using h6),if_neg h6]
theorem B3n{R:Type}(N:Nat)(l:OpL)(i:Nat)(last:Bool)(hl:l.length≤1099511627776)(hi:i<l.length)(hlast:last=decide (i+1=l.length))(a:Bool→Option R)(b:OpL→Int→Option R) :
  Abr N l i last a b=if (last||(Acg l (i+1)).1==24) && !As9 l i then a false else b l i:=by
 simp only[Abr,A3o,Bqn N l i hl hi]
 cases last with
 |true=>
  simp only[if_true,Bool.true_or,Bool.true_and]
 |false=>
  have hne:i+1≠l.length:=by simpa using hlast.symm
  simp only[Bool.false_eq_true,if_false,Bool.false_or]
  rw[Ac3 (by omega),if_pos (by simp only[len];omega)]
  have:l.getD (Int.toNat ((i+1:Nat):Int)) (0,0,0)=Acg l (i+1):=by simp[Acg]
  rw[this]
  cases h:((Acg l (i+1)).1==24) with
  |true=>simp only[if_true,Bool.true_and]
  |false=>simp only[Bool.false_eq_true,if_false,Bool.false_and]
theorem Bnl{l:OpL}{i:Nat}(h:i<l.length):Acg l i=l[i]:=by simp[Acg,List.getD_eq_getElem?_getD,h]
theorem Bte{l:OpL}{i:Nat}:Ad3 (l.drop i)=if i<l.length then some (Acg l i).1 else none:=by
 rw[Cgk];rfl
theorem Clu{c:Nat}{s:OpL}(h:Anz c s=true):c≤s.length∧∀j,j<c→(Acg s j).1=30:=by
 simp only[Anz,Bool.and_eq_true,decide_eq_true_eq,List.all_eq_true,beq_iff_eq]at h
 refine⟨h.1,fun j hj=>?_⟩
 have hjl:j<s.length:=by omega
 rw[Bnl hjl]
 exact h.2 _ (by
  rw[List.mem_take_iff_getElem]
  exact⟨j,by omega,rfl⟩)
theorem Cj7{R:Type}(N:Nat)(l:OpL)(hl:l.length≤1099511627776)(hN:1000<N)(hM:∀o,o∈l→o.1=29→0≤o.2.2∧o.2.2≤1000)(d:Bool→Option R)(e:OpL→Option R) :
  ∀(k i:Nat),i≤l.length→l.length-i<k→Acl N k l i d e=if Ae8 0 (l.drop i) then e l else d false:=by
 intro k
 induction k with
 |zero=>intro i _ h;omega
 |succ k ih=>
  intro i hi hk
  simp only[Acl,A6v]
  by_cases hlt:i<l.length
  case neg=>
   rw[if_neg (by simp[len];omega),List.drop_eq_nil_of_le (by omega)]
   simp[Ae8]
  have hin:(0:Int)≤i∧(i:Int)<len l:=by simp only[len];omega
  have hd:l.drop i=l[i]::l.drop (i+1):=List.drop_eq_getElem_cons hlt
  have hM':=hM l[i] (List.getElem_mem hlt)
  have hoi:Acg l i=l[i]:=Bnl hlt
  rw[if_pos (by simp[len];omega),if_pos hin,Ahx _ _ hlt,Ac3 (by omega),hd]
  simp only[if_pos hin]
  obtain⟨o,ho⟩:∃o,l[i]=o:=⟨_,rfl⟩
  simp only[ho]at hM' hoi ⊢
  by_cases h29:o.1=29
  ·-- a switch
   rw[if_pos (by simpa using h29)]
   obtain⟨M,hMe⟩:=Int.eq_ofNat_of_zero_le (hM' h29).1
   have hMle:M≤1000:=by have:=(hM' h29).2;omega
   have hcl:=Clt N l i M hl hMle hlt (fun m=>d m) (fun c b=>
    if 0≤b∧b<len c then
     if (!wi (wi (b+(List.getD c (Int.toNat b) (0,0,0)).2.2)+1)==len c)=true then
      if 0≤wi (wi (b+(List.getD c (Int.toNat b) (0,0,0)).2.2)+1)∧wi (wi (b+(List.getD c (Int.toNat b) (0,0,0)).2.2)+1)<len c then
       if ((List.getD c (Int.toNat (wi (wi (b+(List.getD c (Int.toNat b) (0,0,0)).2.2)+1))) (0,0,0)).1==30)=true then d false
       else Abr N c (wi (b+(List.getD c (Int.toNat b) (0,0,0)).2.2)) (wi (wi (b+(List.getD c (Int.toNat b) (0,0,0)).2.2)+1)==len c) (fun f=>d f) fun g j=>Acl N k g (wi (j+1)) d e
      else none
     else Abr N c (wi (b+(List.getD c (Int.toNat b) (0,0,0)).2.2)) (wi (wi (b+(List.getD c (Int.toNat b) (0,0,0)).2.2)+1)==len c) (fun n=>d n) fun p q=>Acl N k p (wi (q+1)) d e
    else none) M N 0 (by omega) (by omega)
   rw[show ((0:Nat):Int)=0 from rfl]at hcl
   rw[hMe,hcl,Nat.sub_zero,Nat.add_zero]
   have hord:Ae8 0 (o::l.drop (i+1))=(Anz M (l.drop (i+1))&&Ae8 0 (l.drop (i+1+M))):=by
    rw[Ae8,if_pos h29,hMe,Int.toNat_natCast,B3m,List.drop_drop]
    simp[h29]
   rw[hord]
   by_cases hc:Anz M (l.drop (i+1))=true
   case neg=>
    have hc':Anz M (l.drop (i+1))=false:=by simpa using hc
    simp only[hc',Bool.false_eq_true,if_false,Bool.false_and]
   obtain⟨c1,c2⟩:=Clu hc
   have c1:M≤l.length-(i+1):=by simpa using c1
   simp only[hc,if_true,Bool.true_and,if_pos hin,Ahx _ _ hlt,ho,hMe]
   have e1:wi ((i:Int)+(M:Int))=((i+M:Nat):Int):=by simp only[wi];rw[w64 (by omega)];omega
   rw[e1,Ac3 (by omega)]
   have hends:(¬i+M+1<l.length∨(Acg l (i+M+1)).1≠30)→As9 l (i+M)=true:=by
    intro hh
    unfold As9
    cases M with
    |zero=>
     rw[Nat.add_zero]at hh ⊢
     simp only[hoi,h29,hMe]
     simp
    |succ M=>
     have h30:(Acg l (i+(M+1))).1=30:=by
      have:=c2 M (by omega)
      unfold Acg at this ⊢
      rw[B8m]at this
      rw[show i+(M+1)=i+1+M by omega];exact this
     simp only[h30]
     rcases hh with hh|hh
     ·simp;omega
     ·simp;omega
   have fin:∀last:Bool,last=decide (i+M+1=l.length)→(¬i+M+1<l.length∨(Acg l (i+M+1)).1≠30)→Abr N l ((i+M:Nat):Int) last (fun f=>d f) (fun g j=>Acl N k g (wi (j+1)) d e)=if Ae8 0 (l.drop (i+1+M))=true then e l else d false:=by
    intro last hlast hh
    rw[B3n N l (i+M) last hl (by omega) hlast,hends hh]
    simp only[Bool.not_true,Bool.and_false,Bool.false_eq_true,if_false]
    rw[Ac3 (by omega),ih (i+M+1) (by omega) (by omega),show i+M+1=i+1+M by omega]
   by_cases hlast:i+M+1=l.length
   ·have hb:((((i+M+1:Nat):Int))==len l)=true:=by simp only[len,beq_iff_eq];omega
    rw[hb]
    simp only[Bool.not_true,Bool.false_eq_true,if_false]
    exact fin true (by simp[hlast]) (.inl (by omega))
   ·have hb:((((i+M+1:Nat):Int))==len l)=false:=by
     rw[beq_eq_false_iff_ne];simp only[len];omega
    rw[hb]
    simp only[Bool.not_false,if_true]
    rw[if_pos (by simp only[len];omega)]
    have hg:l.getD (Int.toNat ((i+M+1:Nat):Int)) (0,0,0)=Acg l (i+M+1):=by
     unfold Acg;rw[Int.toNat_natCast]
    rw[hg]
    by_cases h30:(Acg l (i+M+1)).1=30
    ·rw[if_pos (by simpa using h30)]
     have hlt2:i+1+M<l.length:=by omega
     have:Ae8 0 (l.drop (i+1+M))=false:=by
      rw[List.drop_eq_getElem_cons hlt2,Ae8,←Bnl hlt2,show i+1+M=i+M+1 by omega]
      simp[h30]
     rw[this];simp
    ·rw[if_neg (by simpa using h30)]
     exact fin false (by simp[hlast]) (.inr h30)
  rw[if_neg (by simpa using h29)]
  by_cases h30:o.1=30
  ·rw[if_pos (by simpa using h30)]
   simp[Ae8,h30]
  rw[if_neg (by simpa using h30)]
  have hord:Ae8 0 (o::l.drop (i+1))=(A0s o (l.drop (i+1))&&Ae8 0 (l.drop (i+1))):=by
   rw[Ae8,if_neg h29];simp[h30]
  rw[hord]
  have hhead:Ad3 (l.drop (i+1))=if i+1<l.length then some (Acg l (i+1)).1 else none:=Bte
  have hlb:((((i+1:Nat):Int))==len l)=decide (i+1=l.length):=by
   rw[Bool.eq_iff_iff];simp only[len,beq_iff_eq,decide_eq_true_eq];omega
  have hends:As9 l i = !Ahu o.1:=by
   unfold As9 Ahu
   rw[hoi]
   by_cases a1:o.1=20
   ·simp[a1]
   by_cases a2:o.1=25
   ·simp[a2]
   by_cases a3:o.1=26
   ·simp[a3]
   by_cases a4:o.1=27
   ·simp[a4]
   have b1:(o.1 != 20)=true:=by simpa using a1
   have b2:(o.1 != 25)=true:=by simpa using a2
   have b3:(o.1 != 26)=true:=by simpa using a3
   have b4:(o.1 != 27)=true:=by simpa using a4
   have b5:(o.1 != 29)=true:=by simpa using h29
   have b6:(o.1 != 30)=true:=by simpa using h30
   rw[if_neg (by omega),if_neg h29,if_neg h30,b1,b2,b3,b4,b5,b6];rfl
  have fin:o.1≠19∨(i+1<l.length∧((Acg l (i+1)).1=18∨(Acg l (i+1)).1=28∨(Acg l (i+1)).1=19))→
    Abr N l (i:Int) (decide (i+1=l.length)) (fun r=>d r) (fun s t=>Acl N k s (wi (t+1)) d e)=if (A0s o (l.drop (i+1))&&Ae8 0 (l.drop (i+1)))=true then e l else d false:=by
   intro hh
   rw[B3n N l i _ hl hlt rfl,Ac3 (by omega),ih (i+1) (by omega) (by omega),hends,Bool.not_not]
   have hs:A0s o (l.drop (i+1)) = !((decide (i+1=l.length)||(Acg l (i+1)).1==24)&&Ahu o.1):=by
    unfold A0s
    rw[hhead]
    have h19:(o.1 != 19||((if i+1<l.length then some (Acg l (i+1)).1 else none)==some 18||(if i+1<l.length then some (Acg l (i+1)).1 else none)==some 28||(if i+1<l.length then some (Acg l (i+1)).1 else none)==some 19))=true:=by
     rcases hh with hh|⟨hh,h2⟩
     ·simp[hh]
     ·rw[if_pos hh]
      rcases h2 with h2|h2|h2<;>simp[h2]
    rw[h19,Bool.true_and]
    by_cases hl1:i+1<l.length
    ·have:decide (i+1=l.length)=false:=by simp;omega
     rw[this,if_pos hl1]
     by_cases h24:(Acg l (i+1)).1=24
     ·simp[h24]
     ·have h24':((Acg l (i+1)).1==24)=false:=by simpa using h24
      simp[h24,h24']
    ·have:decide (i+1=l.length)=true:=by simp;omega
     rw[this,if_neg hl1]
     simp
   rw[hs]
   cases (decide (i+1=l.length)||(Acg l (i+1)).1==24)&&Ahu o.1<;>simp
  simp only[hlb]
  by_cases h19:o.1=19
  ·rw[if_pos (by simpa using h19)]
   by_cases hl1:i+1=l.length
   ·have hx:decide (i+1=l.length)=true:=by simp[hl1]
    have hs:A0s o (l.drop (i+1))=false:=by
     unfold A0s
     rw[hhead,if_neg (by omega),h19];rfl
    rw[hx,hs];simp
   ·have hx:decide (i+1=l.length)=false:=by simp[hl1]
    have hlt1:i+1<l.length:=by omega
    have hg:l.getD (Int.toNat ((i+1:Nat):Int)) (0,0,0)=Acg l (i+1):=by
     unfold Acg;rw[Int.toNat_natCast]
    have hin1:(0:Int)≤((i+1:Nat):Int)∧((i+1:Nat):Int)<len l:=by simp only[len];omega
    rw[hx]at fin ⊢
    simp only[Bool.false_eq_true,if_false,if_pos hin1,hg]
    have hs:((Acg l (i+1)).1≠18∧(Acg l (i+1)).1≠28∧(Acg l (i+1)).1≠19)→A0s o (l.drop (i+1))=false:=by
     intro⟨a1,a2,a3⟩
     unfold A0s
     rw[hhead,if_pos hlt1,h19]
     have b1:(some (Acg l (i+1)).1==some 18)=false:=by simpa using a1
     have b2:(some (Acg l (i+1)).1==some 28)=false:=by simpa using a2
     have b3:(some (Acg l (i+1)).1==some 19)=false:=by simpa using a3
     rw[b1,b2,b3];rfl
    by_cases a1:(Acg l (i+1)).1=18
    ·rw[if_neg (by simpa using a1)];exact fin (.inr ⟨hlt1,.inl a1⟩)
    rw[if_pos (by simpa using a1)]
    by_cases a2:(Acg l (i+1)).1=28
    ·rw[if_neg (by simpa using a2)];exact fin (.inr ⟨hlt1,.inr (.inl a2)⟩)
    rw[if_pos (by simpa using a2)]
    by_cases a3:(Acg l (i+1)).1=19
    ·rw[if_neg (by simpa using a3)];exact fin (.inr ⟨hlt1,.inr (.inr a3)⟩)
    rw[if_pos (by simpa using a3),hs ⟨a1,a2,a3⟩]
    simp
  ·rw[if_neg (by simpa using h19)]
   exact fin (.inl h19)
def Al7(l:OpL):Bool:=Ad3 l==none||Ad3 l==some 24
theorem B7d{R:Type}(N:Nat)(l:OpL)(hl:l.length<N)(hl2:l.length≤1099511627776)(hN:1000<N)(hM:∀o,o∈l→o.1=29→0≤o.2.2∧o.2.2≤1000)(K:Bool→Option R) :
  Aen N l K=K (Ae8 0 l&&Al7 l):=by
 simp only[Aen,Bb4]
 have h:=Cj7 N l hl2 hN hM (fun b=>K b) (fun a=>if (len a==0)=true then K true else if (0:Int)≤0∧0<len a then K ((List.getD a 0 (0,0,0)).1==24) else none) N 0 (by omega) (by omega)
 rw[show ((0:Nat):Int)=0 from rfl]at h
 rw[h,List.drop_zero]
 cases Ae8 0 l with
 |false=>simp
 |true=>
  simp only[if_true,Bool.true_and]
  cases l with
  |nil=>simp[len,Al7,Ad3]
  |cons o r=>
   rw[if_neg (by simp only[len,List.length_cons,beq_iff_eq];omega),if_pos (by simp only[len,List.length_cons];omega)]
   simp[Al7,Ad3]
theorem Agj{i:Int}(h1:-4611686018427387904<i)(h2:i<4611686018427387904):wi i=i:=by
 simp only[wi];exact w64 (by omega)
def plF:Nat→OpL→Int→Int→List Int→List Int→Option (Int×Int×List Int×List Int)
 | _,[],p,m,o,a=>some (p,m,o,a)
 |i,x::r,p,m,o,a=>
  if x.1=24 then (if x.2.1=p+1 then plF (i+1) r (p+1) m o a else none)
  else if x.1=19 then
   (if a.getD x.2.1.toNat 0≠0∨p=0 then none
    else plF (i+1) r p (if x.2.1 > m then x.2.1 else m) (o.set x.2.1.toNat i) (a.set x.2.1.toNat p))
  else plF (i+1) r p m o a
theorem Cgl{R:Type}(N:Nat)(nm:List UInt8)(dat:Aa5)(l:OpL)(gl:Ab3)(procs labels:Int)(hl:l.length≤1099511627776)(hL:∀o,o∈l→o.1=19→1≤o.2.1∧o.2.1≤labels)(b:Bool→List Int→List Int→Option R)(c:Int→Int→List UInt8→Aa5→OpL→Ab3→Int→Int→List Int→List Int→Option R) :
  ∀(k i:Nat) (p m:Int) (o a:List Int),i≤l.length→l.length-i<k→0≤p→p≤i→(o.length:Int)=labels+1→(a.length:Int)=labels+1→
   Ae2 N k p m l (len l) i nm dat l gl procs labels o a b c =
    match plF i (l.drop i) p m o a with
    |none=>b false [] []
    |some (p',m',o',a')=>c p' m' nm dat l gl procs labels o' a':=by
 intro k
 induction k with
 |zero=>intro i _ _ _ _ _ h;omega
 |succ k ih=>
  intro i p m o a hi hk hp hpi ho ha
  simp only[Ae2,A3j]
  by_cases hlt:i<l.length
  case neg=>
   rw[if_neg (by simp[len];omega),List.drop_eq_nil_of_le (by omega)]
   simp[plF]
  have hin:(0:Int)≤i∧(i:Int)<len l:=by simp only[len];omega
  have hd:l.drop i=l[i]::l.drop (i+1):=List.drop_eq_getElem_cons hlt
  have hL':=hL l[i] (List.getElem_mem hlt)
  rw[if_pos (by simp[len];omega),if_pos hin,Ahx _ _ hlt,Ac3 (by omega),hd]
  obtain⟨x,hx⟩:∃x,l[i]=x:=⟨_,rfl⟩
  simp only[hx]at hL' ⊢
  have hw:wi (p+1)=p+1:=Agj (by omega) (by omega)
  by_cases h24:x.1=24
  ·rw[if_pos (by simpa using h24),hw,plF,if_pos h24]
   by_cases he:x.2.1=p+1
   ·rw[if_neg (by simp[he]),if_pos he]
    exact ih (i+1) (p+1) m o a (by omega) (by omega) (by omega) (by omega) ho ha
   ·rw[if_pos (by simpa using he),if_neg he]
  rw[if_neg (by simpa using h24),plF,if_neg h24]
  by_cases h19:x.1=19
  ·have hv:=hL' h19
   have hia:0≤x.2.1∧x.2.1<len a:=by simp only[len];omega
   have hio:0≤x.2.1∧x.2.1<len o:=by simp only[len];omega
   rw[if_pos (by simpa using h19),if_pos h19,if_pos hia]
   by_cases ha0:a.getD x.2.1.toNat 0=0
   ·rw[if_neg (by simpa using ha0)]
    by_cases hp0:p=0
    ·rw[if_pos (by simpa using hp0),if_pos (.inr hp0)]
    ·rw[if_neg (by simpa using hp0),if_pos hio,if_pos hia,if_neg (show ¬(a.getD x.2.1.toNat 0≠0∨p=0) by intro h;rcases h with h|h;exact h ha0;exact hp0 h)]
     exact ih (i+1) p _ _ _ (by omega) (by omega) hp (by omega) (by rw[List.length_set];exact ho) (by rw[List.length_set];exact ha)
   ·rw[if_pos (by simpa using ha0),if_pos (.inl ha0)]
  ·rw[if_neg (by simpa using h19),if_neg h19]
   exact ih (i+1) p m o a (by omega) (by omega) hp (by omega) ho ha
def Alv(l:OpL)(procs labels:Int):Option (Bool×List Int×List Int) :=
 match plF 0 l 0 0 (List.replicate (labels+1).toNat 0) (List.replicate (labels+1).toNat 0) with
 |none=>none
 |some (p,m,o,a)=>some (p==procs&&m==labels,o,a)
theorem Bke{R:Type}(N:Nat)(nm:List UInt8)(dat:Aa5)(l:OpL)(gl:Ab3)(procs labels:Int)(hl:l.length<N)(hl2:l.length≤1099511627776)(hb:0≤labels∧labels≤1000000)(hL:∀o,o∈l→o.1=19→1≤o.2.1∧o.2.1≤labels)(K:Bool→List Int→List Int→Option R) :
  Ab1 N nm dat l gl procs labels K=match Alv l procs labels with
   |none=>K false [] []
   |some (b,o,a)=>K b o a:=by
 have hw:wi (labels+1)=labels+1:=Agj (by omega) (by omega)
 have hg:(0:Int)≤labels+1∧labels+1≤labels+1∧(labels+1)*8≤70368744177664:=by omega
 simp only[Ab1,A86,hw,if_pos hg]
 have h:=Cgl N nm dat l gl procs labels hl2 hL (fun e f g=>K e f g) (fun i j s t u v n q c d=>if (i==n)=true then K (j==q) c d else K false c d) N 0 0 0
  (List.replicate (labels+1).toNat 0) (List.replicate (labels+1).toNat 0) (by omega) (by omega) (by omega) (by omega) (by simp;omega) (by simp;omega)
 rw[show ((0:Nat):Int)=0 from rfl,List.drop_zero]at h
 rw[h]
 unfold Alv
 cases plF 0 l 0 0 (List.replicate (labels+1).toNat 0) (List.replicate (labels+1).toNat 0) with
 |none=>rfl
 |some r=>
  obtain⟨p,m,o,a⟩:=r
  dsimp only
  cases hpp:p==procs<;>simp[hpp]
def Aim(nd procs labels:Int)(x:Int×Int×Int):Bool:=decide (1≤x.1)&&decide (x.1≤30)&&Anv x.1 x.2.1 x.2.2 nd procs labels
theorem Clv{R:Type}(N:Nat)(nm:List UInt8)(data:Aa5)(l:OpL)(gl:Ab3)(procs labels:Int)(hl:l.length≤1099511627776)(hd:data.length≤1000000)(a:Bool→Option R)(b:List UInt8→Aa5→OpL→Ab3→Int→Int→Option R) :
  ∀(k i:Nat),i≤l.length→l.length-i<k→
   Ac6 N k l (len l) i nm data l gl procs labels Ama a b=if (l.drop i).all (Aim data.length procs labels) then b nm data l gl procs labels else a false:=by
 intro k
 induction k with
 |zero=>intro i _ h;omega
 |succ k ih=>
  intro i hi hk
  simp only[Ac6,A3g]
  by_cases hlt:i<l.length
  case neg=>
   rw[if_neg (by simp[len];omega),List.drop_eq_nil_of_le (by omega)]
   simp
  have hin:(0:Int)≤i∧(i:Int)<len l:=by simp only[len];omega
  have hd':l.drop i=l[i]::l.drop (i+1):=List.drop_eq_getElem_cons hlt
  rw[if_pos (by simp[len];omega),if_pos hin,Ahx _ _ hlt,Ac3 (by omega),hd',List.all_cons]
  obtain⟨x,hx⟩:∃x,l[i]=x:=⟨_,rfl⟩
  simp only[hx]
  by_cases h1:x.1<1
  ·rw[if_pos (by simpa using h1)]
   have:Aim data.length procs labels x=false:=by unfold Aim;simp;omega
   rw[this];simp
  rw[if_neg (by simpa using h1)]
  by_cases h2:x.1≥31
  ·rw[if_pos (by simpa using h2)]
   have:Aim data.length procs labels x=false:=by unfold Aim;simp;omega
   rw[this];simp
  rw[if_neg (by simpa using h2),if_pos (by omega),if_pos (show x.1<len Ama from by simp only[len,Ama,List.length_cons,List.length_nil];omega),
   show List.getD Ama (Int.toNat x.1) (([]:List UInt8),((0:Int),((0:Int),(0:Int))))=kT x.1 from rfl,
   Bzz N _ _ _ _ _ _ _ _ _ hd (by omega)]
  have:Aim data.length procs labels x=Anv x.1 x.2.1 x.2.2 data.length procs labels:=by
   unfold Aim
   rw[show decide (1≤x.1)=true by simp;omega,show decide (x.1≤30)=true by simp;omega];rfl
  rw[this,ih (i+1) (by omega) (by omega)]
  cases Anv x.1 x.2.1 x.2.2 data.length procs labels<;>rfl
def Aai(x:Int×Int×Int):Int:=if x.1=20∨x.1=21∨x.1=22∨x.1=27∨x.1=29 then x.2.1 else if x.1=30 then x.2.2 else 0
theorem Bnm{R:Type}(N:Nat)(a b c:Int)(K:Int→Option R):Ab4 N a b c K=K (Aai (a,b,c)):=by
 simp only[Ab4,Bca,Ad9,Aai]
 by_cases h1:a=20
 ·simp[h1]
 by_cases h2:a=21
 ·simp[h2]
 by_cases h3:a=22
 ·simp[h3]
 by_cases h4:a=27
 ·simp[h4]
 by_cases h5:a=29
 ·simp[h5]
 by_cases h6:a=30
 ·simp[h6]
 simp[h1,h2,h3,h4,h5,h6]
theorem Ble{nd procs labels:Int}{x:Int×Int×Int}(h:Aim nd procs labels x=true):Aai x=0∨(1≤Aai x∧Aai x≤labels):=by
 obtain⟨op,n,m⟩:=x
 simp only[Aim,Bool.and_eq_true,decide_eq_true_eq]at h
 obtain⟨⟨h1,h2⟩,h3⟩:=h
 rcases Bni ⟨h1,h2⟩ with rfl|rfl|rfl|rfl|rfl|rfl|rfl|rfl|rfl|rfl|rfl|rfl|rfl|rfl|rfl|rfl|rfl|rfl|rfl|rfl|rfl|rfl|rfl|rfl|rfl|rfl|rfl|rfl|rfl|rfl <;>
  simp[Aai]<;>simp[Anv,inB]at h3<;>omega
def Aue:Int→OpL→List Int→List Int→Bool
 | _,[],_,_=>true
 |p,x::r,o,a=>
  let p':=if x.1=24 then x.2.1 else p
  (decide (Aai x≤0)||(a.getD (Aai x).toNat 0==p'&&o.getD (Aai x).toNat 0 != 0))&&Aue p' r o a
theorem Clw{R:Type}(N:Nat)(p:Int)(l:OpL)(ll i:Int)(o a:List Int)(x:Int×Int×Int)(h:Aai x=0∨(1≤Aai x∧Aai x<a.length))(hoa:o.length=a.length)(b:Bool→Option R)(c:Int→OpL→Int→Int→List Int→List Int→Option R) :
  Adi N p l ll i o a x.1 x.2.1 x.2.2 b c=if (decide (Aai x≤0)||(a.getD (Aai x).toNat 0==p&&o.getD (Aai x).toNat 0 != 0))=true then c p l ll i o a else b false:=by
 simp only[Adi,A3s,Bnm]
 rw[show (x.1,x.2.1,x.2.2)=x from rfl]
 by_cases h0:Aai x > 0
 ·have ha:0≤Aai x∧Aai x<len a:=by simp only[len];omega
  have ho:0≤Aai x∧Aai x<len o:=by simp only[len];omega
  rw[if_pos (by simpa using h0),if_pos ha,if_pos ho,show decide (Aai x≤0)=false by simp;omega,Bool.false_or]
  generalize a.getD (Aai x).toNat 0=u
  generalize o.getD (Aai x).toNat 0=v
  by_cases h1:u=p
  ·by_cases h2:v=0
   ·simp[h1,h2]
   ·simp[h1,h2]
  ·simp[h1]
 ·rw[if_neg (by simpa using h0),show decide (Aai x≤0)=true by simp;omega,Bool.true_or,if_pos rfl]
theorem Clx{R:Type}(N:Nat)(l:OpL)(o a:List Int)(hl:l.length≤1099511627776)(hoa:o.length=a.length)(hn:∀x,x∈l→Aai x=0∨(1≤Aai x∧Aai x<a.length))(b:Bool→Option R)(c:Option R) :
  ∀(k i:Nat) (p:Int),i≤l.length→l.length-i<k→
   Acw N k p l (len l) i o a b c=if Aue p (l.drop i) o a then c else b false:=by
 intro k
 induction k with
 |zero=>intro i _ _ h;omega
 |succ k ih=>
  intro i p hi hk
  simp only[Acw,A3u]
  by_cases hlt:i<l.length
  case neg=>
   rw[if_neg (by simp[len];omega),List.drop_eq_nil_of_le (by omega)]
   simp[Aue]
  have hin:(0:Int)≤i∧(i:Int)<len l:=by simp only[len];omega
  have hd':l.drop i=l[i]::l.drop (i+1):=List.drop_eq_getElem_cons hlt
  have hx':=hn l[i] (List.getElem_mem hlt)
  rw[if_pos (by simp[len];omega),if_pos hin,Ahx _ _ hlt,hd',Aue]
  obtain⟨x,hx⟩:∃x,l[i]=x:=⟨_,rfl⟩
  simp only[hx]at hx' ⊢
  by_cases h24:x.1=24
  ·rw[if_pos (by simpa using h24),if_pos h24,Clw N _ l _ _ o a x hx' hoa,Ac3 (by omega),ih (i+1) _ (by omega) (by omega)]
   cases (decide (Aai x≤0)||(a.getD (Aai x).toNat 0==x.2.1&&o.getD (Aai x).toNat 0 != 0))<;>rfl
  ·rw[if_neg (by simpa using h24),if_neg h24,Clw N _ l _ _ o a x hx' hoa,Ac3 (by omega),ih (i+1) _ (by omega) (by omega)]
   cases (decide (Aai x≤0)||(a.getD (Aai x).toNat 0==p&&o.getD (Aai x).toNat 0 != 0))<;>rfl
theorem Che:∀(l:OpL) (i:Nat) (p m:Int) (o a:List Int) (r:Int×Int×List Int×List Int),plF i l p m o a=some r→r.2.2.1.length=o.length∧r.2.2.2.length=a.length:=by
 intro l
 induction l with
 |nil=>intro i p m o a r h;simp only[plF,Option.some.injEq]at h;subst h;exact⟨rfl,rfl⟩
 |cons x l ih=>
  intro i p m o a r h
  rw[plF]at h
  split at h
  ·split at h
   ·exact ih _ _ _ _ _ _ h
   ·cases h
  ·split at h
   ·split at h
    ·cases h
    ·have:=ih _ _ _ _ _ _ h
     simpa using this
   ·exact ih _ _ _ _ _ _ h
theorem Blf{l:OpL}{procs labels:Int}{r:Bool×List Int×List Int}(h:Alv l procs labels=some r):r.2.1.length=(labels+1).toNat∧r.2.2.length=(labels+1).toNat:=by
 unfold Alv at h
 split at h
 ·cases h
 ·rename_i p m o a he
  have:=Che _ _ _ _ _ _ _ he
  simp only[Option.some.injEq]at h
  subst h
  simpa using this
def Big(nm:List UInt8)(data:Aa5)(l:OpL)(gl:Ab3)(procs labels:Int):Bool :=
 Ark nm==0&&decide (0≤procs)&&decide (0≤labels)&&l.all (Aim data.length procs labels) &&
 (match Alv l procs labels with
  |none=>false
  |some (b,o,a)=>b&&(Ae8 0 l&&Al7 l)&&Bif data gl procs&&Aue 0 l o a)
theorem Bz2{nd procs labels:Int}{x:Int×Int×Int}(h:Aim nd procs labels x=true)(h29:x.1=29):0≤x.2.2∧x.2.2≤1000:=by
 obtain⟨op,n,m⟩:=x
 simp only at h29;subst h29
 simp[Aim,Anv,inB]at h
 exact h.2
theorem Bz3{nd procs labels:Int}{x:Int×Int×Int}(h:Aim nd procs labels x=true)(h19:x.1=19):1≤x.2.1∧x.2.1≤labels:=by
 obtain⟨op,n,m⟩:=x
 simp only at h19;subst h19
 simp[Aim,Anv,inB]at h
 exact h.1
structure B7e(N:Nat)(nm:List UInt8)(data:Aa5)(l:OpL)(gl:Ab3)(procs labels:Int):Prop where
 n1:nm.length≤1099511627776
 n2:nm.length<N
 l1:l.length<N
 l2:l.length≤1099511627776
 d1:Bnk data
 d2:data.length≤2000
 d3:∀d,d∈data→d.1.length<N∧d.2.2.length<N
 N1:2000<N
 g1:gl.length<N
 g2:gl.length≤1099511627776
 lb:labels≤20000
 pb:procs≤200
theorem B7f{R:Type}{N:Nat}{nm:List UInt8}{data:Aa5}{l:OpL}{gl:Ab3}{procs labels:Int}(F:B7e N nm data l gl procs labels)(K:Bool→Option R) :
  Aj1 N nm data l gl procs labels K=K (Big nm data l gl procs labels):=by
 simp only[Aj1,Bcd]
 obtain⟨r,hq⟩:=Btc N nm F.n1 F.n2
 rw[hq]
 unfold Big
 by_cases h1:Ark nm=0
 case neg=>
  rw[if_pos (by simpa using h1),show (Ark nm==0)=false by simpa using h1];rfl
 rw[if_neg (by simpa using h1),show (Ark nm==0)=true by simpa using h1,Bool.true_and]
 by_cases h2:procs<0
 ·rw[if_pos (by simpa using h2),show decide (0≤procs)=false by simp;omega];rfl
 rw[if_neg (by simpa using h2),show decide (0≤procs)=true by simp;omega,Bool.true_and]
 by_cases h3:labels<0
 ·rw[if_pos (by simpa using h3),show decide (0≤labels)=false by simp;omega];rfl
 rw[if_neg (by simpa using h3),show decide (0≤labels)=true by simp;omega,Bool.true_and]
 simp only[Acn]
 have hloop:=Clv (R:=R) N nm data l gl procs labels F.l2 (by have:=F.d2;omega) (fun m=>K m) (fun e f c g i j=>Ab1 N e f c g i j (fun n p q=>if ((!n)=true) then (K false) else (Aen N c (fun s=>if ((!s)=true) then (K false) else (Aeo N e f c g i j (fun t=>if ((!t)=true) then (K false) else (Acw N N 0 c ((len c)) 0 p q (fun d=>K d) (K true)))))))) N 0 (by omega) (by have:=F.l1;omega)
 rw[List.drop_zero]at hloop
 refine Eq.trans hloop ?_
 by_cases hn:l.all (Aim data.length procs labels)=true
 case neg=>
  rw[if_neg hn,show l.all (Aim data.length procs labels)=false by simpa using hn];rfl
 rw[if_pos hn,hn,Bool.true_and]
 have hall:∀o,o∈l→Aim data.length procs labels o=true:=List.all_eq_true.mp hn
 rw[Bke N _ _ _ _ _ _ F.l1 F.l2 ⟨by omega,by have:=F.lb;omega⟩ (fun o ho h=>Bz3 (hall o ho) h)]
 cases hp:Alv l procs labels with
 |none=>rfl
 |some r=>
  obtain⟨b,o,a⟩:=r
  have hlen:=Blf hp
  simp only at hlen
  dsimp only
  cases b
  ·rfl
  rw[if_neg (by decide),B7d N _ F.l1 F.l2 (by have:=F.N1;omega) (fun o ho h=>Bz2 (hall o ho) h),Bool.true_and]
  cases Ae8 0 l&&Al7 l
  ·rfl
  rw[if_neg (by decide),B7b N _ _ _ _ _ _ F.d1 F.d2 F.d3 F.N1 F.g1 F.g2,Bool.true_and]
  cases Bif data gl procs
  ·rfl
  rw[if_neg (by decide),Bool.true_and]
  have hu:=Clx (R:=R) N l o a F.l2 (by omega) (fun x hx=>by
   rcases Ble (hall x hx) with h|h
   ·exact .inl h
   ·exact .inr ⟨h.1,by omega⟩) (fun d=>K d) (K true) N 0 0 (by omega) (by have:=F.l1;omega)
  rw[List.drop_zero]at hu
  refine Eq.trans hu ?_
  cases Aue 0 l o a<;>rfl
def A24:OpL→Nat
 |[]=>0
 |x::r=>if x.1=19 then A24 r+1 else 0
def Ags(l:OpL)(j:Nat):Nat:=j+A24 (l.drop j)
theorem Cny:∀l:OpL,l≠[]→(∀o,l.getLast? = some o→o.1≠19)→A24 l<l.length:=by
 intro l
 induction l with
 |nil=>intro h;exact absurd rfl h
 |cons x r ih=>
  intro _ h
  rw[A24]
  by_cases h19:x.1=19
  ·rw[if_pos h19]
   cases r with
   |nil=>exact absurd h19 (h x rfl)
   |cons y r=>
    have:=ih (by simp) (fun o ho=>h o (by rw[List.getLast?_cons_cons];exact ho))
    simp only[List.length_cons]at this ⊢;omega
  ·rw[if_neg h19];simp
theorem Cly:∀(l:OpL) (c:Nat),Ae8 c l=true→∀o,l.getLast? = some o→o.1≠19:=by
 intro l
 induction l with
 |nil=>intro c _ o h;cases h
 |cons x r ih=>
  intro c h o ho
  cases r with
  |nil=>
   simp only[List.getLast?_singleton,Option.some.injEq]at ho
   subst ho
   cases c with
   |zero=>
    intro h19
    rw[Ae8,h19]at h
    simp[A0s,Ad3,h19]at h
   |succ c=>
    simp only[Ae8,Bool.and_eq_true,beq_iff_eq]at h
    omega
  |cons y r=>
   rw[List.getLast?_cons_cons]at ho
   cases c with
   |zero=>
    rw[Ae8]at h
    simp only[Bool.and_eq_true]at h
    obtain⟨_,h⟩:=h
    split at h
    ·exact ih _ h o ho
    ·simp only[Bool.and_eq_true]at h
     exact ih _ h.2 o ho
   |succ c=>
    simp only[Ae8,Bool.and_eq_true]at h
    exact ih c (by simpa [Ae8]using h.2) o ho
theorem Bbe{l:OpL}(h:Ae8 0 l=true){j:Nat}(hj:j<l.length):Ags l j<l.length:=by
 have:=Cny (l.drop j) (by intro h0;have:=congrArg List.length h0;simp at this;omega) (fun o ho=>by
  rw[List.getLast?_drop,if_neg (by omega)]at ho
  exact Cly l 0 h o ho)
 rw[List.length_drop]at this
 unfold Ags;omega
theorem Cj8{R:Type}(N:Nat)(l:OpL)(hl:l.length≤1099511627776)(K:Int→Option R):∀(k j:Nat),Ags l j<l.length→l.length-j<k→
  Afm N k l j K=K (Ags l j:Nat):=by
 intro k
 induction k with
 |zero=>intro j _ h;omega
 |succ k ih=>
  intro j hj hk
  have hjl:j<l.length:=by unfold Ags at hj;omega
  have hin:(0:Int)≤j∧(j:Int)<len l:=by simp only[len];omega
  have hd':l.drop j=l[j]::l.drop (j+1):=List.drop_eq_getElem_cons hjl
  simp only[Afm,A63]
  rw[if_pos hin,Ahx _ _ hjl,Ac3 (by omega)]
  by_cases h19:l[j].1=19
  ·have:Ags l j=Ags l (j+1):=by unfold Ags;rw[hd',A24,if_pos h19];omega
   rw[if_pos (by simpa using h19),ih (j+1) (by omega) (by omega),this]
  ·have:Ags l j=j:=by unfold Ags;rw[hd',A24,if_neg h19];rfl
   rw[if_neg (by simpa using h19),this]
theorem Bnn{R:Type}(N:Nat)(l:OpL)(j:Int)(hl:l.length≤1099511627776)(hN:l.length<N)(ho:Ae8 0 l=true)(h0:0≤j)(hj:j<l.length)(K:Int→Option R) :
  Ady N l j K=K (Ags l j.toNat:Nat):=by
 obtain⟨n,rfl⟩:=Int.eq_ofNat_of_zero_le h0
 simp only[Ady,Bci]
 exact Cj8 N l hl K N n (Bbe ho (by omega)) (by omega)
def A14(x:Int×Int×Int)(d:Int)(flag:Bool):Bool :=
 (if x.1=2∨x.1=3 then inB x.2.1 2 (d-1) else if x.1=4 then decide (2≤x.2.1) else if x.1=23 then inB x.2.1 2 (d-3)
  else if x.1=18 then flag||decide (x.2.1≤d+2000+2) else true)&&(x.1==24||decide (2≤d-(kT x.1).2.2.1))
theorem B7g(op:Int):0≤(kT op).2.2.1∧(kT op).2.2.1≤3∧0≤(kT op).2.2.2∧(kT op).2.2.2≤1:=by
 unfold kT
 generalize op.toNat=n
 by_cases h:n<31
 ·revert n;decide
 ·rw[List.getD_eq_getElem?_getD,List.getElem?_eq_none (by simp only[Ama,List.length_cons,List.length_nil];omega)]
  decide
theorem Bqo{R:Type}(N:Nat)(x:Int×Int×Int)(d:Int)(flag:Bool)(hd:0≤d∧d≤4000)(K:Bool→Option R) :
  Agv N x.1 x.2.1 x.2.2 d (kT x.1).1 (kT x.1).2.1 (kT x.1).2.2.1 (kT x.1).2.2.2 flag K=K (A14 x d flag):=by
 obtain⟨op,n,m⟩:=x
 have hp:=B7g op
 unfold A14
 simp only
 generalize kT op=kk at hp ⊢
 have w1:wi (d-1)=d-1:=Agj (by omega) (by omega)
 have w3:wi (d-3)=d-3:=Agj (by omega) (by omega)
 have w2:wi (wi (d+2000)+2)=d+2000+2:=by rw[Agj (i:=d+2000) (by omega) (by omega),Agj (by omega) (by omega)]
 have wp:wi (d-kk.2.2.1)=d-kk.2.2.1:=Agj (by omega) (by omega)
 simp only[Agv,Bgc,Afz,A88,Aeu,Aw8,w1,w2,w3,wp]
 by_cases h2:op=2
 ·subst h2;cases inB n 2 (d-1)<;>simp
 by_cases h3:op=3
 ·subst h3;cases inB n 2 (d-1)<;>simp
 by_cases h4:op=4
 ·subst h4
  by_cases hn:n<2
  ·simp[hn,show ¬2≤n by omega]
  ·simp[hn,show 2≤n by omega]
 by_cases h23:op=23
 ·subst h23;cases inB n 2 (d-3)<;>simp
 by_cases h18:op=18
 ·subst h18
  cases flag
  ·by_cases hn:n≤d+2000+2
   ·simp[hn,show ¬(d+2000+2<n) by omega]
   ·simp[hn,show d+2000+2<n by omega]
  ·simp
 by_cases h24:op=24
 ·subst h24;simp
 have b24:(op==24)=false:=by simpa using h24
 simp[h2,h3,h4,h23,h18,h24,b24]
def Aha(x:Int×Int×Int)(d:Int):Int :=
 if x.1=18 then x.2.1 else if x.1=24 then 2+x.2.2 else if x.1=23∨x.1=28 then x.2.1+1 else d-(kT x.1).2.2.1+(kT x.1).2.2.2
theorem B7h{R:Type}(N:Nat)(x:Int×Int×Int)(d:Int)(hd:0≤d∧d≤4000)(hx:x.1=24∨x.1=23∨x.1=28→0≤x.2.1∧x.2.1≤4000∧0≤x.2.2∧x.2.2≤4000)(K:Int→Option R) :
  Agg N x.1 x.2.1 x.2.2 d (kT x.1).1 (kT x.1).2.1 (kT x.1).2.2.1 (kT x.1).2.2.2 K=K (Aha x d):=by
 obtain⟨op,n,m⟩:=x
 have hp:=B7g op
 simp only at hx
 unfold Aha
 simp only
 generalize kT op=kk at hp ⊢
 simp only[Agg,Bcf,Aea,Ael]
 by_cases h18:op=18
 ·simp[h18]
 by_cases h24:op=24
 ·rw[show wi (2+m)=2+m from Agj (by have:=hx (.inl h24);omega) (by have:=hx (.inl h24);omega)]
  simp[h24]
 by_cases h23:op=23
 ·rw[show wi (n+1)=n+1 from Agj (by have:=hx (.inr (.inl h23));omega) (by have:=hx (.inr (.inl h23));omega)]
  simp[h23]
 by_cases h28:op=28
 ·rw[show wi (n+1)=n+1 from Agj (by have:=hx (.inr (.inr h28));omega) (by have:=hx (.inr (.inr h28));omega)]
  simp[h28]
 rw[show wi (wi (d-kk.2.2.1)+kk.2.2.2)=d-kk.2.2.1+kk.2.2.2 by
  rw[Agj (i:=d-kk.2.2.1) (by omega) (by omega),Agj (by omega) (by omega)]]
 simp[h18,h24,h23,h28]
noncomputable def Btf{R:Type}(N:Nat)(rc:Ao4 R)(x:Int)(e:OpL)(f g:Int)(h:List UInt8)(i:Aa5)(a:OpL)(j:Ab3)(l m:Int)(b:List Int)(d:List (List UInt8×Int×Int×Int))(o:Bool→Option R)(n v w:Int)(y:List UInt8)(z A B:Int):Option R :=
 (if (((0:Int)≤n)∧(n<(31:Int))) then (if (n<(len d)) then (Agg N n v w x y z A B (fun c=>if ((decide ((c<(2:Int))))=true) then (o false) else (if ((decide ((c > (4000:Int))))=true) then (o false) else (Ab4 N n v w (fun p=>if ((decide ((p > (0:Int))))=true) then (if (((0:Int)≤p)∧(p<(len b))) then (Ady N a ((List.getD b (Int.toNat p) (0:Int))) (fun s=>if (((0:Int)≤s)∧(s<(len a))) then (if ((!(((List.getD a (Int.toNat s) ((0:Int),((0:Int),(0:Int)))).1==(28:Int))==(n==(27:Int))))=true) then (o false) else (if ((n != (19:Int))=true) then (Abz N a g (fun C=>if ((!C)=true) then (let q:=(wi (g+(1:Int)));if ((decide ((q<(len a))))=true) then (Ady N a q (fun t=>if (((0:Int)≤t)∧(t<(len a))) then (if (((List.getD a (Int.toNat t) ((0:Int),((0:Int),(0:Int)))).1==(28:Int))=true) then (o false) else (rc c e f q h i a j l m b d)) else none)) else (rc c e f q h i a j l m b d)) else (rc c e f ((wi (g+(1:Int)))) h i a j l m b d))) else (rc c e f ((wi (g+(1:Int)))) h i a j l m b d))) else none)) else none) else (if ((n != (19:Int))=true) then (Abz N a g (fun D=>if ((!D)=true) then (let r:=(wi (g+(1:Int)));if ((decide ((r<(len a))))=true) then (Ady N a r (fun u=>if (((0:Int)≤u)∧(u<(len a))) then (if (((List.getD a (Int.toNat u) ((0:Int),((0:Int),(0:Int)))).1==(28:Int))=true) then (o false) else (rc c e f r h i a j l m b d)) else none)) else (rc c e f r h i a j l m b d)) else (rc c e f ((wi (g+(1:Int)))) h i a j l m b d))) else (rc c e f ((wi (g+(1:Int)))) h i a j l m b d))))))) else none) else none)
theorem Ce5{R:Type}(N:Nat)(rc:Ao4 R)(e:Int)(d:OpL)(h a:Int)(p:List UInt8)(q:Aa5)(f:OpL)(r:Ab3)(s t:Int)(u:List Int)(c:List (List UInt8×Int×Int×Int))(g:Bool→Option R)(w:Option R) :
  Azg @Agv @Agg @Ab4 @Ady @Abz N rc e d h a p q f r s t u c g w =
  if ((decide ((a<h)))=true) then (if (((0:Int)≤a)∧(a<(len d))) then (let b:=(List.getD d (Int.toNat a) ((0:Int),((0:Int),(0:Int)))).1;let i:=(List.getD d (Int.toNat a) ((0:Int),((0:Int),(0:Int)))).2.1;let j:=(List.getD d (Int.toNat a) ((0:Int),((0:Int),(0:Int)))).2.2;if (((0:Int)≤b)∧(b<(31:Int))) then (if (b<(len c)) then (let l:=(List.getD c (Int.toNat b) (([]:List UInt8),((0:Int),((0:Int),(0:Int))))).1;let m:=(List.getD c (Int.toNat b) (([]:List UInt8),((0:Int),((0:Int),(0:Int))))).2.1;let n:=(List.getD c (Int.toNat b) (([]:List UInt8),((0:Int),((0:Int),(0:Int))))).2.2.1;let o:=(List.getD c (Int.toNat b) (([]:List UInt8),((0:Int),((0:Int),(0:Int))))).2.2.2;if ((decide ((a > (0:Int))))=true) then (let v:=(wi (a-(1:Int)));if (((0:Int)≤v)∧(v<(len f))) then (Agv N b i j e l m n o (((List.getD f (Int.toNat v) ((0:Int),((0:Int),(0:Int)))).1==(19:Int))) (fun x=>if ((!x)=true) then (g false) else Btf N rc e d h a p q f r s t u c g b i j l m n o)) else none)
   else (Agv N b i j e l m n o false (fun y=>if ((!y)=true) then (g false) else Btf N rc e d h a p q f r s t u c g b i j l m n o))) else none) else none) else none) else w:=rfl
def A8h(l:OpL)(o:List Int)(i:Nat)(x:Int×Int×Int)(d:Int):Bool :=
 decide (2≤Aha x d)&&decide (Aha x d≤4000) &&
 (decide (Aai x≤0)||(((Acg l (Ags l (o.getD (Aai x).toNat 0).toNat)).1==28)==(x.1==27))) &&
 (x.1==19||As9 l i||decide (l.length≤i+1)||(Acg l (Ags l (i+1))).1 != 28)
theorem Cj9{R:Type}(N:Nat)(l:OpL)(i:Nat)(op:Int)(hl:l.length≤1099511627776)(hN:l.length<N)(ho:Ae8 0 l=true)(hi:i<l.length)(F:Option R)(G:Int→Option R) :
  (if ((op != (19:Int))=true) then (Abz N l (i:Int) (fun c=>if ((!c)=true) then (let a:=(wi ((i:Int)+(1:Int)));if ((decide ((a<(len l))))=true) then (Ady N l a (fun b=>if (((0:Int)≤b)∧(b<(len l))) then (if (((List.getD l (Int.toNat b) ((0:Int),((0:Int),(0:Int)))).1==(28:Int))=true) then F else (G a)) else none)) else (G a)) else (G (wi ((i:Int)+(1:Int)))))) else (G (wi ((i:Int)+(1:Int)))))
   = if (op==19||As9 l i||decide (l.length≤i+1)||(Acg l (Ags l (i+1))).1 != 28)=true then G ((i+1:Nat):Int) else F:=by
 rw[Bqn N l i hl hi,Ac3 (by omega)]
 by_cases h19:op=19
 ·simp[h19]
 rw[if_pos (by simpa using h19),show (op==19)=false by simpa using h19,Bool.false_or]
 cases As9 l i
 case true=>rfl
 rw[if_pos (by decide),Bool.false_or]
 dsimp only
 by_cases hlt:i+1<l.length
 ·rw[if_pos (by simp only[len,decide_eq_true_eq];omega),Bnn N l _ hl hN ho (by omega) (by omega),Int.toNat_natCast]
  have h1:=Bbe ho hlt
  rw[if_pos (by simp only[len];omega),show decide (l.length≤i+1)=false by simp;omega,Bool.false_or]
  show (if ((Acg l (Ags l (i+1))).1==28)=true then F else _)=_
  unfold bne
  cases (Acg l (Ags l (i+1))).1==28<;>rfl
 ·rw[if_neg (by simp only[len,decide_eq_true_eq];omega),show decide (l.length≤i+1)=true by simp;omega];rfl
theorem Clz{R:Type}(N:Nat)(rc:Ao4 R)(d:Int)(nm:List UInt8)(data:Aa5)(l:OpL)(gl:Ab3)(procs labels:Int)(o:List Int)(i:Nat)(a:Bool→Option R)(x:Int×Int×Int)(hd:0≤d∧d≤4000)(hx:1≤x.1∧x.1≤30)(hx2:x.1=24∨x.1=23∨x.1=28→0≤x.2.1∧x.2.1≤4000∧0≤x.2.2∧x.2.2≤4000)(hn:Aai x=0∨(1≤Aai x∧Aai x<o.length))(hl:l.length≤1099511627776)(hN:l.length<N)(ho:Ae8 0 l=true)(hi:i<l.length)(hov:∀n,0≤o.getD n 0∧o.getD n 0<l.length) :
  Btf N rc d l (len l) i nm data l gl procs labels o Ama a x.1 x.2.1 x.2.2 (kT x.1).1 (kT x.1).2.1 (kT x.1).2.2.1 (kT x.1).2.2.2 =
   if A8h l o i x d=true then rc (Aha x d) l (len l) ((i+1:Nat):Int) nm data l gl procs labels o Ama else a false:=by
 unfold Btf A8h
 rw[if_pos (by omega),if_pos (show x.1<len Ama from by simp only[len,Ama,List.length_cons,List.length_nil];omega),B7h N x d hd hx2]
 by_cases h1:Aha x d<2
 ·rw[if_pos (by simpa using h1),show decide (2≤Aha x d)=false by simp;omega];rfl
 rw[if_neg (by simpa using h1),show decide (2≤Aha x d)=true by simp;omega,Bool.true_and]
 by_cases h2:Aha x d > 4000
 ·rw[if_pos (by simpa using h2),show decide (Aha x d≤4000)=false by simp;omega];rfl
 rw[if_neg (by simpa using h2),show decide (Aha x d≤4000)=true by simp;omega,Bool.true_and,Bnm,show (x.1,x.2.1,x.2.2)=x from rfl]
 have he:=Cj9 (R:=R) N l i x.1 hl hN ho hi (a false) (fun v=>rc (Aha x d) l (len l) v nm data l gl procs labels o Ama)
 by_cases h3:Aai x > 0
 ·have hv:=hov (Aai x).toNat
  have h4:=Bbe ho (j:=(o.getD (Aai x).toNat 0).toNat) (by omega)
  rw[if_pos (by simpa using h3),if_pos (by simp only[len];omega),Bnn N l _ hl hN ho hv.1 hv.2,if_pos (by simp only[len];omega),show decide (Aai x≤0)=false by simp;omega,Bool.false_or]
  show (if (!((Acg l (Ags l (o.getD (Aai x).toNat 0).toNat)).1==28)==(x.1==27))=true then _ else _)=_
  cases (((Acg l (Ags l (o.getD (Aai x).toNat 0).toNat)).1==28)==(x.1==27))
  ·rfl
  ·rw[if_neg (by decide),Bool.true_and];exact he
 ·rw[if_neg (by simpa using h3),show decide (Aai x≤0)=true by simp;omega,Bool.true_or,Bool.true_and];exact he
def Ayt(l:OpL)(i:Nat):Bool:=decide (0<i)&&(Acg l (i-1)).1==19
def Bdw(l:OpL)(o:List Int):Nat→Int→OpL→Bool
 | _,_,[]=>true
 |i,d,x::r=>A14 x d (Ayt l i)&&A8h l o i x d&&Bdw l o (i+1) (Aha x d) r
theorem Bz4{nd procs labels:Int}(hp:procs≤200){x:Int×Int×Int}(h:Aim nd procs labels x=true)(hc:x.1=24∨x.1=23∨x.1=28):0≤x.2.1∧x.2.1≤4000∧0≤x.2.2∧x.2.2≤4000:=by
 obtain⟨op,n,m⟩:=x
 simp only at hc
 rcases hc with rfl|rfl|rfl<;>simp[Aim,Anv,inB]at h<;>simp only<;>omega
theorem Bih{nd procs labels:Int}{x:Int×Int×Int}(h:Aim nd procs labels x=true):1≤x.1∧x.1≤30:=by
 simp only[Aim,Bool.and_eq_true,decide_eq_true_eq]at h;exact h.1
theorem Ce6{R:Type}(N:Nat)(nm:List UInt8)(data:Aa5)(l:OpL)(gl:Ab3)(procs labels:Int)(o:List Int)(nd:Int)(hp:procs≤200)(hl:l.length≤1099511627776)(hN:l.length<N)(ho:Ae8 0 l=true)(hall:∀x,x∈l→Aim nd procs labels x=true)(hlen:(o.length:Int)=labels+1)(hov:∀n,0≤o.getD n 0∧(0<l.length→o.getD n 0<l.length))(a:Bool→Option R)(c:Option R) :
  ∀(k i:Nat) (d:Int),i≤l.length→l.length-i<k→0≤d∧d≤4000→
   Adn N k d l (len l) i nm data l gl procs labels o Ama a c=if Bdw l o i d (l.drop i) then c else a false:=by
 intro k
 induction k with
 |zero=>intro i _ _ h;omega
 |succ k ih=>
  intro i d hi hk hd
  simp only[Adn,Ce5]
  by_cases hlt:i<l.length
  case neg=>
   rw[if_neg (by simp[len];omega),List.drop_eq_nil_of_le (by omega)]
   simp[Bdw]
  have hin:(0:Int)≤i∧(i:Int)<len l:=by simp only[len];omega
  have hd':l.drop i=l[i]::l.drop (i+1):=List.drop_eq_getElem_cons hlt
  have hx':=hall l[i] (List.getElem_mem hlt)
  rw[if_pos (by simp[len];omega),if_pos hin,Ahx _ _ hlt,hd',Bdw]
  obtain⟨x,hx⟩:∃x,l[i]=x:=⟨_,rfl⟩
  simp only[hx]at hx' ⊢
  have hop:=Bih hx'
  have hnm:Aai x=0∨(1≤Aai x∧Aai x<o.length):=by
   rcases Ble hx' with h|h
   ·exact .inl h
   ·exact .inr ⟨h.1,by omega⟩
  rw[if_pos (by omega),if_pos (show x.1<len Ama from by simp only[len,Ama,List.length_cons,List.length_nil];omega),
   show List.getD Ama (Int.toNat x.1) (([]:List UInt8),((0:Int),((0:Int),(0:Int))))=kT x.1 from rfl]
  have tail:=Clz N (fun e f g j m p q r s t u v=>Adn N k e f g j m p q r s t u v a c) d nm data l gl procs labels o i a x hd hop (Bz4 hp hx') hnm hl hN ho hlt (fun n=>⟨(hov n).1,(hov n).2 (by omega)⟩)
  have fin:∀b,b=Ayt l i→(if (!A14 x d b)=true then a false else Btf N (fun e f g j m p q r s t u v=>Adn N k e f g j m p q r s t u v a c) d l (len l) i nm data l gl procs labels o Ama a x.1 x.2.1 x.2.2 (kT x.1).1 (kT x.1).2.1 (kT x.1).2.2.1 (kT x.1).2.2.2)
    = if (A14 x d (Ayt l i)&&A8h l o i x d&&Bdw l o (i+1) (Aha x d) (l.drop (i+1)))=true then c else a false:=by
   intro b hb
   subst hb
   cases A14 x d (Ayt l i)
   ·rfl
   rw[if_neg (by decide),tail,Bool.true_and]
   cases ht:A8h l o i x d
   ·rfl
   have hy:0≤Aha x d∧Aha x d≤4000:=by
    simp only[A8h,Bool.and_eq_true,decide_eq_true_eq]at ht;omega
   rw[if_pos rfl,ih (i+1) _ (by omega) (by omega) hy,Bool.true_and]
  by_cases h0:0<i
  ·have hw:wi ((i:Int)-1)=((i-1:Nat):Int):=by rw[Agj (by omega) (by omega)];omega
   rw[if_pos (by simp;omega),hw,if_pos (by simp only[len];omega),Bqo N x d _ hd]
   exact fin _ (by unfold Ayt Acg;rw[show decide (0<i)=true by simp;omega,Bool.true_and,Int.toNat_natCast])
  ·rw[if_neg (by simp;omega),Bqo N x d _ hd]
   exact fin _ (by unfold Ayt;rw[show decide (0<i)=false by simp;omega,Bool.false_and])
theorem Cpw:∀(l:OpL) (i:Nat) (p m:Int) (o a:List Int) (r:Int×Int×List Int×List Int),plF i l p m o a=some r→∀(L:Nat),i+l.length≤L→(∀n,0≤o.getD n 0∧(0<L→o.getD n 0<L))→∀n,0≤r.2.2.1.getD n 0∧(0<L→r.2.2.1.getD n 0<L):=by
 intro l
 induction l with
 |nil=>intro i p m o a r h L _ ho;simp only[plF,Option.some.injEq]at h;subst h;exact ho
 |cons x l ih=>
  intro i p m o a r h L hL ho
  rw[List.length_cons]at hL
  rw[plF]at h
  split at h
  ·split at h
   ·exact ih _ _ _ _ _ _ h L (by omega) ho
   ·cases h
  ·split at h
   ·split at h
    ·cases h
    ·refine ih _ _ _ _ _ _ h L (by omega) (fun n=>?_)
     rw[List.getD_eq_getElem?_getD,List.getElem?_set]
     split
     ·split
      ·simp only[Option.getD_some];omega
      ·simp only[Option.getD_none];omega
     ·rw[←List.getD_eq_getElem?_getD];exact ho n
   ·exact ih _ _ _ _ _ _ h L (by omega) ho
theorem Bwk{l:OpL}{procs labels:Int}{r:Bool×List Int×List Int}(h:Alv l procs labels=some r):∀n,0≤r.2.1.getD n 0∧(0<l.length→r.2.1.getD n 0<l.length):=by
 unfold Alv at h
 split at h
 ·cases h
 ·rename_i p m o a he
  have:=Cpw _ _ _ _ _ _ _ he l.length (by omega) (fun n=>by
   rw[List.getD_eq_getElem?_getD,List.getElem?_replicate]
   split<;>simp<;>omega)
  simp only[Option.some.injEq]at h
  subst h
  exact this
def Awf(l:OpL)(procs labels:Int):Bool :=
 match Alv l procs labels with
 |none=>false
 |some (_,o,_)=>Bdw l o 0 0 l
theorem Bz5{R:Type}{N:Nat}{nm:List UInt8}{data:Aa5}{l:OpL}{gl:Ab3}{procs labels:Int}(F:B7e N nm data l gl procs labels)(hc:Big nm data l gl procs labels=true)(K:Bool→Option R) :
  Ah3 N nm data l gl procs labels K=K (Awf l procs labels):=by
 simp only[Big,Bool.and_eq_true,decide_eq_true_eq]at hc
 obtain⟨⟨⟨⟨_,hp0⟩,hl0⟩,hn⟩,hc⟩:=hc
 have hall:∀o,o∈l→Aim data.length procs labels o=true:=List.all_eq_true.mp hn
 simp only[Ah3,A67,Acn]
 rw[Bke N _ _ _ _ _ _ F.l1 F.l2 ⟨by omega,by have:=F.lb;omega⟩ (fun o ho h=>Bz3 (hall o ho) h)]
 unfold Awf
 cases hp:Alv l procs labels with
 |none=>rw[hp]at hc;cases hc
 |some r=>
  obtain⟨b,o,a⟩:=r
  rw[hp]at hc
  simp only[Bool.and_eq_true]at hc
  have hlen:=Blf hp
  have hval:=Bwk hp
  simp only at hlen hval
  dsimp only
  have hs:=Ce6 (R:=R) N nm data l gl procs labels o data.length F.pb F.l2 F.l1 hc.1.1.2.1 hall (by omega) hval (fun c=>K c) (K true) N 0 0 (by omega) (by have:=F.l1;omega) (by omega)
  rw[List.drop_zero]at hs
  refine Eq.trans hs ?_
  cases Bdw l o 0 0 l<;>rfl
def Bno(nm:List UInt8)(data:Aa5)(l:OpL)(gl:Ab3)(procs labels:Int):Int :=
 if A8f data l procs labels then 2 else if Big nm data l gl procs labels then (if Awf l procs labels then 0 else 61) else 60
structure Bii(N:Nat)(nm:List UInt8)(data:Aa5)(gl:Ab3):Prop where
 n1:nm.length≤1099511627776
 n2:nm.length<N
 d0:A8g data
 d1:Bnk data
 d3:∀d,d∈data→d.1.length<N∧d.2.2.length<N
 N1:40000<N
 g1:gl.length<N
 g2:gl.length≤1099511627776
theorem B7i{R:Type}{N:Nat}{nm:List UInt8}{data:Aa5}{gl:Ab3}(F:Bii N nm data gl)(l:OpL)(procs labels:Int)(K:Int→Option R) :
  Agh N nm data l gl procs labels K=K (Bno nm data l gl procs labels):=by
 simp only[Agh,Bcl]
 rw[B7a N _ _ _ _ _ _ F.d0 (by have:=F.N1;omega)]
 unfold Bno
 cases h:A8f data l procs labels
 case true=>rfl
 simp only[A8f,Bool.or_eq_false_iff,decide_eq_false_iff_not]at h
 have G:B7e N nm data l gl procs labels:=⟨F.n1,F.n2,by have:=F.N1;omega,by omega,F.d1,by omega,F.d3,by have:=F.N1;omega,F.g1,F.g2,by omega,by omega⟩
 rw[if_neg (by decide),B7f G]
 cases hc:Big nm data l gl procs labels
 ·rfl
 rw[if_neg (by decide),Bz5 G hc]
 cases Awf l procs labels<;>rfl
theorem A0t(s:List Int)(i n:Nat)(v:Int):(s.set i v).getD n 0=if i=n∧i<s.length then v else s.getD n 0:=by
 rw[List.getD_eq_getElem?_getD,List.getElem?_set]
 by_cases h:i=n
 ·subst h
  by_cases h2:i<s.length
  ·simp[h2]
  ·simp[h2]
 ·simp[h,List.getD_eq_getElem?_getD]
def A9z:OpL→Int→Int→Option (Int×Int)
 |[],p,m=>some (p,m)
 |x::r,p,m=>if x.1=24 then (if x.2.1=p+1 then A9z r (p+1) m else none)
  else A9z r p (if x.1=19 then (if x.2.1 > m then x.2.1 else m) else m)
def Blg(l:OpL)(p m procs labels:Int):Bool:=match A9z l p m with|none=>false|some (p',m')=>p'==procs&&m'==labels
theorem Bkf{R:Type}(N:Nat)(a b c:Int)(K:Bool→Option R):Aa2 N a b c K=K (Ahu a):=by
 simp only[Aa2,Ahu]
 cases a != 20<;>cases a != 25<;>cases a != 26<;>cases a != 27<;>cases a != 29<;>cases a != 30<;>rfl
theorem Bnp{R:Type}(N:Nat)(a b c:Int)(K:Int→Option R):Abj N a b c K=K (Aai (a,b,c)):=by
 simp only[Abj,Bcz,Aeb,Aai]
 by_cases h1:a=20
 ·simp[h1]
 by_cases h2:a=21
 ·simp[h2]
 by_cases h3:a=22
 ·simp[h3]
 by_cases h4:a=27
 ·simp[h4]
 by_cases h5:a=29
 ·simp[h5]
 by_cases h6:a=30
 ·simp[h6]
 simp[h1,h2,h3,h4,h5,h6]
def Bt6(i:Nat)(x:Int×Int×Int)(r:OpL):Bool:=(!Ahu x.1||(Ad3 r != none&&Ad3 r != some 24))&&(decide (0<i)||x.1==24)
theorem Cgm{R:Type}(N:Nat)(p m c:Int)(nm:List UInt8)(data:Aa5)(l:OpL)(gl:Ab3)(procs labels:Int)(i:Nat)(x:Int×Int×Int)(hl:l.length≤1099511627776)(hi:i<l.length)(b:Bool→Option R)(a:Int→Int→Int→Int→List UInt8→Aa5→OpL→Ab3→Int→Int→Option R) :
  Ab8 N p m c i (decide (((i+1:Nat):Int)≥len l)) nm data l gl procs labels x.1 x.2.1 x.2.2 b a=if Bt6 i x (l.drop (i+1))=true then a p m c i nm data l gl procs labels else b false:=by
 simp only[Ab8,A42,Bkf]
 have first:(if ((i:Int)==0)=true then (if (x.1 != 24)=true then b false else a p m c i nm data l gl procs labels) else a p m c i nm data l gl procs labels)=if (decide (0<i)||x.1==24)=true then a p m c i nm data l gl procs labels else b false:=by
  by_cases h0:i=0
  ·subst h0
   rw[if_pos (by decide)]
   unfold bne
   cases x.1==24<;>rfl
  ·rw[if_neg (by simp;omega),show decide (0<i)=true by simp;omega];rfl
 rw[first]
 unfold Bt6
 rw[Bte,Ac3 (by omega)]
 cases Ahu x.1
 ·rfl
 rw[if_pos rfl]
 by_cases h:i+1<l.length
 ·rw[show decide (((i+1:Nat):Int)≥len l)=false by simp only[len,decide_eq_false_iff_not];omega,if_neg (by decide),if_pos h]
  rw[if_pos (by simp only[len];omega),show l.getD (Int.toNat ((i+1:Nat):Int)) (0,0,0)=Acg l (i+1) by unfold Acg;rw[Int.toNat_natCast]]
  by_cases h24:(Acg l (i+1)).1=24
  ·rw[if_pos (by simpa using h24),h24];rfl
  ·rw[if_neg (by simpa using h24),show (some (Acg l (i+1)).1 != some 24)=true by simpa using h24];rfl
 ·rw[show decide (((i+1:Nat):Int)≥len l)=true by simp only[len,decide_eq_true_eq];omega,if_pos rfl,if_neg h];rfl
theorem B8n(c:Nat)(x:Int×Int×Int)(r:OpL)(hx:1≤x.1):Ae8 c (x::r)=(decide (0<c)==(x.1==30)&&(x.1 != 19||(Ad3 r==some 18||Ad3 r==some 28||Ad3 r==some 19))&&(!Ahu x.1||(Ad3 r != none&&Ad3 r != some 24))&&Ae8 (if x.1=29 then x.2.2.toNat else c-1) r):=by
 cases c with
 |succ c=>
  rw[Ae8,show decide (0<c+1)=true by simp]
  by_cases h:x.1=30
  ·rw[h];simp[Ahu]
  ·have h':(x.1==30)=false:=by simpa using h
   rw[h'];rfl
 |zero=>
  rw[Ae8,show decide (0<0)=false by decide]
  by_cases h:x.1=30
  ·rw[h];simp
  ·have h':(x.1==30)=false:=by simpa using h
   have h2:(x.1 != 30)=true:=by simpa using h
   rw[h',h2]
   by_cases h29:x.1=29
   ·rw[if_pos h29,if_pos h29,h29];simp[Ahu]
   ·rw[if_neg h29,if_neg h29];simp only[A0s,Bool.true_and];rfl
theorem B8o(x:Int×Int×Int)(r:OpL)(p m:Int):A9z (x::r) p m=if x.1=24 then (if x.2.1=p+1 then A9z r (p+1) m else none) else A9z r p (if x.1=19 then (if x.2.1 > m then x.2.1 else m) else m):=rfl
theorem Cgn{R:Type}(N:Nat)(nm:List UInt8)(data:Aa5)(l:OpL)(gl:Ab3)(procs labels:Int)(hl:l.length≤1099511627776)(hop:∀o,o∈l→1≤o.1)(hM:∀o,o∈l→o.1=29→0≤o.2.2∧o.2.2≤1000)(K:Bool→Option R) :
  ∀(k i:Nat) (p m:Int) (c:Nat),i≤l.length→l.length-i<k→0≤p→p≤i→c≤1000→
  Ac5 N k p m c i nm data l gl procs labels (fun a=>K a) (fun b d e j n q s f g=>if ((e==(0:Int))=true) then (if ((b==f)=true) then (K ((d==g))) else (K false)) else (K false)) =
   K (Ae8 c (l.drop i)&&(decide (0<i)||Al7 l)&&Blg (l.drop i) p m procs labels):=by
 intro k
 induction k with
 |zero=>intro i _ _ _ _ h;omega
 |succ k ih=>
  intro i p m c hi hk hp hpi hc
  simp only[Ac5,A7x]
  by_cases hlt:i<l.length
  case neg=>
   rw[if_neg (by simp[len];omega),List.drop_eq_nil_of_le (by omega)]
   have hf:(decide (0<i)||Al7 l)=true:=by
    by_cases h0:0<i
    ·simp[h0]
    ·have:l=[]:=List.eq_nil_of_length_eq_zero (by omega)
     subst this;simp[Al7,Ad3]
   rw[hf,Blg,A9z]
   simp only[Ae8,Bool.and_true]
   cases c with
   |zero=>
    rw[if_pos (by decide)]
    simp only[beq_self_eq_true,Bool.true_and]
    cases hpp:p==procs<;>simp
   |succ c=>simp;omega
  have hin:(0:Int)≤i∧(i:Int)<len l:=by simp only[len];omega
  have hop':=hop l[i] (List.getElem_mem hlt)
  have hM':=hM l[i] (List.getElem_mem hlt)
  have hhd:Ad3 (l.drop (i+1))=if i+1<l.length then some (Acg l (i+1)).1 else none:=Bte
  rw[if_pos (by simp[len];omega),if_pos hin,Ahx _ _ hlt,List.drop_eq_getElem_cons hlt]
  have hfst:(decide (0<i)||Al7 l)=(decide (0<i)||(l[i]).1==24):=by
   by_cases h0:0<i
   ·simp[h0]
   ·obtain rfl:i=0:=by omega
    cases l with
    |nil=>simp at hlt
    |cons y r=>simp[Al7,Ad3]
  rw[hfst]
  obtain⟨x,hx⟩:∃x,l[i]=x:=⟨_,rfl⟩
  simp only[hx]at hop' hM' ⊢
  rw[B8n c x _ hop']
  have hcd:decide ((c:Int) > 0)=decide (0<c):=by congr 1;simp
  rw[hcd]
  by_cases h1:(decide (0<c)==(x.1==30))=true
  case neg=>
   have h1':(decide (0<c)==(x.1==30))=false:=by simpa using h1
   rw[h1',if_pos (by decide)];simp
  rw[h1,if_neg (by decide),Bool.true_and]
  have rest:∀c1:Nat,c1=c-1→Adj N p m (c1:Int) i nm data l gl procs labels x.1 x.2.1 x.2.2 (fun a=>K a) (fun b d e j n q s f g t=>Ac5 N k b d e (wi (j+1)) n q s f g t (fun a=>K a) (fun b d e j n q s f g=>if ((e==(0:Int))=true) then (if ((b==f)=true) then (K ((d==g))) else (K false)) else (K false))) =
    K ((x.1 != 19||(Ad3 (l.drop (i+1))==some 18||Ad3 (l.drop (i+1))==some 28||Ad3 (l.drop (i+1))==some 19))&&(!Ahu x.1||(Ad3 (l.drop (i+1)) != none&&Ad3 (l.drop (i+1)) != some 24))&&Ae8 (if x.1=29 then x.2.2.toNat else c-1) (l.drop (i+1))&&(decide (0<i)||x.1==24)&&Blg (x::l.drop (i+1)) p m procs labels):=by
   intro c1 hc1
   have fin:∀(p2 m2:Int) (c2:Nat),0≤p2→p2≤i+1→c2≤1000→Ab8 N p2 m2 c2 i (decide (((i+1:Nat):Int)≥len l)) nm data l gl procs labels x.1 x.2.1 x.2.2 (fun a=>K a) (fun b d e j n q s f g t=>Ac5 N k b d e (wi (j+1)) n q s f g t (fun a=>K a) (fun b d e j n q s f g=>if ((e==(0:Int))=true) then (if ((b==f)=true) then (K ((d==g))) else (K false)) else (K false))) =
     K (Bt6 i x (l.drop (i+1))&&Ae8 c2 (l.drop (i+1))&&Blg (l.drop (i+1)) p2 m2 procs labels):=by
    intro p2 m2 c2 h0 h2 h3
    rw[Cgm N p2 m2 c2 nm data l gl procs labels i x hl hlt]
    by_cases he:Bt6 i x (l.drop (i+1))=true
    ·rw[if_pos he,he,Ac3 (by omega),ih (i+1) p2 m2 c2 (by omega) (by omega) h0 (by omega) h3,show decide (0<i+1)=true by simp];simp
    ·rw[if_neg he,show Bt6 i x (l.drop (i+1))=false by simpa using he];rfl
   simp only[Adj,A43]
   rw[Ac3 (by omega)]
   have hw:wi (p+1)=p+1:=Agj (by omega) (by omega)
   unfold Bt6 at fin
   unfold Blg at fin ⊢
   rw[B8o]
   by_cases h24:x.1=24
   ·rw[if_pos (by simpa using h24),hw,if_pos h24,if_neg (show ¬x.1=29 by omega),show (x.1 != 19)=true by rw[h24];rfl,Bool.true_or,Bool.true_and]
    by_cases he:x.2.1=p+1
    ·rw[if_neg (by simp[he]),if_pos he,fin (p+1) m c1 (by omega) (by omega) (by omega),hc1]
     congr 1
     cases (!Ahu x.1||(Ad3 (l.drop (i+1)) != none&&Ad3 (l.drop (i+1)) != some 24))<;>cases (decide (0<i)||x.1==24)<;>cases Ae8 (c-1) (l.drop (i+1))<;>rfl
    ·rw[if_pos (by simpa using he),if_neg he];simp
   rw[if_neg (by simpa using h24),if_neg h24]
   by_cases h29:x.1=29
   ·rw[if_pos (by simpa using h29),if_pos h29,if_neg (show ¬x.1=19 by omega),show (x.1 != 19)=true by rw[h29];rfl,Bool.true_or,Bool.true_and]
    have hm:=hM' h29
    obtain⟨M,hMe⟩:=Int.eq_ofNat_of_zero_le hm.1
    have fM:=fin p m M hp (by omega) (by omega)
    rw[hMe]at fM
    rw[hMe,fM,Int.toNat_natCast]
    congr 1
    cases (!Ahu x.1||(Ad3 (l.drop (i+1)) != none&&Ad3 (l.drop (i+1)) != some 24))<;>cases (decide (0<i)||x.1==24)<;>cases Ae8 M (l.drop (i+1))<;>rfl
   rw[if_neg (by simpa using h29),if_neg h29]
   by_cases h19:x.1=19
   ·rw[if_pos (by simpa using h19),if_pos h19,show (x.1 != 19)=false by rw[h19];rfl,Bool.false_or]
    have fin2:=fin p (if x.2.1 > m then x.2.1 else m) c1 hp (by omega) (by omega)
    by_cases hlt1:i+1<l.length
    ·have hg:l.getD (Int.toNat ((i+1:Nat):Int)) (0,0,0)=Acg l (i+1):=by unfold Acg;rw[Int.toNat_natCast]
     have hin1:(0:Int)≤((i+1:Nat):Int)∧((i+1:Nat):Int)<len l:=by simp only[len];omega
     have hx1:decide (((i+1:Nat):Int)≥len l)=false:=by simp only[len,decide_eq_false_iff_not];omega
     rw[hx1]at fin2 ⊢
     rw[if_neg (by decide)]
     simp only[if_pos hin1,hg]
     rw[hhd,if_pos hlt1]
     rw[hhd,if_pos hlt1]at fin2
     have comm:((!Ahu x.1||(some (Acg l (i+1)).1 != none&&some (Acg l (i+1)).1 != some 24))&&(decide (0<i)||x.1==24)&&Ae8 c1 (l.drop (i+1))&&(match A9z (l.drop (i+1)) p (if x.2.1 > m then x.2.1 else m) with|none=>false|some (p',m')=>p'==procs&&m'==labels)) =
       (true&&(!Ahu x.1||(some (Acg l (i+1)).1 != none&&some (Acg l (i+1)).1 != some 24))&&Ae8 (c-1) (l.drop (i+1))&&(decide (0<i)||x.1==24)&&(match A9z (l.drop (i+1)) p (if x.2.1 > m then x.2.1 else m) with|none=>false|some (p',m')=>p'==procs&&m'==labels)):=by
      rw[hc1]
      cases (!Ahu x.1||(some (Acg l (i+1)).1 != none&&some (Acg l (i+1)).1 != some 24))<;>cases (decide (0<i)||x.1==24)<;>cases Ae8 (c-1) (l.drop (i+1))<;>rfl
     by_cases a1:(Acg l (i+1)).1=18
     ·rw[if_neg (by simpa using a1),show (some (Acg l (i+1)).1==some 18||some (Acg l (i+1)).1==some 28||some (Acg l (i+1)).1==some 19)=true by rw[a1];rfl]
      exact fin2.trans (by rw[comm])
     rw[if_pos (by simpa using a1)]
     by_cases a2:(Acg l (i+1)).1=28
     ·rw[if_neg (by simpa using a2),show (some (Acg l (i+1)).1==some 18||some (Acg l (i+1)).1==some 28||some (Acg l (i+1)).1==some 19)=true by rw[a2];rfl]
      exact fin2.trans (by rw[comm])
     rw[if_pos (by simpa using a2)]
     by_cases a3:(Acg l (i+1)).1=19
     ·rw[if_neg (by simpa using a3),show (some (Acg l (i+1)).1==some 18||some (Acg l (i+1)).1==some 28||some (Acg l (i+1)).1==some 19)=true by rw[a3];rfl]
      exact fin2.trans (by rw[comm])
     ·have b1:(some (Acg l (i+1)).1==some 18)=false:=by simpa using a1
      have b2:(some (Acg l (i+1)).1==some 28)=false:=by simpa using a2
      have b3:(some (Acg l (i+1)).1==some 19)=false:=by simpa using a3
      rw[if_pos (by simpa using a3),b1,b2,b3];rfl
    ·rw[if_pos (by simp only[len,decide_eq_true_eq];omega),hhd,if_neg hlt1];rfl
   ·rw[if_neg (by simpa using h19),if_neg h19,show (x.1 != 19)=true by simpa using h19,Bool.true_or,Bool.true_and,fin p m c1 hp (by omega) (by omega),hc1]
    congr 1
    cases (!Ahu x.1||(Ad3 (l.drop (i+1)) != none&&Ad3 (l.drop (i+1)) != some 24))<;>cases (decide (0<i)||x.1==24)<;>cases Ae8 (c-1) (l.drop (i+1))<;>rfl
  by_cases h0:0<c
  ·rw[if_pos (by simpa using h0)]
   have hw:wi ((c:Int)-1)=((c-1:Nat):Int):=by rw[Agj (by omega) (by omega)];omega
   rw[hw]
   exact rest (c-1) rfl
  ·rw[if_neg (by simpa using h0)]
   obtain rfl:c=0:=by omega
   exact rest 0 rfl
theorem Cl0{R:Type}(N:Nat)(nm:List UInt8)(data:Aa5)(l:OpL)(gl:Ab3)(procs labels:Int)(hl:l.length≤1099511627776)(hN:l.length<N)(hop:∀o,o∈l→1≤o.1)(hM:∀o,o∈l→o.1=29→0≤o.2.2∧o.2.2≤1000)(K:Bool→Option R) :
  Ahi N nm data l gl procs labels K=K (Ae8 0 l&&Al7 l&&Blg l 0 0 procs labels):=by
 simp only[Ahi,Bcw]
 have:=Cgn N nm data l gl procs labels hl hop hM K N 0 0 0 0 (by omega) (by omega) (by omega) (by omega) (by omega)
 rw[show ((0:Nat):Int)=0 from rfl,List.drop_zero]at this
 exact this
def plR:Nat→OpL→Int→List Int→List Int→Option (List Int×List Int)
 | _,[],_,pl,pr=>some (pl,pr)
 |i,x::r,p,pl,pr=>
  if x.1=19 then (if 0≤pl.getD x.2.1.toNat 0 then none else plR (i+1) r p (pl.set x.2.1.toNat i) (pr.set i p))
  else plR (i+1) r (if x.1=24 then p+1 else p) pl (pr.set i (if x.1=24 then p+1 else p))
def Bo1:Nat→OpL→List Int→List Int→Bool
 | _,[],_,_=>true
 |i,x::r,pl,pr=>(decide (Aai x≤0)||(decide (0≤pl.getD (Aai x).toNat 0)&&pr.getD (pl.getD (Aai x).toNat 0).toNat 0==pr.getD i 0))&&Bo1 (i+1) r pl pr
theorem Bnq:∀(r:OpL) (i:Nat) (p:Int) (pl pr:List Int) (q:List Int×List Int),plR i r p pl pr=some q→q.1.length=pl.length∧q.2.length=pr.length
 |[],_,_,_,_,q,h=>by simp only[plR,Option.some.injEq]at h;subst h;exact⟨rfl,rfl⟩
 |x::r,i,p,pl,pr,q,h=>by
  rw[plR]at h
  split at h
  ·split at h
   ·cases h
   ·have:=Bnq r _ _ _ _ q h
    simpa using this
  ·have:=Bnq r _ _ _ _ q h
   simpa using this
theorem Ce7:∀(r:OpL) (i:Nat) (p:Int) (pl pr:List Int) (q:List Int×List Int) (L:Int),plR i r p pl pr=some q→((i+r.length:Nat):Int)≤L→(∀n,pl.getD n 0<L∨pl.getD n 0≤0)→(∀n,q.1.getD n 0<L∨q.1.getD n 0≤0)
 |[],_,_,_,_,q,L,h,_,hv=>by simp only[plR,Option.some.injEq]at h;subst h;exact hv
 |x::r,i,p,pl,pr,q,L,h,hL,hv=>by
  rw[List.length_cons]at hL
  rw[plR]at h
  split at h
  ·split at h
   ·cases h
   ·refine Ce7 r _ _ _ _ q L h (by omega) (fun n=>?_)
    rw[A0t]
    split
    ·left;omega
    ·exact hv n
  ·exact Ce7 r _ _ _ _ q L h (by omega) hv
theorem Cbl{R:Type}(N:Nat)(nm:List UInt8)(data:Aa5)(l:OpL)(gl:Ab3)(procs labels:Int)(a b pr:List Int)(hb:labels≤1000000)(K:List UInt8→Aa5→OpL→Ab3→Int→Int→List Int→List Int→List Int→List Int→Option R) :
  ∀(m k i:Nat) (pl:List Int),m<k→(i:Int)+m=labels+1→(pl.length:Int)=labels+1→
  Ab9 N k i nm data l gl procs labels a b pl pr K=K nm data l gl procs labels a b (pl.take i++List.replicate m (-1)) pr:=by
 intro m
 induction m with
 |zero=>
  intro k i pl hk hi hl
  obtain⟨k,rfl⟩:=exk hk
  simp only[Ab9,Av7]
  rw[if_neg (by simp only[decide_eq_true_eq];omega),List.take_of_length_le (by omega)];simp
 |succ m ih=>
  intro k i pl hk hi hl
  obtain⟨k,rfl⟩:=exk hk
  simp only[Ab9,Av7]
  rw[if_pos (by simp only[decide_eq_true_eq];omega),if_pos (by simp only[len];omega),Ac3 (by omega),Int.toNat_natCast,ih k (i+1) _ (by omega) (by omega) (by rw[List.length_set];exact hl)]
  have e:(pl.set i (-1)).take (i+1)=pl.take i++[-1]:=by
   rw[List.take_add_one,List.take_set,List.getElem?_set_self (by omega),List.set_eq_of_length_le (by rw[List.length_take];omega)];rfl
  rw[e,List.append_assoc,List.replicate_succ];rfl
theorem B7j{R:Type}(N:Nat)(nm:List UInt8)(data:Aa5)(l:OpL)(gl:Ab3)(procs labels:Int)(d e:List Int)(hl:l.length≤1099511627776)(hL:∀o,o∈l→o.1=19→1≤o.2.1∧o.2.1≤labels)(c:Bool→List Int→List Int→Option R)(f:List UInt8→Aa5→OpL→Ab3→Int→Int→List Int→List Int→List Int→List Int→Option R)(hK:∀a b a' b',c false a b=c false a' b') :
  ∀(k i:Nat) (p:Int) (pl pr:List Int),i≤l.length→l.length-i<k→0≤p→p≤i→(pl.length:Int)=labels+1→pr.length=l.length→
  Abv N k p i nm data l gl procs labels d e pl pr c f=match plR i (l.drop i) p pl pr with|none=>c false [] []|some (pl',pr')=>f nm data l gl procs labels d e pl' pr':=by
 intro k
 induction k with
 |zero=>intro i _ _ _ _ h;omega
 |succ k ih=>
  intro i p pl pr hi hk hp hpi hpl hpr
  simp only[Abv,A1x]
  by_cases hlt:i<l.length
  case neg=>
   rw[if_neg (by simp[len];omega),List.drop_eq_nil_of_le (by omega)];rfl
  have hin:(0:Int)≤i∧(i:Int)<len l:=by simp only[len];omega
  have hinp:(0:Int)≤i∧(i:Int)<len pr:=by simp only[len];omega
  have hL':=hL l[i] (List.getElem_mem hlt)
  rw[if_pos (by simp[len];omega),if_pos hin,Ahx _ _ hlt,List.drop_eq_getElem_cons hlt,plR]
  simp only[Acd,if_pos hin,if_pos hinp,Ahx _ _ hlt]
  obtain⟨x,hx⟩:∃x,l[i]=x:=⟨_,rfl⟩
  simp only[hx]at hL' ⊢
  rw[Ac3 (by omega),Int.toNat_natCast]
  have hw:wi (p+1)=p+1:=Agj (by omega) (by omega)
  by_cases h24:x.1=24
  ·rw[if_pos (by simpa using h24),if_neg (show ¬(x.1==19)=true by rw[h24];decide),if_neg (show ¬x.1=19 by omega),if_pos h24,hw]
   exact ih (i+1) (p+1) pl _ (by omega) (by omega) (by omega) (by omega) hpl (by rw[List.length_set];exact hpr)
  rw[if_neg (by simpa using h24),if_neg h24]
  by_cases h19:x.1=19
  ·have hv:=hL' h19
   have hip:0≤x.2.1∧x.2.1<len pl:=by simp only[len];omega
   rw[if_pos (by simpa using h19),if_pos h19]
   simp only[if_pos hip]
   by_cases h0:0≤pl.getD x.2.1.toNat 0
   ·rw[if_pos (by simpa using h0),if_pos h0]
    exact hK _ _ _ _
   ·rw[if_neg (by simpa using h0),if_neg h0]
    exact ih (i+1) p _ _ (by omega) (by omega) hp (by omega) (by rw[List.length_set];exact hpl) (by rw[List.length_set];exact hpr)
  ·rw[if_neg (by simpa using h19),if_neg h19]
   exact ih (i+1) p pl _ (by omega) (by omega) hp (by omega) hpl (by rw[List.length_set];exact hpr)
theorem B7k{R:Type}(N:Nat)(nm:List UInt8)(data:Aa5)(l:OpL)(gl:Ab3)(procs labels:Int)(a b pl pr:List Int)(hl:l.length≤1099511627776)(hn:∀x,x∈l→Aai x=0∨(1≤Aai x∧Aai x≤labels))(hpl:(pl.length:Int)=labels+1)(hpr:pr.length=l.length)(hv:∀n,pl.getD n 0<l.length∨pl.getD n 0≤0)(c:Bool→List Int→List Int→Option R)(d:List Int→List Int→List Int→List Int→Option R) :
  ∀(k i:Nat),i≤l.length→l.length-i<k→
  Abq N k i nm data l gl procs labels a b pl pr c d=if Bo1 i (l.drop i) pl pr=true then d a b pl pr else c false pl pr:=by
 intro k
 induction k with
 |zero=>intro i _ h;omega
 |succ k ih=>
  intro i hi hk
  simp only[Abq,A10]
  by_cases hlt:i<l.length
  case neg=>
   rw[if_neg (by simp[len];omega),List.drop_eq_nil_of_le (by omega)];rfl
  have hin:(0:Int)≤i∧(i:Int)<len l:=by simp only[len];omega
  have hinp:(0:Int)≤i∧(i:Int)<len pr:=by simp only[len];omega
  have hn':=hn l[i] (List.getElem_mem hlt)
  rw[if_pos (by simp[len];omega),if_pos hin,Ahx _ _ hlt,List.drop_eq_getElem_cons hlt,Bo1]
  obtain⟨x,hx⟩:∃x,l[i]=x:=⟨_,rfl⟩
  simp only[hx,Bnp]at hn' ⊢
  rw[show (x.1,x.2.1,x.2.2)=x from rfl,Ac3 (by omega),ih (i+1) (by omega) (by omega)]
  by_cases h0:Aai x > 0
  ·have hip:0≤Aai x∧Aai x<len pl:=by simp only[len];omega
   rw[if_pos (by simpa using h0),if_pos hip,show decide (Aai x≤0)=false by simp;omega,Bool.false_or]
   have hv':=hv (Aai x).toNat
   by_cases hneg:pl.getD (Aai x).toNat 0<0
   ·rw[if_pos (by simpa using hneg),show decide (0≤pl.getD (Aai x).toNat 0)=false from decide_eq_false (by omega)];rfl
   ·rw[if_neg (by simpa using hneg),if_pos hip,if_pos (by simp only[len];omega),if_pos hinp,show decide (0≤pl.getD (Aai x).toNat 0)=true from decide_eq_true (by omega),Bool.true_and,Int.toNat_natCast]
    by_cases he:pr.getD (pl.getD (Aai x).toNat 0).toNat 0=pr.getD i 0
    ·rw[if_neg (by simpa using he),show (pr.getD (pl.getD (Aai x).toNat 0).toNat 0==pr.getD i 0)=true by simpa using he,Bool.true_and]
    ·rw[if_pos (by simpa using he),show (pr.getD (pl.getD (Aai x).toNat 0).toNat 0==pr.getD i 0)=false by simpa using he];rfl
  ·rw[if_neg (by simpa using h0),show decide (Aai x≤0)=true by simp;omega,Bool.true_or,Bool.true_and]
def A5x(l:OpL)(labels:Int):Option (List Int×List Int) :=
 match plR 0 l 0 (List.replicate (labels+1).toNat (-1)) (List.replicate l.length 0) with
 |none=>none
 |some (pl,pr)=>if Bo1 0 l pl pr=true then some (pl,pr) else none
theorem Cka{R:Type}(N:Nat)(nm:List UInt8)(data:Aa5)(l:OpL)(gl:Ab3)(procs labels:Int)(hl:l.length<N)(hl2:l.length≤1000000)(hb:0≤labels∧labels≤20000)(hN:20001<N)(hL:∀o,o∈l→o.1=19→1≤o.2.1∧o.2.1≤labels)(hn:∀x,x∈l→Aai x=0∨(1≤Aai x∧Aai x≤labels))(K:Bool→List Int→List Int→Option R)(hK:∀a b a' b',K false a b=K false a' b') :
  Agr N nm data l gl procs labels K=match A5x l labels with|none=>K false [] []|some (pl,pr)=>K true pl pr:=by
 have hw:wi (labels+1)=labels+1:=Agj (by omega) (by omega)
 simp only[Agr,A9q,hw]
 rw[if_pos (by omega),if_pos (by simp only[len];omega)]
 have h7:=Cbl (R:=R) N nm data l gl procs labels [] [] (List.replicate (Int.toNat (len l)) 0) (by omega) (fun C D E F G H I J L M=>Abv N N 0 0 C D E F G H I J L M (fun h i j=>K h i j) (fun m p r s t u v w y z=>Abq N N 0 m p r s t u v w y z (fun c d e=>K c d e) (fun A B f g=>K true f g)))
  (labels+1).toNat N 0 (List.replicate (labels+1).toNat 0) (by omega) (by omega) (by simp;omega)
 rw[show ((0:Nat):Int)=0 from rfl]at h7
 refine Eq.trans h7 ?_
 rw[List.take_zero,List.nil_append,show Int.toNat (len l)=l.length by simp[len]]
 have h17:=B7j (R:=R) N nm data l gl procs labels [] [] (by omega) hL (fun h i j=>K h i j) (fun m p r s t u v w y z=>Abq N N 0 m p r s t u v w y z (fun c d e=>K c d e) (fun A B f g=>K true f g)) hK
  N 0 0 (List.replicate (labels+1).toNat (-1)) (List.replicate l.length 0) (by omega) (by omega) (by omega) (by omega) (by simp;omega) (by simp)
 rw[show ((0:Nat):Int)=0 from rfl,List.drop_zero]at h17
 refine Eq.trans h17 ?_
 unfold A5x
 cases hp:plR 0 l 0 (List.replicate (labels+1).toNat (-1)) (List.replicate l.length 0) with
 |none=>rfl
 |some q=>
  obtain⟨pl,pr⟩:=q
  have hlen:=Bnq _ _ _ _ _ _ hp
  have hval:=Ce7 _ _ _ _ _ _ (l.length:Int) hp (by omega) (fun n=>by
   rw[List.getD_eq_getElem?_getD,List.getElem?_replicate];split<;>simp)
  simp only[List.length_replicate]at hlen
  dsimp only
  have h37:=B7k (R:=R) N nm data l gl procs labels [] [] pl pr (by omega) hn (by omega) (by omega) hval (fun c d e=>K c d e) (fun A B f g=>K true f g) N 0 (by omega) (by omega)
  rw[show ((0:Nat):Int)=0 from rfl,List.drop_zero]at h37
  refine Eq.trans h37 ?_
  cases Bo1 0 l pl pr
  ·exact hK _ _ _ _
  ·rfl
def Ce8(i:Nat)(o a pl pr:List Int):Prop :=
 ∀n,n<a.length→(a.getD n 0=0∧pl.getD n 0<0)∨(1≤a.getD n 0∧pl.getD n 0=o.getD n 0∧1≤o.getD n 0∧o.getD n 0<i∧pr.getD (o.getD n 0).toNat 0=a.getD n 0)
theorem Ce8.next{i:Nat}{o a pl pr:List Int}(h:Ce8 i o a pl pr)(v:Int):Ce8 (i+1) o a pl (pr.set i v):=by
 intro n hn
 rcases h n hn with h|⟨h1,h2,h3,h4,h5⟩
 ·exact .inl h
 ·refine .inr ⟨h1,h2,h3,by omega,?_⟩
  rw[A0t,if_neg (by omega)];exact h5
theorem Csp:∀(r:OpL) (i:Nat) (p m:Int) (o a pl pr:List Int),o.length=a.length→pl.length=a.length→pr.length=i+r.length→(∀x,x∈r→x.1=19→1≤x.2.1∧x.2.1<a.length)→0≤p→(1≤p→1≤i)→(p=0→Ad3 r=none∨Ad3 r=some 24)→Ce8 i o a pl pr→
  match plF i r p m o a with
  |none=>A9z r p m=none∨plR i r p pl pr=none
  |some (p',m',o',a')=>A9z r p m=some (p',m')∧∃pl' pr',plR i r p pl pr=some (pl',pr')∧Ce8 (i+r.length) o' a' pl' pr':=by
 intro r
 induction r with
 |nil=>intro i p m o a pl pr _ _ _ _ _ _ _ h;exact⟨rfl,pl,pr,rfl,h⟩
 |cons x r ih=>
  intro i p m o a pl pr ho hpl hpr hx hp hpi hp0 hinv
  rw[List.length_cons]at hpr
  have hL:i+(x::r).length=(i+1)+r.length:=by rw[List.length_cons];omega
  rw[hL,plF,A9z,plR]
  have hx':=hx x (by simp)
  have hr:∀y,y∈r→y.1=19→1≤y.2.1∧y.2.1<a.length:=fun y hy=>hx y (by simp[hy])
  by_cases h24:x.1=24
  ·rw[if_pos h24,if_pos h24,if_neg (show ¬x.1=19 by omega),if_pos h24]
   by_cases he:x.2.1=p+1
   ·rw[if_pos he,if_pos he]
    exact ih (i+1) (p+1) m o a pl _ ho hpl (by rw[List.length_set];omega) hr (by omega) (by omega) (by omega) (hinv.next _)
   ·rw[if_neg he,if_neg he];exact .inl rfl
  have hp1:1≤p:=by
   rcases Int.lt_or_le 0 p with h|h
   ·omega
   ·have:=hp0 (by omega)
    simp only[Ad3]at this
    rcases this with h|h
    ·cases h
    ·injection h with h;exact absurd h h24
  rw[if_neg h24,if_neg h24]
  by_cases h19:x.1=19
  ·have hv:=hx' h19
   rw[if_pos h19,if_pos h19,if_pos h19]
   have hi:=hinv x.2.1.toNat (by omega)
   by_cases h0:a.getD x.2.1.toNat 0≠0∨p=0
   ·rw[if_pos h0,if_pos (show 0≤pl.getD x.2.1.toNat 0 by omega)];exact .inr rfl
   ·rw[if_neg h0,if_neg (show ¬0≤pl.getD x.2.1.toNat 0 by omega)]
    refine ih (i+1) p _ (o.set x.2.1.toNat i) (a.set x.2.1.toNat p) (pl.set x.2.1.toNat i) (pr.set i p) (by rw[List.length_set,List.length_set];exact ho) (by rw[List.length_set,List.length_set];exact hpl) (by rw[List.length_set];omega) (by rw[List.length_set];exact hr) hp (by omega) (by omega) ?_
    intro n hn
    rw[List.length_set]at hn
    rw[A0t,A0t,A0t]
    by_cases hnn:x.2.1.toNat=n
    ·right
     rw[if_pos ⟨hnn,by omega⟩,if_pos ⟨hnn,by omega⟩,if_pos ⟨hnn,by omega⟩,Int.toNat_natCast,A0t,if_pos ⟨rfl,by omega⟩]
     exact⟨hp1,rfl,by have:=hpi hp1;omega,by omega,rfl⟩
    ·rw[if_neg (fun h=>hnn h.1),if_neg (fun h=>hnn h.1),if_neg (fun h=>hnn h.1)]
     exact hinv.next p n hn
  ·rw[if_neg h19,if_neg h19,if_neg h19,if_neg h24]
   exact ih (i+1) p m o a pl _ ho hpl (by rw[List.length_set];omega) hr hp (by omega) (by omega) (hinv.next _)
def Btg:OpL→Int→List Int
 |[],_=>[]
 |x::r,p=>(if x.1=24 then p+1 else p)::Btg r (if x.1=24 then p+1 else p)
theorem Chf:∀(r:OpL) (i:Nat) (p:Int) (pl pr:List Int) (q:List Int×List Int),plR i r p pl pr=some q→pr.length=i+r.length→(∀j,j<i→q.2.getD j 0=pr.getD j 0)∧q.2.drop i=Btg r p
 |[],i,p,pl,pr,q,h,hl=>by
  simp only[plR,Option.some.injEq]at h;subst h
  exact⟨fun _ _=>rfl,by rw[Btg];exact List.drop_eq_nil_of_le (by simp at hl;simp;omega)⟩
 |x::r,i,p,pl,pr,q,h,hl=>by
  rw[List.length_cons]at hl
  rw[Btg]
  have key:∀(p2:Int) (pl2:List Int),plR (i+1) r p2 pl2 (pr.set i p2)=some q→(∀j,j<i→q.2.getD j 0=pr.getD j 0)∧q.2.drop i=p2::Btg r p2:=by
   intro p2 pl2 h2
   have:=Chf r (i+1) p2 pl2 (pr.set i p2) q h2 (by rw[List.length_set];omega)
   refine⟨fun j hj=>?_,?_⟩
   ·rw[this.1 j (by omega),A0t,if_neg (by omega)]
   ·have hlen:=(Bnq r _ _ _ _ q h2).2
    rw[List.length_set]at hlen
    have h3:=this.1 i (by omega)
    rw[A0t,if_pos ⟨rfl,by omega⟩,List.getD_eq_getElem?_getD,List.getElem?_eq_getElem (by omega)]at h3
    rw[List.drop_eq_getElem_cons (by omega),this.2]
    simp only[Option.getD_some]at h3
    rw[h3]
  rw[plR]at h
  by_cases h24:x.1=24
  ·rw[if_neg (show ¬x.1=19 by omega),if_pos h24]at h
   rw[if_pos h24];exact key _ _ h
  ·rw[if_neg h24]at h ⊢
   split at h
   ·split at h
    ·cases h
    ·exact key _ _ h
   ·exact key _ _ h
theorem Cnz(o a pl pr:List Int)(I:Nat)(hinv:Ce8 I o a pl pr):∀(r:OpL) (i:Nat) (p m:Int),pr.drop i=Btg r p→A9z r p m≠none→0≤p→(p=0→Ad3 r=none∨Ad3 r=some 24)→(∀x,x∈r→Aai x=0∨(1≤Aai x∧Aai x<a.length))→
  Bo1 i r pl pr=Aue p r o a:=by
 intro r
 induction r with
 |nil=>intros;rfl
 |cons x r ih=>
  intro i p m hpr hs hp hp0 hn
  rw[Btg]at hpr
  have hlt:i<pr.length:=by
   rcases Nat.lt_or_ge i pr.length with h|h
   ·exact h
   ·rw[List.drop_eq_nil_of_le h]at hpr;cases hpr
  have hg:pr.getD i 0=(if x.1=24 then p+1 else p):=by
   rw[List.drop_eq_getElem_cons hlt]at hpr
   rw[List.getD_eq_getElem?_getD,List.getElem?_eq_getElem hlt];exact (List.cons.inj hpr).1
  have hd:pr.drop (i+1)=Btg r (if x.1=24 then p+1 else p):=by
   rw[List.drop_eq_getElem_cons hlt]at hpr;exact (List.cons.inj hpr).2
  have hn':=hn x (by simp)
  rw[Bo1,Aue,hg]
  have body:∀p2:Int,1≤p2→(decide (Aai x≤0)||(decide (0≤pl.getD (Aai x).toNat 0)&&pr.getD (pl.getD (Aai x).toNat 0).toNat 0==p2))=(decide (Aai x≤0)||(a.getD (Aai x).toNat 0==p2&&o.getD (Aai x).toNat 0 != 0)):=by
   intro p2 h2
   rcases hn' with h|h
   ·rw[h];rfl
   ·rcases hinv (Aai x).toNat (by omega) with ⟨e1,e2⟩|⟨e1,e2,e3,e4,e5⟩
    ·rw[e1,show decide (0≤pl.getD (Aai x).toNat 0)=false from decide_eq_false (by omega),show ((0:Int)==p2)=false from beq_eq_false_iff_ne.mpr (by omega)];rfl
    ·rw[e2,e5,show decide (0≤o.getD (Aai x).toNat 0)=true from decide_eq_true (by omega),show (o.getD (Aai x).toNat 0 != 0)=true from bne_iff_ne.mpr (by omega),Bool.true_and,Bool.and_true]
  rw[B8o]at hs
  have hr:∀y,y∈r→Aai y=0∨(1≤Aai y∧Aai y<a.length):=fun y hy=>hn y (by simp[hy])
  by_cases h24:x.1=24
  ·simp only[if_pos h24]at hs hd ⊢
   by_cases he:x.2.1=p+1
   ·rw[if_pos he]at hs
    rw[he,body _ (by omega),ih (i+1) (p+1) m hd hs (by omega) (by omega) hr]
   ·rw[if_neg he]at hs;exact absurd rfl hs
  ·simp only[if_neg h24]at hs hd ⊢
   have hp1:1≤p:=by
    rcases Int.lt_or_le 0 p with h|h
    ·omega
    ·have:=hp0 (by omega)
     simp only[Ad3]at this
     rcases this with h|h
     ·cases h
     ·injection h with h;exact absurd h h24
   rw[body _ hp1,ih (i+1) p _ hd hs hp (by omega) hr]
theorem Ckb(l:OpL)(procs labels:Int)(hb:0≤labels)(hf:Al7 l=true)(hL:∀o,o∈l→o.1=19→1≤o.2.1∧o.2.1≤labels)(hn:∀x,x∈l→Aai x=0∨(1≤Aai x∧Aai x≤labels)) :
  (match Alv l procs labels with|none=>false|some (b,o,a)=>b&&Aue 0 l o a)=(Blg l 0 0 procs labels&&(A5x l labels).isSome)∧
  ∀b o a pl pr,Alv l procs labels=some (b,o,a)→Aue 0 l o a=true→A5x l labels=some (pl,pr)→∀n:Nat,n<(labels+1).toNat→(a.getD n 0=0∧pl.getD n 0<0)∨(1≤a.getD n 0∧pl.getD n 0=o.getD n 0∧1≤o.getD n 0∧o.getD n 0<l.length):=by
 have hlen:(List.replicate (labels+1).toNat (0:Int)).length=(labels+1).toNat:=List.length_replicate
 have hrel:=Csp l 0 0 0 (List.replicate (labels+1).toNat 0) (List.replicate (labels+1).toNat 0) (List.replicate (labels+1).toNat (-1)) (List.replicate l.length 0) rfl (by simp) (by simp) (fun x hx h19=>by have:=hL x hx h19;rw[hlen];omega) (by omega) (by omega)
  (fun _=>by
   unfold Al7 at hf
   simp only[Bool.or_eq_true,beq_iff_eq]at hf;exact hf)
  (fun n hn=>by
   left
   rw[hlen]at hn
   simp only[List.getD_eq_getElem?_getD,List.getElem?_replicate,if_pos hn,Option.getD_some]
   exact⟨trivial,by omega⟩)
 have hh:Ad3 l=none∨Ad3 l=some 24:=by
  unfold Al7 at hf
  simp only[Bool.or_eq_true,beq_iff_eq]at hf;exact hf
 unfold Alv A5x Blg
 cases hp:plF 0 l 0 0 (List.replicate (labels+1).toNat 0) (List.replicate (labels+1).toNat 0) with
 |none=>
  rw[hp]at hrel
  refine⟨?_,fun _ _ _ _ _ h=>by cases h⟩
  rcases hrel with h|h
  ·rw[h];rfl
  ·rw[h];simp
 |some q=>
  obtain⟨p,m,o,a⟩:=q
  rw[hp]at hrel
  obtain⟨h1,pl,pr,h2,h3⟩:=hrel
  have hal:=Che _ _ _ _ _ _ _ hp
  simp only[List.length_replicate]at hal
  have hrun:=Chf l 0 0 _ _ _ h2 (by simp)
  rw[List.drop_zero]at hrun
  have hu:=Cnz o a pl pr (0+l.length) h3 l 0 0 0 hrun.2 (by rw[h1];simp) (by omega) (fun _=>hh) (fun x hx=>by
   have:=hn x hx
   rw[hal.2];omega)
  rw[h1,h2]
  simp only[hu]
  refine⟨?_,?_⟩
  ·cases Aue 0 l o a<;>simp
  ·intro b o' a' pl' pr' e1 e2 e3 n hn'
   simp only[Option.some.injEq,Prod.mk.injEq]at e1
   obtain⟨_,rfl,rfl⟩:=e1
   rw[if_pos e2]at e3
   simp only[Option.some.injEq,Prod.mk.injEq]at e3
   obtain⟨rfl,rfl⟩:=e3
   rcases h3 n (by omega) with h|⟨k1,k2,k3,k4,k5⟩
   ·exact .inl h
   ·exact .inr ⟨k1,k2,k3,by omega⟩
theorem B7l{R:Type}(N:Nat)(x:Int×Int×Int)(d:Int)(hx:1≤x.1∧x.1≤30)(hd:0≤d∧d≤4000)(hm:x.1=24∨x.1=23∨x.1=28→0≤x.2.1∧x.2.1≤4000∧0≤x.2.2∧x.2.2≤4000)(K:Int→Option R) :
  Agx N x.1 x.2.1 x.2.2 d K=K (Aha x d):=by
 obtain⟨op,n,m⟩:=x
 simp only at hx hm
 have w1:wi (d+1)=d+1:=Agj (by omega) (by omega)
 have w2:wi (d-1)=d-1:=Agj (by omega) (by omega)
 have w3:wi (d-2)=d-2:=Agj (by omega) (by omega)
 have w4:wi (d-3)=d-3:=Agj (by omega) (by omega)
 simp only[Agx,Bc2,Aca,A48,Abw,A47,Adk,w1,w2,w3,w4]
 by_cases h24:op=24
 ·subst h24
  rw[show wi (2+m)=2+m from Agj (by have:=hm (.inl rfl);omega) (by have:=hm (.inl rfl);omega)]
  simp[Aha]
 by_cases h23:op=23
 ·subst h23
  rw[show wi (n+1)=n+1 from Agj (by have:=hm (.inr (.inl rfl));omega) (by have:=hm (.inr (.inl rfl));omega)]
  simp[Aha]
 by_cases h28:op=28
 ·subst h28
  rw[show wi (n+1)=n+1 from Agj (by have:=hm (.inr (.inr rfl));omega) (by have:=hm (.inr (.inr rfl));omega)]
  simp[Aha]
 rcases Bni hx with rfl|rfl|rfl|rfl|rfl|rfl|rfl|rfl|rfl|rfl|rfl|rfl|rfl|rfl|rfl|rfl|rfl|rfl|rfl|rfl|rfl|rfl|rfl|rfl|rfl|rfl|rfl|rfl|rfl|rfl <;>
  first
  |(exfalso;omega)
  |(simp[Aha,kT,Ama];done)
  |(simp[Aha,kT,Ama];congr 1;omega)
theorem B7m{R:Type}(N:Nat)(x:Int×Int×Int)(hx:1≤x.1∧x.1≤30)(K:Int→Option R):Afv N x.1 x.2.1 x.2.2 K=K (kT x.1).2.2.1:=by
 obtain⟨op,n,m⟩:=x
 simp only at hx
 simp only[Afv,Bc5,Ach,A49,Ad0]
 rcases Bni hx with rfl|rfl|rfl|rfl|rfl|rfl|rfl|rfl|rfl|rfl|rfl|rfl|rfl|rfl|rfl|rfl|rfl|rfl|rfl|rfl|rfl|rfl|rfl|rfl|rfl|rfl|rfl|rfl|rfl|rfl <;>
  simp[kT,Ama]
def Ce9(x:Int×Int×Int)(d:Int):Bool :=
 if x.1=2∨x.1=3 then inB x.2.1 2 (d-1) else if x.1=4 then decide (2≤x.2.1) else if x.1=23 then inB x.2.1 2 (d-3) else if x.1=18 then decide (x.2.1≤d+2000+2) else true
theorem B7n{R:Type}(N:Nat)(x:Int×Int×Int)(d:Int)(hd:0≤d∧d≤4000)(K:Bool→Option R):Afw N x.1 x.2.1 x.2.2 d K=K (Ce9 x d):=by
 obtain⟨op,n,m⟩:=x
 have w1:wi (d-1)=d-1:=Agj (by omega) (by omega)
 have w3:wi (d-3)=d-3:=Agj (by omega) (by omega)
 have w2:wi (wi (d+2000)+2)=d+2000+2:=by rw[Agj (i:=d+2000) (by omega) (by omega),Agj (by omega) (by omega)]
 simp only[Afw,Bc8,Ag6,A7z,Aoy,w1,w2,w3,Ce9]
 by_cases h2:op=2
 ·simp[h2]
 by_cases h3:op=3
 ·simp[h3]
 by_cases h4:op=4
 ·simp[h4]
 by_cases h23:op=23
 ·simp[h23]
 by_cases h18:op=18
 ·simp[h18]
 simp[h2,h3,h4,h23,h18]
theorem Cn0(x:Int×Int×Int)(d:Int)(f:Bool)(h24:x.1≠24):A14 x d f=(((x.1==18&&f)||Ce9 x d)&&decide (2≤d-(kT x.1).2.2.1)):=by
 unfold A14 Ce9
 have b24:(x.1==24)=false:=beq_eq_false_iff_ne.mpr h24
 rw[b24,Bool.false_or]
 congr 1
 by_cases h2:x.1=2∨x.1=3
 ·rw[if_pos h2,if_pos h2,show (x.1==18)=false from beq_eq_false_iff_ne.mpr (by omega)];simp
 rw[if_neg h2,if_neg h2]
 by_cases h4:x.1=4
 ·rw[if_pos h4,if_pos h4,h4];simp
 rw[if_neg h4,if_neg h4]
 by_cases h23:x.1=23
 ·rw[if_pos h23,if_pos h23,h23];simp
 rw[if_neg h23,if_neg h23]
 by_cases h18:x.1=18
 ·rw[if_pos h18,if_pos h18,h18];simp
 ·rw[if_neg h18,if_neg h18];simp
def Bbf(l:OpL)(j:Nat):Bool:=(Acg l (Ags l j)).1==28
theorem Ckc{R:Type}(N:Nat)(l:OpL)(hl:l.length≤1099511627776)(K:OpL→Int→Option R):∀(k j:Nat),Ags l j<l.length→l.length-j<k→
  Afo N k l j K=K l (Ags l j:Nat):=by
 intro k
 induction k with
 |zero=>intro j _ h;omega
 |succ k ih=>
  intro j hj hk
  have hjl:j<l.length:=by unfold Ags at hj;omega
  have hin:(0:Int)≤j∧(j:Int)<len l:=by simp only[len];omega
  have hd':l.drop j=l[j]::l.drop (j+1):=List.drop_eq_getElem_cons hjl
  simp only[Afo,A72]
  rw[if_pos (by simp only[len,decide_eq_true_eq];omega),if_pos hin,Ahx _ _ hjl,Ac3 (by omega)]
  by_cases h19:l[j].1=19
  ·have:Ags l j=Ags l (j+1):=by unfold Ags;rw[hd',A24,if_pos h19];omega
   rw[if_pos (by simpa using h19),ih (j+1) (by omega) (by omega),this]
  ·have:Ags l j=j:=by unfold Ags;rw[hd',A24,if_neg h19];rfl
   rw[if_neg (by simpa using h19),this]
theorem B7o{R:Type}(N:Nat)(l:OpL)(j:Int)(hl:l.length≤1099511627776)(hN:l.length<N)(ho:Ae8 0 l=true)(h0:0≤j)(hj:j<l.length)(K:Bool→Option R) :
  Aer N l j K=K (Bbf l j.toNat):=by
 obtain⟨n,rfl⟩:=Int.eq_ofNat_of_zero_le h0
 have hlt:=Bbe ho (j:=n) (by omega)
 simp only[Aer,Bdb]
 rw[Ckc N l hl _ N n hlt (by omega),if_pos (by simp only[len,decide_eq_true_eq];omega),if_pos (by simp only[len];omega),Int.toNat_natCast,Int.toNat_natCast]
 rfl
def dpB(l:OpL)(pl:List Int)(i:Nat)(d:Int)(f:Bool)(x:Int×Int×Int):Bool :=
 A14 x d (Ayt l i)&&decide (2≤Aha x d)&&decide (Aha x d≤4000)&&(x.1 != 28 || !f)&&(decide (Aai x≤0)||(Bbf l (pl.getD (Aai x).toNat 0).toNat==(x.1==27)))
def A1l(l:OpL)(pl:List Int):Nat→Int→Bool→OpL→Bool
 | _,_,_,[]=>true
 |i,d,f,x::r=>if x.1=24 then A1l l pl (i+1) (2+x.2.2) true r
  else dpB l pl i d f x&&A1l l pl (i+1) (Aha x d) (if x.1=19 then f else Ahu x.1) r
noncomputable def B3o{R:Type}(N:Nat)(rc:Aos R)(d:Int)(p:Bool)(e:Int)(f:List UInt8)(g:Aa5)(c:OpL)(h:Ab3)(i j:Int)(a l:List Int)(q:Bool→Option R)(b n o:Int):Option R :=
 (Abj N b n o (fun m=>if ((decide ((m > (0:Int))))=true) then (if (((0:Int)≤m)∧(m<(len a))) then (Aer N c ((List.getD a (Int.toNat m) (0:Int))) (fun r=>if ((!(r==(b==(27:Int))))=true) then (q false) else (if ((b != (19:Int))=true) then (Aa2 N b n o (fun s=>rc d s ((wi (e+(1:Int)))) f g c h i j a l)) else (rc d p ((wi (e+(1:Int)))) f g c h i j a l)))) else none) else (if ((b != (19:Int))=true) then (Aa2 N b n o (fun t=>rc d t ((wi (e+(1:Int)))) f g c h i j a l)) else (rc d p ((wi (e+(1:Int)))) f g c h i j a l))))
noncomputable def Bo2{R:Type}(N:Nat)(rc:Aos R)(d:Int)(a:Bool)(e:Int)(f:List UInt8)(g:Aa5)(h:OpL)(i:Ab3)(j l:Int)(m n:List Int)(b:Bool→Option R)(c o p:Int):Option R :=
 if ((c==(28:Int))=true) then (if (a=true) then (b false) else B3o N rc d a e f g h i j l m n b c o p) else B3o N rc d a e f g h i j l m n b c o p
theorem Cl1{R:Type}(N:Nat)(rc:Aos R)(g:Int)(q:Bool)(a:Int)(h:List UInt8)(i:Aa5)(b:OpL)(j:Ab3)(l m:Int)(n o:List Int)(c:Bool→Option R)(s:Option R) :
  A9t @Agx @Afv @Aaq @Afw @Abj @Aer @Aa2 N rc g q a h i b j l m n o c s =
  if ((decide ((a<(len b))))=true) then (if (((0:Int)≤a)∧(a<(len b))) then (let d:=(List.getD b (Int.toNat a) ((0:Int),((0:Int),(0:Int)))).1;let f:=(List.getD b (Int.toNat a) ((0:Int),((0:Int),(0:Int)))).2.1;let e:=(List.getD b (Int.toNat a) ((0:Int),((0:Int),(0:Int)))).2.2;if ((d==(24:Int))=true) then (rc ((wi ((2:Int)+e))) true ((wi (a+(1:Int)))) h i b j l m n o) else (Agx N d f e g (fun p=>if ((d==(18:Int))=true) then (let r:=(wi (a-(1:Int)));if (((0:Int)≤r)∧(r<(len b))) then (Afv N d f e (fun t=>if ((decide (((wi (g-t))<(2:Int))))=true) then (c false) else (Aaq N p 2 4000 (fun u=>if ((!u)=true) then (c false) else (if ((!((List.getD b (Int.toNat r) ((0:Int),((0:Int),(0:Int)))).1==(19:Int)))=true) then (Afw N d f e g (fun v=>if ((!v)=true) then (c false) else Bo2 N rc p q a h i b j l m n o c d f e)) else Bo2 N rc p q a h i b j l m n o c d f e))))) else none)
   else (Afv N d f e (fun w=>if ((decide (((wi (g-w))<(2:Int))))=true) then (c false) else (Aaq N p 2 4000 (fun x=>if ((!x)=true) then (c false) else (Afw N d f e g (fun y=>if ((!y)=true) then (c false) else Bo2 N rc p q a h i b j l m n o c d f e))))))))) else none) else s:=rfl
theorem Cl2{R:Type}(N:Nat)(rc:Aos R)(a:Int)(f:Bool)(i:Nat)(nm:List UInt8)(data:Aa5)(l:OpL)(gl:Ab3)(procs labels:Int)(pl pr:List Int)(b:Bool→Option R)(x:Int×Int×Int)(hl:l.length≤1099511627776)(hN:l.length<N)(ho:Ae8 0 l=true)(hi:i<l.length)(hn:0<Aai x→0≤Aai x∧Aai x<pl.length∧0≤pl.getD (Aai x).toNat 0∧pl.getD (Aai x).toNat 0<l.length) :
  B3o N rc a f i nm data l gl procs labels pl pr b x.1 x.2.1 x.2.2=if (decide (Aai x≤0)||(Bbf l (pl.getD (Aai x).toNat 0).toNat==(x.1==27)))=true then rc a (if x.1=19 then f else Ahu x.1) ((i+1:Nat):Int) nm data l gl procs labels pl pr else b false:=by
 have fin:(if ((x.1 != (19:Int))=true) then (Aa2 N x.1 x.2.1 x.2.2 (fun c=>rc a c ((wi ((i:Int)+(1:Int)))) nm data l gl procs labels pl pr)) else (rc a f ((wi ((i:Int)+(1:Int)))) nm data l gl procs labels pl pr))=rc a (if x.1=19 then f else Ahu x.1) ((i+1:Nat):Int) nm data l gl procs labels pl pr:=by
  rw[Bkf,Ac3 (by omega)]
  by_cases h:x.1=19
  ·rw[if_neg (by simp[h]),if_pos h]
  ·rw[if_pos (by simpa using h),if_neg h]
 unfold B3o
 rw[Bnp,show (x.1,x.2.1,x.2.2)=x from rfl]
 by_cases h0:Aai x > 0
 ·have hn':=hn h0
  rw[if_pos (by simpa using h0),if_pos (by simp only[len];omega),B7o N l _ hl hN ho hn'.2.2.1 hn'.2.2.2,show decide (Aai x≤0)=false from decide_eq_false (by omega),Bool.false_or]
  cases Bbf l (pl.getD (Aai x).toNat 0).toNat==(x.1==27)
  ·rfl
  ·rw[if_neg (by decide),if_pos rfl];exact fin
 ·rw[if_neg (by simpa using h0),show decide (Aai x≤0)=true from decide_eq_true (by omega),Bool.true_or,if_pos rfl];exact fin
theorem Cn1{R:Type}(N:Nat)(rc:Aos R)(a:Int)(f:Bool)(i:Nat)(nm:List UInt8)(data:Aa5)(l:OpL)(gl:Ab3)(procs labels:Int)(pl pr:List Int)(b:Bool→Option R)(x:Int×Int×Int)(hl:l.length≤1099511627776)(hN:l.length<N)(ho:Ae8 0 l=true)(hi:i<l.length)(hn:0<Aai x→0≤Aai x∧Aai x<pl.length∧0≤pl.getD (Aai x).toNat 0∧pl.getD (Aai x).toNat 0<l.length) :
  Bo2 N rc a f i nm data l gl procs labels pl pr b x.1 x.2.1 x.2.2=if ((x.1 != 28 || !f)&&(decide (Aai x≤0)||(Bbf l (pl.getD (Aai x).toNat 0).toNat==(x.1==27))))=true then rc a (if x.1=19 then f else Ahu x.1) ((i+1:Nat):Int) nm data l gl procs labels pl pr else b false:=by
 unfold Bo2
 rw[Cl2 N rc a f i nm data l gl procs labels pl pr b x hl hN ho hi hn]
 by_cases h:x.1=28
 ·rw[if_pos (by simpa using h),show (x.1 != 28)=false by rw[h];rfl]
  cases f
  ·rfl
  ·rfl
 ·rw[if_neg (by simpa using h),show (x.1 != 28)=true from bne_iff_ne.mpr h];rfl
theorem Cl3{R:Type}(N:Nat)(nm:List UInt8)(data:Aa5)(l:OpL)(gl:Ab3)(procs labels:Int)(pl pr:List Int)(nd:Int)(hp:procs≤200)(hl:l.length≤1099511627776)(hN:l.length<N)(ho:Ae8 0 l=true)(hf:Al7 l=true)(hall:∀x,x∈l→Aim nd procs labels x=true)(hn:∀x,x∈l→0<Aai x→0≤Aai x∧Aai x<pl.length∧0≤pl.getD (Aai x).toNat 0∧pl.getD (Aai x).toNat 0<l.length)(g:Bool→Option R)(j:Option R) :
  ∀(k i:Nat) (d:Int) (f:Bool),i≤l.length→l.length-i<k→0≤d∧d≤4000→
   Afc N k d f i nm data l gl procs labels pl pr g j=if A1l l pl i d f (l.drop i)=true then j else g false:=by
 intro k
 induction k with
 |zero=>intro i _ _ _ h;omega
 |succ k ih=>
  intro i d f hi hk hd
  simp only[Afc,Cl1]
  by_cases hlt:i<l.length
  case neg=>
   rw[if_neg (by simp[len];omega),List.drop_eq_nil_of_le (by omega)];rfl
  have hin:(0:Int)≤i∧(i:Int)<len l:=by simp only[len];omega
  have hx':=hall l[i] (List.getElem_mem hlt)
  have hn':=hn l[i] (List.getElem_mem hlt)
  have h0i:i=0→(l[i]).1=24:=by
   rintro rfl
   cases l with
   |nil=>simp at hlt
   |cons y r=>simpa [Al7,Ad3]using hf
  rw[if_pos (by simp[len];omega),if_pos hin,Ahx _ _ hlt,List.drop_eq_getElem_cons hlt,A1l]
  obtain⟨x,hx⟩:∃x,l[i]=x:=⟨_,rfl⟩
  simp only[hx]at hx' hn' h0i ⊢
  have hop:=Bih hx'
  by_cases h24:x.1=24
  ·have hm:=Bz4 hp hx' (.inl h24)
   have hm8:x.2.2≤8:=by
    obtain⟨a,b,c⟩:=x
    simp only at h24;subst h24
    simp[Aim,Anv,inB]at hx'
    simp only;omega
   rw[if_pos (by simpa using h24),if_pos h24,Agj (i:=2+x.2.2) (by omega) (by omega),Ac3 (by omega)]
   exact ih (i+1) (2+x.2.2) true (by omega) (by omega) (by omega)
  rw[if_neg (by simpa using h24),if_neg h24,B7l N x d hop hd (Bz4 hp hx')]
  have hip:0<i:=by
   rcases Nat.eq_zero_or_pos i with h|h
   ·exact absurd (h0i h) h24
   ·exact h
  have hkt:=B7g x.1
  have hwn:wi (d-(kT x.1).2.2.1)=d-(kT x.1).2.2.1:=Agj (by omega) (by omega)
  have mid:Bo2 N (fun m n o p q s t u v w z=>Afc N k m n o p q s t u v w z g j) (Aha x d) f i nm data l gl procs labels pl pr g x.1 x.2.1 x.2.2=_:=Cn1 N _ (Aha x d) f i nm data l gl procs labels pl pr g x hl hN ho hlt hn'
  have step:∀e:Bool,e=((x.1==18&&Ayt l i)||Ce9 x d)→(if (decide (wi (d-(kT x.1).2.2.1)<2))=true then g false else if (!inB (Aha x d) 2 4000)=true then g false else if (!e)=true then g false else Bo2 N (fun m n o p q s t u v w z=>Afc N k m n o p q s t u v w z g j) (Aha x d) f i nm data l gl procs labels pl pr g x.1 x.2.1 x.2.2) =
    if (dpB l pl i d f x&&A1l l pl (i+1) (Aha x d) (if x.1=19 then f else Ahu x.1) (l.drop (i+1)))=true then j else g false:=by
   intro e he
   unfold dpB
   rw[Cn0 x d _ h24,←he,hwn]
   by_cases c1:d-(kT x.1).2.2.1<2
   ·rw[if_pos (by simpa using c1),show decide (2≤d-(kT x.1).2.2.1)=false from decide_eq_false (by omega)];simp
   rw[if_neg (by simpa using c1),show decide (2≤d-(kT x.1).2.2.1)=true from decide_eq_true (by omega),Bool.and_true]
   by_cases c2:2≤Aha x d
   case neg=>
    rw[if_pos (by unfold inB;simp;omega),show decide (2≤Aha x d)=false from decide_eq_false c2];simp
   by_cases c3:Aha x d≤4000
   case neg=>
    rw[if_pos (by unfold inB;simp;omega),show decide (Aha x d≤4000)=false from decide_eq_false c3];simp
   rw[if_neg (by unfold inB;simp;omega),show decide (2≤Aha x d)=true from decide_eq_true c2,show decide (Aha x d≤4000)=true from decide_eq_true c3,Bool.and_true,Bool.and_true]
   cases e
   ·rfl
   rw[if_neg (by decide),mid,Bool.true_and]
   cases hc:((x.1 != 28 || !f)&&(decide (Aai x≤0)||(Bbf l (pl.getD (Aai x).toNat 0).toNat==(x.1==27))))
   ·rfl
   ·rw[if_pos rfl,Bool.true_and]
    exact ih (i+1) (Aha x d) _ (by omega) (by omega) (by omega)
  simp only[B7m N x hop,Aoy,B7n N x d hd]
  by_cases h18:x.1=18
  ·have hw:wi ((i:Int)-1)=((i-1:Nat):Int):=by rw[Agj (by omega) (by omega)];omega
   rw[if_pos (by simpa using h18),hw,if_pos (by simp only[len];omega),Int.toNat_natCast]
   have hpv:Ayt l i=((Acg l (i-1)).1==19):=by unfold Ayt;rw[show decide (0<i)=true from decide_eq_true hip,Bool.true_and]
   refine Eq.trans ?_ (step _ rfl)
   rw[hpv,show (x.1==18)=true by rw[h18];rfl,Bool.true_and]
   show (if decide (wi (d-(kT x.1).2.2.1)<2)=true then g false else if (!inB (Aha x d) 2 4000)=true then g false else if (!(Acg l (i-1)).1==19)=true then _ else _)=_
   cases (Acg l (i-1)).1==19<;>rfl
  ·rw[if_neg (by simpa using h18)]
   refine Eq.trans ?_ (step _ rfl)
   rw[show (x.1==18)=false from beq_eq_false_iff_ne.mpr h18];rfl
def Auz:OpL→Option Int
 |[]=>none
 |x::r=>if x.1=19 then Auz r else some x.1
theorem Bwl:∀(l:OpL) (h:A24 l<l.length),Auz l=some (Acg l (A24 l)).1
 |[],h=>by simp[A24]at h
 |x::r,h=>by
  rw[A24]at h ⊢
  rw[Auz]
  split
  ·rename_i h19
   rw[if_pos h19]at h
   rw[Bwl r (by simp at h;omega)];rfl
  ·rfl
theorem B8p{l:OpL}(ho:Ae8 0 l=true){j:Nat}(hj:j<l.length):Auz (l.drop j)=some (Acg l (Ags l j)).1:=by
 have h:=Bbe ho hj
 rw[Bwl _ (by rw[List.length_drop];unfold Ags at h;omega)]
 unfold Acg Ags
 rw[B8m]
theorem B3p(l:OpL)(pl:List Int):∀(r:OpL) (i:Nat) (d:Int),Auz r=some 28→A1l l pl i d true r=false
 |[],_,_,h=>by cases h
 |x::r,i,d,h=>by
  rw[Auz]at h
  rw[A1l]
  by_cases h19:x.1=19
  ·rw[if_pos h19]at h
   rw[if_neg (by omega),if_pos h19,B3p l pl r (i+1) _ h,Bool.and_false]
  ·rw[if_neg h19]at h
   injection h with h
   rw[if_neg (by omega)]
   have:dpB l pl i d true x=false:=by
    unfold dpB
    rw[h];simp
   rw[this,Bool.false_and]
theorem Cn2(l:OpL)(o pl:List Int)(hol:Ae8 0 l=true)(hrel:∀x,x∈l→0<Aai x→pl.getD (Aai x).toNat 0=o.getD (Aai x).toNat 0)(hop:∀x,x∈l→1≤x.1∧x.1≤30∧(x.1=29→0≤x.2.2)∧(x.1=24→0≤x.2.2∧x.2.2≤8)) :
  ∀(r:OpL) (i c:Nat) (d:Int) (f:Bool),l.drop i=r→Ae8 c r=true→(f=true→Auz r≠some 28)→Bdw l o i d r=A1l l pl i d f r:=by
 intro r
 induction r with
 |nil=>intros;rfl
 |cons x r ih=>
  intro i c d f hd hc hf
  have hlt:i<l.length:=by
   rcases Nat.lt_or_ge i l.length with h|h
   ·exact h
   ·rw[List.drop_eq_nil_of_le h]at hd;cases hd
  have hdc:=hd
  rw[List.drop_eq_getElem_cons hlt]at hdc
  have hx:l[i]=x:=(List.cons.inj hdc).1
  have hr:l.drop (i+1)=r:=(List.cons.inj hdc).2
  have hm:x∈l:=by rw[←hx];exact List.getElem_mem hlt
  have hop':=hop x hm
  have hoa:Acg l i=x:=by rw[Bnl hlt];exact hx
  rw[B8n c x r hop'.1]at hc
  simp only[Bool.and_eq_true]at hc
  obtain⟨⟨⟨hc1,hc2⟩,hc3⟩,hc4⟩:=hc
  rw[Bdw,A1l]
  have hG:∀f2:Bool,(f2=if x.1=19 then f else Ahu x.1)→∀d2,(x.1==19||As9 l i||decide (l.length≤i+1)||(Acg l (Ags l (i+1))).1 != 28)=true→Bdw l o (i+1) d2 r=A1l l pl (i+1) d2 f2 r:=by
   intro f2 hf2 d2 hg
   refine ih (i+1) _ d2 f2 hr hc4 ?_
   intro h1
   by_cases h19:x.1=19
   ·rw[if_pos h19]at hf2
    have:=hf (by rw[←hf2];exact h1)
    rw[Auz,if_pos h19]at this;exact this
   ·rw[if_neg h19]at hf2
    have hgo:Ahu x.1=true:=by rw[←hf2];exact h1
    have hne:As9 l i=false:=by
     unfold As9
     rw[hoa]
     simp only[Ahu,Bool.and_eq_true,bne_iff_ne,ne_eq]at hgo
     rw[if_neg (by omega),if_neg (by omega),if_neg (by omega)]
    rw[hne,show (x.1==19)=false from beq_eq_false_iff_ne.mpr h19,Bool.false_or,Bool.false_or]at hg
    by_cases h2:i+1<l.length
    ·rw[show decide (l.length≤i+1)=false from decide_eq_false (by omega),Bool.false_or,bne_iff_ne]at hg
     rw[←hr,B8p hol h2]
     intro h;injection h with h;exact hg h
    ·rw[←hr,List.drop_eq_nil_of_le (by omega)];simp[Auz]
  have hG0:(x.1==19||As9 l i||decide (l.length≤i+1)||(Acg l (Ags l (i+1))).1 != 28)=false→∀d2,A1l l pl (i+1) d2 (if x.1=19 then f else Ahu x.1) r=false:=by
   intro hg d2
   simp only[Bool.or_eq_false_iff,beq_eq_false_iff_ne,decide_eq_false_iff_not,bne_eq_false_iff_eq]at hg
   obtain⟨⟨⟨g1,g2⟩,g3⟩,g4⟩:=hg
   have hnl:Auz r=some 28:=by rw[←hr,B8p hol (by omega),g4]
   rw[if_neg g1]
   have hgo:Ahu x.1=true:=by
    unfold As9 at g2
    rw[hoa]at g2
    simp only at g2
    by_cases e1:x.1=20∨x.1=25∨x.1=26∨x.1=27
    ·rw[if_pos e1]at g2;cases g2
    rw[if_neg e1]at g2
    by_cases e2:x.1=29
    ·rw[if_pos e2]at g2
     rw[if_pos e2]at hc4
     have h3:=hop'.2.2.1 e2
     have h4:x.2.2≠0:=by simpa using g2
     obtain⟨q,hq⟩:∃q,x.2.2.toNat=q+1:=⟨x.2.2.toNat-1,by omega⟩
     rw[hq]at hc4
     cases r with
     |nil=>simp[Ae8]at hc4
     |cons y r=>
      simp only[Ae8,Bool.and_eq_true,beq_iff_eq]at hc4
      rw[Auz,if_neg (by omega),hc4.1]at hnl
      simp at hnl
    rw[if_neg e2]at g2
    by_cases e3:x.1=30
    ·rw[if_pos e3]at g2
     simp only[Bool.or_eq_false_iff,decide_eq_false_iff_not,bne_eq_false_iff_eq]at g2
     have h5:i+1<l.length:=by omega
     rw[←hr,List.drop_eq_getElem_cons h5,Auz,←Bnl h5,g2.2]at hnl
     simp at hnl
    ·unfold Ahu
     simp only[Bool.and_eq_true,bne_iff_ne,ne_eq]
     omega
   rw[hgo]
   exact B3p l pl r (i+1) d2 hnl
  unfold A8h
  by_cases h24:x.1=24
  ·have hm8:=hop'.2.2.2 h24
   have ha:Aha x d=2+x.2.2:=by unfold Aha;rw[if_neg (by omega),if_pos h24]
   have hfit:A14 x d (Ayt l i)=true:=by unfold A14;rw[h24];rfl
   have hnm:Aai x=0:=by unfold Aai;rw[if_neg (by omega),if_neg (by omega)]
   rw[if_pos h24,hfit,ha,hnm,show decide (2≤2+x.2.2)=true from decide_eq_true (by omega),show decide (2+x.2.2≤4000)=true from decide_eq_true (by omega)]
   have hgt:(if x.1=19 then f else Ahu x.1)=true:=by rw[h24];rfl
   have h1:=hG true hgt.symm (2+x.2.2)
   have h2:=fun h=>hG0 h (2+x.2.2)
   rw[hgt]at h2
   cases hg:(x.1==19||As9 l i||decide (l.length≤i+1)||(Acg l (Ags l (i+1))).1 != 28)
   ·rw[h2 hg];rfl
   ·rw[h1 hg];rfl
  rw[if_neg h24]
  unfold dpB
  have hrel':=hrel x hm
  have hx28:(x.1 != 28 || !f)=true:=by
   by_cases h28:x.1=28
   ·cases f
    ·simp
    ·have:=hf rfl
     rw[Auz,if_neg (by omega),h28]at this
     exact absurd rfl this
   ·rw[show (x.1 != 28)=true from bne_iff_ne.mpr h28];rfl
  have hnm:(decide (Aai x≤0)||(((Acg l (Ags l (o.getD (Aai x).toNat 0).toNat)).1==28)==(x.1==27)))=(decide (Aai x≤0)||(Bbf l (pl.getD (Aai x).toNat 0).toNat==(x.1==27))):=by
   by_cases h0:0<Aai x
   ·rw[hrel' h0];rfl
   ·rw[show decide (Aai x≤0)=true from decide_eq_true (by omega)];rfl
  rw[hx28,hnm,Bool.and_true]
  have h1:=hG _ rfl (Aha x d)
  have h2:=fun h=>hG0 h (Aha x d)
  cases hg:(x.1==19||As9 l i||decide (l.length≤i+1)||(Acg l (Ags l (i+1))).1 != 28)
  ·rw[h2 hg];simp
  ·rw[h1 hg,Bool.and_true]
   cases A14 x d (Ayt l i)<;>cases decide (2≤Aha x d)<;>cases decide (Aha x d≤4000)<;>cases (decide (Aai x≤0)||(Bbf l (pl.getD (Aai x).toNat 0).toNat==(x.1==27)))<;>rfl
theorem Ckd{R:Type}(N:Nat)(nm:List UInt8)(data:Aa5)(l:OpL)(gl:Ab3)(procs labels:Int)(hl:l.length≤1099511627776)(hd:data.length≤2000)(hp:procs≤200)(hb:labels≤20000)(a:Int→Option R)(b:List UInt8→Aa5→OpL→Ab3→Int→Int→Option R) :
  ∀(k i:Nat),i≤l.length→l.length-i<k→
   Ae4 N k i nm data l gl procs labels a b=if (l.drop i).all (Aim data.length procs labels) then b nm data l gl procs labels else a 60:=by
 intro k
 induction k with
 |zero=>intro i _ h;omega
 |succ k ih=>
  intro i hi hk
  simp only[Ae4,A4z]
  by_cases hlt:i<l.length
  case neg=>
   rw[if_neg (by simp[len];omega),List.drop_eq_nil_of_le (by omega)]
   simp
  have hin:(0:Int)≤i∧(i:Int)<len l:=by simp only[len];omega
  rw[if_pos (by simp[len];omega),if_pos hin,Ahx _ _ hlt,Ac3 (by omega),List.drop_eq_getElem_cons hlt,List.all_cons,Bz0 N _ _ _ nm data l gl procs labels hd hp hb]
  have:(inB l[i].1 1 30&&Anv l[i].1 l[i].2.1 l[i].2.2 data.length procs labels)=Aim data.length procs labels l[i]:=rfl
  rw[this,ih (i+1) (by omega) (by omega)]
  cases Aim data.length procs labels l[i]<;>rfl
theorem Cl4{nd procs labels:Int}{x:Int×Int×Int}(h:Aim nd procs labels x=true)(h24:x.1=24):0≤x.2.2∧x.2.2≤8:=by
 obtain⟨op,n,m⟩:=x
 simp only at h24;subst h24
 simp[Aim,Anv,inB]at h
 exact h.2
theorem B7p{R:Type}{N:Nat}{nm:List UInt8}{data:Aa5}{gl:Ab3}(F:Bii N nm data gl)(l:OpL)(procs labels:Int)(K:Int→Option R) :
  Ahj N nm data l gl procs labels K=K (Bno nm data l gl procs labels):=by
 have hN:=F.N1
 simp only[Ahj,Bde]
 rw[Bz1 N _ _ _ _ _ _ F.d0 (by omega)]
 unfold Bno
 cases h:A8f data l procs labels
 case true=>rfl
 simp only[A8f,Bool.or_eq_false_iff,decide_eq_false_iff_not]at h
 simp only[Bool.false_eq_true,if_false]
 unfold Big
 by_cases c1:procs<0
 ·rw[if_pos (by simpa using c1),show decide (0≤procs)=false from decide_eq_false (by omega)];simp
 rw[if_neg (by simpa using c1)]
 by_cases c2:labels<0
 ·rw[if_pos (by simpa using c2),show decide (0≤labels)=false from decide_eq_false (by omega)];simp
 rw[if_neg (by simpa using c2),B7c N nm data l gl procs labels F.d1 (by omega) F.d3 (by omega) F.g1 F.g2 F.n2 F.n1]
 rw[show decide (0≤procs)=true from decide_eq_true (by omega),show decide (0≤labels)=true from decide_eq_true (by omega)]
 cases c3:Ark nm==0
 case false=>simp
 rw[Bool.and_true,Bool.and_true,Bool.and_true,Bool.true_and]
 have hloop:=Ckd (R:=R) N nm data l gl procs labels (by omega) (by omega) (by omega) (by omega) (fun j=>K j) (fun c d e f g i=>Ahi N c d e f g i (fun m=>if ((!m)=true) then (K 60) else (Agr N c d e f g i (fun n s t=>if ((!n)=true) then (K 60) else (Ait N c d e f g i s t (fun A=>if ((!A)=true) then (K 61) else (K 0))))))) N 0 (by omega) (by omega)
 rw[List.drop_zero,show ((0:Nat):Int)=0 from rfl]at hloop
 cases c4:Bif data gl procs
 case false=>
  rw[if_pos (by decide)]
  cases Alv l procs labels with
  |none=>simp
  |some q=>obtain⟨b,o,a⟩:=q;simp
 rw[if_neg (by decide)]
 refine Eq.trans hloop ?_
 by_cases hn:l.all (Aim data.length procs labels)=true
 case neg=>
  rw[if_neg hn,show l.all (Aim data.length procs labels)=false by simpa using hn];rfl
 rw[if_pos hn,hn,Bool.true_and]
 have hall:∀o,o∈l→Aim data.length procs labels o=true:=List.all_eq_true.mp hn
 rw[Cl0 N nm data l gl procs labels (by omega) (by omega) (fun o ho=>(Bih (hall o ho)).1) (fun o ho h=>Bz2 (hall o ho) h)]
 cases c5:Ae8 0 l&&Al7 l
 case false=>
  rw[if_pos (by simp)]
  cases Alv l procs labels with
  |none=>simp
  |some q=>obtain⟨b,o,a⟩:=q;simp
 simp only[Bool.and_eq_true]at c5
 rw[Bool.true_and]
 have hL:∀o,o∈l→o.1=19→1≤o.2.1∧o.2.1≤labels:=fun o ho h=>Bz3 (hall o ho) h
 have hnm:∀x,x∈l→Aai x=0∨(1≤Aai x∧Aai x≤labels):=fun x hx=>Ble (hall x hx)
 have hrel:=Ckb l procs labels (by omega) c5.2 hL hnm
 have hcode:(match Alv l procs labels with|none=>false|some (b,o,a)=>b&&true&&true&&Aue 0 l o a)=(Blg l 0 0 procs labels&&(A5x l labels).isSome):=by
  rw[←hrel.1]
  cases Alv l procs labels with
  |none=>rfl
  |some q=>obtain⟨b,o,a⟩:=q;simp
 refine Eq.trans ?_ (congrArg (fun b:Bool=>K (if b=true then (if Awf l procs labels=true then 0 else 61) else 60)) hcode.symm)
 rw[Cka N nm data l gl procs labels (by omega) (by omega) ⟨by omega,by omega⟩ (by omega) hL hnm _ (fun a b a' b'=>rfl)]
 cases c6:Blg l 0 0 procs labels
 case false=>rfl
 rw[if_neg (by decide),Bool.true_and]
 cases hpl:A5x l labels with
 |none=>rfl
 |some q=>
  obtain⟨pl,pr⟩:=q
  simp only[Option.isSome_some,Bool.not_true,Bool.false_eq_true,if_false]
  rw[c6,hpl]at hrel
  cases hp:Alv l procs labels with
  |none=>
   rw[hp]at hrel
   exact absurd hrel.1 (by simp)
  |some q=>
   obtain⟨b,o,a⟩:=q
   have hr1:=hrel.1
   rw[hp]at hr1
   simp only[Option.isSome_some,Bool.and_true,Bool.and_eq_true]at hr1
   have hr2:=hrel.2 b o a pl pr hp hr1.2 rfl
   have hu:=hr1.2
   have hlen:=Blf hp
   simp only at hlen
   have hpll:pl.length=(labels+1).toNat:=by
    unfold A5x at hpl
    split at hpl
    ·cases hpl
    ·rename_i pl' pr' hq
     have:=Bnq _ _ _ _ _ _ hq
     split at hpl
     ·simp only[Option.some.injEq,Prod.mk.injEq]at hpl
      obtain⟨rfl,rfl⟩:=hpl
      simpa using this.1
     ·cases hpl
   have huse:∀(r:OpL) (p:Int),Aue p r o a=true→∀x,x∈r→0<Aai x→o.getD (Aai x).toNat 0≠0:=by
    intro r
    induction r with
    |nil=>intro p _ x hx;cases hx
    |cons y r ih=>
     intro p h x hx h0
     simp only[Aue,Bool.and_eq_true,Bool.or_eq_true,decide_eq_true_eq,bne_iff_ne,ne_eq,beq_iff_eq]at h
     rcases List.mem_cons.mp hx with rfl|hx
     ·rcases h.1 with h|h
      ·omega
      ·exact h.2
     ·exact ih _ h.2 x hx h0
   have hov:=Bwk hp
   have hre:∀x,x∈l→0<Aai x→(pl.getD (Aai x).toNat 0=o.getD (Aai x).toNat 0)∧0≤Aai x∧Aai x<pl.length∧0≤pl.getD (Aai x).toNat 0∧pl.getD (Aai x).toNat 0<l.length:=by
    intro x hx h0
    have h1:=hnm x hx
    have h2:=huse l 0 hu x hx h0
    have h3:=hr2 (Aai x).toNat (by omega)
    have h4:=hov (Aai x).toNat
    simp only at h4
    rcases h3 with ⟨e1,e2⟩|⟨e1,e2,e3,e4⟩
    ·exfalso
     have huse2:∀(r:OpL) (p:Int),Aue p r o a=true→(p=0→Ad3 r=none∨Ad3 r=some 24)→0≤p→(∀y,y∈r→y.1=24→1≤y.2.1)→∀x,x∈r→0<Aai x→a.getD (Aai x).toNat 0≠0:=by
      intro r
      induction r with
      |nil=>intro p _ _ _ _ x hx;cases hx
      |cons y r ih=>
       intro p h hp0 hp h24 x hx h0
       simp only[Aue,Bool.and_eq_true,Bool.or_eq_true,decide_eq_true_eq,bne_iff_ne,ne_eq,beq_iff_eq]at h
       have hp1:1≤(if y.1=24 then y.2.1 else p):=by
        split
        ·rename_i h;exact h24 y (by simp) h
        ·rename_i hy
         rcases Int.lt_or_le 0 p with h|h
         ·omega
         ·have:=hp0 (by omega)
          simp only[Ad3]at this
          rcases this with h|h
          ·cases h
          ·injection h with h;exact absurd h hy
       rcases List.mem_cons.mp hx with rfl|hx
       ·rcases h.1 with h|h
        ·omega
        ·omega
       ·exact ih _ h.2 (by omega) (by omega) (fun z hz=>h24 z (by simp[hz])) x hx h0
     have hf:=c5.2
     unfold Al7 at hf
     simp only[Bool.or_eq_true,beq_iff_eq]at hf
     exact huse2 l 0 hu (fun _=>hf) (by omega) (fun y hy h=>by
      have:=hall y hy
      obtain⟨u,v,w⟩:=y
      simp only at h;subst h
      simp[Aim,Anv,inB]at this
      exact this.1.1) x hx h0 e1
    ·exact⟨e2,by omega,by omega,by omega,by omega⟩
   simp only[Ait,Bhk]
   have hd:=Cl3 (R:=R) N nm data l gl procs labels pl pr data.length (by omega) (by omega) (by omega) c5.1 c5.2 hall (fun x hx h0=>(hre x hx h0).2) (fun B=>if (!B)=true then K 61 else K 0) (if (!true)=true then K 61 else K 0) N 0 0 false (by omega) (by omega) (by omega)
   rw[List.drop_zero,show ((0:Nat):Int)=0 from rfl]at hd
   refine Eq.trans hd ?_
   have hsd:=Cn2 l o pl c5.1 (fun x hx h0=>(hre x hx h0).1) (fun x hx=>⟨(Bih (hall x hx)).1,(Bih (hall x hx)).2,fun h=>(Bz2 (hall x hx) h).1,fun h=>Cl4 (hall x hx) h⟩) l 0 0 0 false rfl c5.1 (fun h=>by cases h)
   have hst:Awf l procs labels=A1l l pl 0 0 false l:=by unfold Awf;rw[hp];exact hsd
   rw[hst]
   cases A1l l pl 0 0 false l<;>rfl
abbrev Ade:=List (Int×Int×Int×Int×Int)
abbrev Ai5:=List (Int×Int×Int)
def Aio:Nat→Nat→OpL
 | _,0=>[]
 |i,m+1=>(24,(i:Int)+1,0)::(26,0,0)::Aio (i+1) m
theorem Cpx{R:Type}(N:Nat)(a:List UInt8)(b:Aa5)(c:Ab3)(d:Ai5)(e:Ade)(a':List UInt8)(b':Aa5)(c':Ab3)(d':Ai5)(e':Ade)(nm:List UInt8)(data:Aa5)(gl:Ab3)(procs labels:Int)(K:List UInt8→Aa5→Ab3→Ai5→Ade→List UInt8→Aa5→Ab3→Ai5→Ade→List UInt8→Aa5→Ab3→Int→Int→OpL→Option R) :
  ∀(m k i:Nat) (acc:OpL),m<k→i+m≤200→acc.length=2*i→
   Ad4 N k ((i+m:Nat):Int) i a b c d e a' b' c' d' e' nm data gl procs labels acc K=K a b c d e a' b' c' d' e' nm data gl procs labels (acc++Aio i m):=by
 intro m
 induction m with
 |zero=>
  intro k i acc hk hi ha
  obtain⟨k,rfl⟩:∃q,k=q+1:=⟨k-1,by omega⟩
  simp only[Ad4,Axm]
  rw[if_neg (by simp)]
  simp[Aio]
 |succ m ih=>
  intro k i acc hk hi ha
  obtain⟨k,rfl⟩:∃q,k=q+1:=⟨k-1,by omega⟩
  simp only[Ad4,Axm]
  rw[if_pos (by simp only[decide_eq_true_eq];omega),Ac3 (by omega),if_pos (by simp only[List.length_cons,List.length_nil];omega)]
  have e:((i+(m+1):Nat):Int)=((i+1+m:Nat):Int):=by omega
  rw[e,ih k (i+1) _ (by omega) (by omega) (by simp only[List.length_append,List.length_cons,List.length_nil];omega)]
  simp[Aio]
theorem Cpy{R:Type}(N:Nat)(a:List UInt8)(b:Aa5)(c:Ab3)(d:Ai5)(e:Ade)(nm:List UInt8)(data:Aa5)(gl:Ab3)(procs labels:Int)(K:List UInt8→Aa5→Ab3→Int→Int→OpL→Option R) :
  ∀(m k i:Nat) (acc:OpL),m<k→i+m=d.length→d.length≤200→acc.length=2*i→
   Aem N k i a b c d e nm data gl procs labels acc K=K nm data gl procs labels (acc++Aio i m):=by
 intro m
 induction m with
 |zero=>
  intro k i acc hk hi hd ha
  obtain⟨k,rfl⟩:∃q,k=q+1:=⟨k-1,by omega⟩
  simp only[Aem,Avs,len]
  rw[if_neg (by simp only[decide_eq_true_eq];omega)]
  simp[Aio]
 |succ m ih=>
  intro k i acc hk hi hd ha
  obtain⟨k,rfl⟩:∃q,k=q+1:=⟨k-1,by omega⟩
  simp only[Aem,Avs,len]
  rw[if_pos (by simp only[decide_eq_true_eq];omega),Ac3 (by omega),if_pos (by simp only[List.length_cons,List.length_nil];omega)]
  rw[ih k (i+1) _ (by omega) (by omega) hd (by simp only[List.length_append,List.length_cons,List.length_nil];omega)]
  simp[Aio]
theorem B8q:∀(m i:Nat) (o:Int×Int×Int),o∈Aio i m→o.1=24∨o.1=26
 |0,_,o,h=>by cases h
 |m+1,i,o,h=>by
  simp only[Aio,List.mem_cons]at h
  rcases h with rfl|rfl|h
  ·exact .inl rfl
  ·exact .inr rfl
  ·exact B8q m (i+1) o h
theorem Cn3{m j:Nat}:(Acg (Aio 0 m) j).1≠28:=by
 unfold Acg
 by_cases h:j<(Aio 0 m).length
 ·have e:(Aio 0 m).getD j (0,0,0)=(Aio 0 m)[j]:=by rw[List.getD_eq_getElem?_getD];simp[h]
  rw[e]
  rcases B8q m 0 _ (List.getElem_mem h) with k|k<;>rw[k]<;>decide
 ·have e:(Aio 0 m).getD j (0,0,0)=(0,0,0):=by rw[List.getD_eq_getElem?_getD];simp[show (Aio 0 m).length≤j by omega]
  rw[e];decide
theorem Bth:∀(m i q:Nat) (o a:List Int),plF i (Aio q m) q 0 o a=some (((q+m:Nat):Int),0,o,a)
 |0,i,q,o,a=>by simp[Aio,plF]
 |m+1,i,q,o,a=>by
  simp only[Aio,plF]
  rw[if_pos trivial,if_pos trivial,if_neg (by decide),if_neg (by decide)]
  have:=Bth m (i+1+1) (q+1) o a
  rw[show ((q:Int)+1)=((q+1:Nat):Int) by omega,this]
  congr 2
  omega
theorem B8r(M:Nat)(o:List Int):∀(m i q:Nat) (d:Int),(m=0∨True)→Bdw (Aio 0 M) o i d (Aio q m)=true
 |0,i,q,d,_=>rfl
 |m+1,i,q,d,_=>by
  have h3:∀j,((Acg (Aio 0 M) j).1 != 28)=true:=fun j=>by simpa using Cn3
  have t1:A8h (Aio 0 M) o i (24,(q:Int)+1,0) d=true:=by
   simp only[A8h,h3]
   simp[Aha,Aai]
  have t2:A8h (Aio 0 M) o (i+1) (26,0,0) (Aha (24,(q:Int)+1,0) d)=true:=by
   simp only[A8h,h3]
   simp[Aha,Aai,kT,Ama]
  simp only[Aio,Bdw,t1,t2]
  have f1:A14 (24,(q:Int)+1,0) d (Ayt (Aio 0 M) i)=true:=by simp[A14]
  have f2:A14 (26,0,0) (Aha (24,(q:Int)+1,0) d) (Ayt (Aio 0 M) (i+1))=true:=by simp[A14,Aha,kT,Ama]
  rw[f1,f2]
  simp only[Bool.and_true,Bool.true_and]
  exact B8r M o m (i+1+1) (q+1) _ (.inr trivial)
def Ao6(nm:List UInt8)(data:Aa5)(gl:Ab3)(n:Nat):Int :=
 Bno nm data (Aio 0 n) gl n 0
theorem Cfa(nm:List UInt8)(data:Aa5)(gl:Ab3)(n:Nat):Ao6 nm data gl n=0∨Ao6 nm data gl n=2∨Ao6 nm data gl n=60:=by
 have hs:Awf (Aio 0 n) n 0=true:=by
  unfold Awf Alv
  have:=Bth n 0 0 (List.replicate ((0:Int)+1).toNat 0) (List.replicate ((0:Int)+1).toNat 0)
  rw[show ((0:Nat):Int)=0 from rfl]at this
  rw[this]
  exact B8r n _ n 0 0 0 (.inr trivial)
 unfold Ao6 Bno
 rw[hs,if_pos rfl]
 split
 ·exact .inr (.inl rfl)
 ·split
  ·exact .inl rfl
  ·exact .inr (.inr rfl)
theorem B7q{R:Type}{N:Nat}{nm:List UInt8}{data:Aa5}{gl:Ab3}(F:Bii N nm data gl)(d:Ai5)(e:Ade)(K:Int→Option R) :
  Ae0 N nm data gl d e K=if 32000<e.length∨200<d.length then K 2 else K (Ao6 nm data gl d.length):=by
 have hN:=F.N1
 simp only[Ae0,Bdh]
 by_cases h1:32000<e.length
 ·rw[if_pos (by simp only[len,decide_eq_true_eq];omega),if_pos (.inl h1)]
 rw[if_neg (by simp only[len,decide_eq_true_eq];omega)]
 by_cases h2:200<d.length
 ·rw[if_pos (by simp only[len,decide_eq_true_eq];omega),if_pos (.inr h2)]
 rw[if_neg (by simp only[len,decide_eq_true_eq];omega),if_neg (by omega)]
 have:=Cpy N nm data gl d e nm data gl (len d) 0 (fun a b c f g h=>Ahj N a b h c f g (fun i=>K i)) d.length N 0 [] (by omega) (by omega) (by omega) rfl
 rw[show ((0:Nat):Int)=0 from rfl]at this
 rw[this]
 simp only[List.nil_append]
 rw[B7p F]
 rfl
abbrev Z5:Int×Int×Int×Int×Int:=(0,0,0,0,0)
def Aaz(l:Ade)(i:Nat):Int×Int×Int×Int×Int:=l.getD i Z5
def Cov(nd np:Nat)(mode n:Int):Bool :=
 if mode=0 then inB n (-2147483648) 2147483647 else if mode=1∨mode=4 then inB n 0 4000 else if mode=2∨mode=5 then inB n 0 199
 else if mode=3∨mode=6 then inB n 0 ((nd:Int)-1) else if mode=7 then inB n 1 np else false
def Ahv(l:Ade)(n:Int):Bool:=inB n 0 ((l.length:Int)-1)&&(Aaz l n.toNat).1 != 23
def Am0(a b c x y:Int):Bool:=inB a 0 7&&(inB b x y&&c==0)
def B3q(nd np:Nat)(l:Ade)(op a b c:Int):Bool :=
 if op=1 then Am0 a b c (-2147483648) 2147483647
 else if op=2∨op=3∨op=8∨op=20 then Am0 a b c 0 4000
 else if op=4∨op=5∨op=9 then Am0 a b c 0 199
 else if op=6∨op=7∨op=10 then Am0 a b c 0 ((nd:Int)-1)
 else if op=11 then Am0 a b c 1 np
 else if op=12∨op=58∨op=59 then Am0 a b c 0 7
 else if op=13∨op=14 then inB a 0 7&&(inB b 0 7&&inB c (-4000) 4000)
 else if op=15∨op=16 then inB a 0 7&&(inB b 0 7&&inB c 0 7)
 else if op=17 then a==0&&(c==0&&Ahv l b)
 else if op=18∨op=19 then inB a 0 7&&(c==0&&Ahv l b)
 else if op=21 then Am0 a b c 0 0
 else if op=22 then inB a 0 7&&(inB b 0 1000&&Ahv l c)
 else if op=23 then a==0&&(inB b (-2147483648) 2147483647&&Ahv l c)
 else inB op 41 57&&(inB a 0 7&&(inB b 0 7&&inB c 0 7))
def A2e(nd np:Nat)(l:Ade)(op a b c d:Int):Bool:=d==0&&B3q nd np l op a b c
theorem Cn4{R:Type}(v a b:Int)(K:Bool→Option R):(if decide (v≥a)=true then K (decide (v≤b)) else K false)=K (inB v a b):=by
 rw[ifT];rfl
theorem Csq(v a b:Int):(decide (v≥a)&&decide (v<b))=inB v a (b-1):=by
 unfold inB
 congr 1
 ·exact decide_eq_decide.2 (by omega)
theorem ifB{R:Type}(a b:Bool)(K:Bool→Option R):(if a=true then K b else K false)=K (a&&b):=by cases a<;>rfl
theorem Cfb{R:Type}(N:Nat)(c:List UInt8)(a:Aa5)(d:Ab3)(b:Ai5)(e:Ade)(mode n:Int)(K:Bool→Option R) :
  Aes N c a d b e mode n K=K (Cov a.length b.length mode n):=by
 simp only[Aes,Bk5,Aeq,A9f,Aep,A9e,Aef,ifT,len,Csq,beq_iff_eq,Cov]
 by_cases h0:mode=0
 ·subst h0;rfl
 by_cases h1:mode=1
 ·subst h1;rfl
 by_cases h4:mode=4
 ·subst h4;rfl
 by_cases h2:mode=2
 ·subst h2;rfl
 by_cases h5:mode=5
 ·subst h5;rfl
 by_cases h3:mode=3
 ·subst h3;rfl
 by_cases h6:mode=6
 ·subst h6;rfl
 by_cases h7:mode=7
 ·subst h7;rfl
 simp[h0,h1,h2,h3,h4,h5,h6,h7]
theorem Cn5{l:Ade}{n:Int}:inB n 0 ((l.length:Int)-1)=(decide (n≥0)&&decide (n<l.length)):=(Csq _ _ _).symm
theorem Cn6{R:Type}(N:Nat)(n:Int)(a:List UInt8)(b:Aa5)(c:Ab3)(d:Ai5)(l:Ade)(K:Bool→List UInt8→Aa5→Ab3→Ai5→Ade→Option R) :
  Ace N n a b c d l K=K (Ahv l n) a b c d l:=by
 simp only[Ace,len,Ahv,Cn5,Aaz,Z5]
 generalize List.getD l n.toNat (0,0,0,0,0)=q
 by_cases h0:n≥0
 ·by_cases h1:n<(l.length:Int)
  ·have h:0≤n∧n<(l.length:Int):=⟨h0,h1⟩
   rw[decide_eq_true h0,decide_eq_true h1]
   simp only[if_pos h,if_true]
   cases q.1 != 23<;>rfl
  ·rw[decide_eq_true h0,decide_eq_false h1];rfl
 ·rw[decide_eq_false h0];rfl
theorem Cpz{R:Type}(N:Nat)(v:Int)(K:Bool→Option R):Ab2 N v K=K (inB v 0 7):=by
 simp only[Ab2];exact Cn4 v 0 7 K
theorem A2f{R:Type}(N:Nat)(v a b:Int)(K:Bool→Option R):Aaw N v a b K=K (inB v a b):=by
 simp only[Aaw];exact Cn4 v a b K
theorem Chg{R:Type}(N:Nat)(v:Int)(K:Bool→Option R):Aan N v K=K (inB v 0 7):=by
 simp only[Aan,A5b,A2f]
theorem Cn7{R:Type}(N:Nat)(op a b c d x y:Int)(K:Bool→Option R):Aa0 N op a b c d x y K=K (Am0 a b c x y):=by
 simp only[Aa0,Bho,Chg,A2f,Am0]
 rw[ifB,ifB]
theorem Bnr{R:Type}(N:Nat)(a:List UInt8)(b:Aa5)(c:Ab3)(d:Ai5)(l:Ade)(n:Int)(hl:l.length≤1000000)(K:Bool→Option R) :
  Aax N a b c d l n K=K (Ahv l n):=by
 have hw:wi ((l.length:Int)-1)=(l.length:Int)-1:=Agj (by omega) (by omega)
 simp only[Aax,Bdj,A2f,len,hw,Ahv,Aaz]
 cases h:inB n 0 ((l.length:Int)-1)
 ·rfl
 ·have:0≤n∧n<l.length:=by unfold inB at h;simp at h;omega
  rw[if_pos rfl,if_pos this]
  cases (List.getD l n.toNat Z5).1 != 23<;>rfl
theorem B7r{R:Type}(N:Nat)(g:List UInt8)(e:Aa5)(h:Ab3)(f:Ai5)(l:Ade)(op a b c d:Int)(hd:e.length≤1000000)(hl:l.length≤1000000)(K:Bool→Option R) :
  Ae1 N g e h f l op a b c d K=K (A2e e.length f.length l op a b c d):=by
 have hw:wi ((e.length:Int)-1)=(e.length:Int)-1:=Agj (by omega) (by omega)
 simp only[Ae1,Bdm,Aa3,A5j,Aa8,A5i,Aa7,A5h,Abe,A5g,Abd,A5f,Abc,A5e,Abb,A5d,Aa4,A5k,Cn7,Chg,Bnr N _ _ _ _ _ _ hl,A2f,len,hw,A2e,B3q,ifB]
 generalize Ahv l b=P
 generalize Ahv l c=P'
 generalize hD:(d==0)=D
 generalize hC:(c==0)=C
 generalize hA:(a==0)=A
 rw[show (d != 0) = !D by rw[←hD];rfl]
 cases D
 ·rfl
 by_cases h1:op=1
 ·subst h1;rfl
 by_cases h2:op=2
 ·subst h2;rfl
 by_cases h3:op=3
 ·subst h3;rfl
 by_cases h8:op=8
 ·subst h8;rfl
 by_cases h20:op=20
 ·subst h20;rfl
 by_cases h4:op=4
 ·subst h4;rfl
 by_cases h5:op=5
 ·subst h5;rfl
 by_cases h9:op=9
 ·subst h9;rfl
 by_cases h6:op=6
 ·subst h6;rfl
 by_cases h7:op=7
 ·subst h7;rfl
 by_cases h10:op=10
 ·subst h10;rfl
 by_cases h11:op=11
 ·subst h11;rfl
 by_cases h12:op=12
 ·subst h12;rfl
 by_cases h13:op=13
 ·subst h13;rfl
 by_cases h14:op=14
 ·subst h14;rfl
 by_cases h15:op=15
 ·subst h15;rfl
 by_cases h16:op=16
 ·subst h16;rfl
 by_cases h17:op=17
 ·subst h17;rfl
 by_cases h18:op=18
 ·subst h18;rfl
 by_cases h19:op=19
 ·subst h19;rfl
 by_cases h21:op=21
 ·subst h21;rfl
 by_cases h22:op=22
 ·subst h22;rfl
 by_cases h23:op=23
 ·subst h23;rfl
 by_cases h58:op=58
 ·subst h58;rfl
 by_cases h59:op=59
 ·subst h59;rfl
 simp[h1,h2,h3,h4,h5,h6,h7,h8,h9,h10,h11,h12,h13,h14,h15,h16,h17,h18,h19,h20,h21,h22,h23,h58,h59]
def Au0(nd np:Nat)(l:Ade)(i:Nat):Bool :=
 A2e nd np l (Aaz l i).1 (Aaz l i).2.1 (Aaz l i).2.2.1 (Aaz l i).2.2.2.1 (Aaz l i).2.2.2.2
theorem swB(a c x:Bool):(a&&(c&&x))=(true&&(a&&(x&&c))):=by cases a<;>cases c<;>cases x<;>rfl
theorem asB(a x y p:Bool):(a&&(x&&(y&&p)))=(true&&(a&&((x&&y)&&p))):=by cases a<;>cases x<;>cases y<;>cases p<;>rfl
set_option maxHeartbeats 2000000 in
theorem Cfc{R:Type}(N:Nat)(g:List UInt8)(e:Aa5)(h:Ab3)(f:Ai5)(l:Ade)(op a b c d:Int)(K:Bool→Option R) :
  Akb N g e h f l op a b c d K=K (A2e e.length f.length l op a b c d):=by
 simp only[Akb,Bk7,Ae3,Bk3,Adv,A9d,Adu,A9c,Adt,A9b,Adf,Acz,A9j,Ac9,A9i,Ac8,A9h,Ac7,A9g,Aco,Cpz,Cfb,Cn6,Cn4,ifB,A2e,B3q,Am0]
 generalize Ahv l b=P
 generalize Ahv l c=P'
 generalize hD:(d==0)=D
 generalize hC:(c==0)=C
 generalize hA:(a==0)=A
 generalize hRA:inB a 0 7=RA
 generalize hRB:inB b 0 7=RB
 generalize hRC:inB c 0 7=RC
 rw[show (d != 0) = !D by rw[←hD];rfl]
 cases D
 ·rfl
 by_cases h1:op=1
 ·subst h1;exact congrArg K (swB RA C _)
 by_cases h2:op=2
 ·subst h2;exact congrArg K (swB RA C _)
 by_cases h3:op=3
 ·subst h3;exact congrArg K (swB RA C _)
 by_cases h8:op=8
 ·subst h8;exact congrArg K (swB RA C _)
 by_cases h20:op=20
 ·subst h20;exact congrArg K (swB RA C _)
 by_cases h4:op=4
 ·subst h4;exact congrArg K (swB RA C _)
 by_cases h5:op=5
 ·subst h5;exact congrArg K (swB RA C _)
 by_cases h9:op=9
 ·subst h9;exact congrArg K (swB RA C _)
 by_cases h6:op=6
 ·subst h6;exact congrArg K (swB RA C _)
 by_cases h7:op=7
 ·subst h7;exact congrArg K (swB RA C _)
 by_cases h10:op=10
 ·subst h10;exact congrArg K (swB RA C _)
 by_cases h11:op=11
 ·subst h11;exact congrArg K (swB RA C _)
 by_cases h12:op=12
 ·subst h12;cases RA<;>cases C<;>cases RB<;>rfl
 by_cases h13:op=13
 ·subst h13;cases RA<;>cases RB<;>rfl
 by_cases h14:op=14
 ·subst h14;cases RA<;>cases RB<;>rfl
 by_cases h15:op=15
 ·subst h15;cases RA<;>cases RB<;>rfl
 by_cases h16:op=16
 ·subst h16;cases RA<;>cases RB<;>rfl
 by_cases h17:op=17
 ·subst h17;cases A<;>cases C<;>rfl
 by_cases h18:op=18
 ·subst h18;cases RA<;>cases C<;>rfl
 by_cases h19:op=19
 ·subst h19;cases RA<;>cases C<;>rfl
 by_cases h21:op=21
 ·subst h21
  have:inB b 0 0=(b==0):=by
   unfold inB
   by_cases hb:b=0
   ·subst hb;rfl
   ·rw[show (b==0)=false by simpa using hb];simp;omega
  rw[this];generalize (b==0)=B;cases RA<;>cases C<;>cases B<;>rfl
 by_cases h22:op=22
 ·subst h22;exact (show _=K (RA&&(decide (b≥0)&&(decide (b≤1000)&&P'))) from rfl).trans (congrArg K (asB RA _ _ P'))
 by_cases h23:op=23
 ·subst h23;exact (show _=K (A&&(decide (b≥-2147483648)&&(decide (b≤2147483647)&&P'))) from rfl).trans (congrArg K (asB A _ _ P'))
 by_cases h58:op=58
 ·subst h58;cases RA<;>cases C<;>cases RB<;>rfl
 by_cases h59:op=59
 ·subst h59;cases RA<;>cases C<;>cases RB<;>rfl
 simp[h1,h2,h3,h4,h5,h6,h7,h8,h9,h10,h11,h12,h13,h14,h15,h16,h17,h18,h19,h20,h21,h22,h23,h58,h59]
 simp only[inB,Bool.and_assoc,ge_iff_le]
def cnt:Int→Ade→Bool
 |c,[]=>decide (c≤0)
 |c,o::r=>(decide (0<c)==(o.1==23))&&cnt (if o.1=22 then o.2.2.1 else if 0<c then c-1 else c) r
def Bdx:Nat→Ade→Bool
 |0,_=>true
 | _+1,[]=>false
 |m+1,o::r=>o.1==23&&Bdx m r
theorem Chh:∀{m:Nat} {r:Ade},Bdx m r=true→m≤r.length
 |0,_,_=>Nat.zero_le _
 |m+1,[],h=>by cases h
 |m+1,o::r,h=>by
  simp only[Bdx,Bool.and_eq_true]at h
  have:=Chh h.2
  simp only[List.length_cons];omega
theorem Chi:∀(m:Nat) (r:Ade),cnt m r=(Bdx m r&&cnt 0 (r.drop m))
 |0,r=>by simp[Bdx]
 |m+1,[]=>by simp[Bdx,cnt]
 |m+1,o::r=>by
  simp only[Bdx,cnt,List.drop_succ_cons]
  have e:decide (0<((m+1:Nat):Int))=true:=decide_eq_true (by omega)
  rw[e]
  by_cases h:o.1=23
  ·rw[if_neg (by rw[h];decide),if_pos (by omega),show ((m+1:Nat):Int)-1=(m:Int) by omega,Chi m r]
   simp[h]
  ·have:(o.1==23)=false:=by simpa using h
   rw[this];rfl
theorem Csr{o:Int×Int×Int×Int×Int}{r:Ade}{n:Nat}(h:o.1=22)(hn:o.2.2.1=(n:Int)):cnt 0 (o::r)=cnt (n:Int) r:=by
 simp only[cnt];rw[if_pos h,h,hn];rfl
theorem Cl5{o:Int×Int×Int×Int×Int}{r:Ade}(h:o.1=23):cnt 0 (o::r)=false:=by
 simp only[cnt];rw[h];rfl
theorem Ctl{o:Int×Int×Int×Int×Int}{r:Ade}(h:o.1≠22)(h':o.1≠23):cnt 0 (o::r)=cnt 0 r:=by
 simp only[cnt];rw[if_neg h,show (o.1==23)=false by simpa using h'];rfl
theorem A90{l:Ade}{i:Nat}(h:i<l.length):l.drop i=Aaz l i::l.drop (i+1):=by
 rw[List.drop_eq_getElem_cons h]
 congr 1
 unfold Aaz
 rw[List.getD_eq_getElem?_getD];simp[h]
theorem Cua{R:Type}(N:Nat)(l:Ade)(hl:l.length≤1000000)(i:Nat)(hi:i<l.length)(n:Int)(hn:n≤1000)(a:Bool→Option R)(b:Ade→Int→Int→Int→Int→Option R) :
  ∀(m k t:Nat),m<k→((t+m:Nat):Int)=n→
   Acr N k l 22 23 i n n t a b=if Bdx m (l.drop (i+1+t))=true then b l 22 23 i n else a false:=by
 intro m
 induction m with
 |zero=>
  intro k t hk ht
  obtain⟨k,rfl⟩:∃q,k=q+1:=⟨k-1,by omega⟩
  simp only[Acr,Asn]
  rw[if_neg (by simp only[decide_eq_true_eq];omega),Bdx,if_pos rfl]
 |succ m ih=>
  intro k t hk ht
  obtain⟨k,rfl⟩:∃q,k=q+1:=⟨k-1,by omega⟩
  simp only[Acr,Asn,Ac3 (show i<4611686018427387904 by omega),Ac3 (show t<4611686018427387904 by omega),len]
  have e:wi (((i+1:Nat):Int)+(t:Int))=((i+1+t:Nat):Int):=by rw[Agj (by omega) (by omega)];omega
  rw[if_pos (by simp only[decide_eq_true_eq];omega),e]
  by_cases hv:i+1+t<l.length
  ·rw[if_neg (by simp only[decide_eq_true_eq,ge_iff_le];omega),if_pos (by omega)]
   rw[show List.getD l ((i+1+t:Nat):Int).toNat (0,0,0,0,0)=Aaz l (i+1+t) from rfl,A90 hv,Bdx]
   by_cases hc:(Aaz l (i+1+t)).1=23
   ·rw[if_neg (by simpa using hc),ih k (t+1) (by omega) (by omega)]
    rw[hc]
    rfl
   ·rw[if_pos (by simpa using hc),if_neg (by simp[hc])]
  ·rw[if_pos (by simp only[decide_eq_true_eq,ge_iff_le];omega),List.drop_eq_nil_of_le (by omega),Bdx,if_neg (by decide)]
theorem sw5{R:Type}(N:Nat)(l:Ade)(hl:l.length≤1000000)(hN:1000<N)(hA:∀i,i<l.length→(Aaz l i).1=22→0≤(Aaz l i).2.2.1∧(Aaz l i).2.2.1≤1000)(a:Bool→Option R)(d:Option R) :
  ∀(k i:Nat),i≤l.length→l.length-i<k→Ac2 N k l 22 23 i a d=if cnt 0 (l.drop i)=true then d else a false:=by
 intro k
 induction k with
 |zero=>intro i hi hk;omega
 |succ k ih=>
  intro i hi hk
  simp only[Ac2,A1u,Af1,len]
  by_cases h:l.length≤i
  ·rw[if_neg (by simp only[decide_eq_true_eq];omega),List.drop_eq_nil_of_le h];rfl
  replace h:i<l.length:=by omega
  rw[if_pos (by simp only[decide_eq_true_eq];omega),if_pos (by omega)]
  rw[show List.getD l ((i:Nat):Int).toNat (0,0,0,0,0)=Aaz l i from rfl,A90 h]
  by_cases h12:(Aaz l i).1=22
  ·obtain⟨a0,a1⟩:=hA i h h12
   obtain⟨n,hn⟩:=Int.eq_ofNat_of_zero_le a0
   rw[Csr h12 hn,if_pos (by rw[h12];rfl),if_pos (by omega),hn]
   have:=Cua N l hl i h (n:Int) (by omega) (fun j=>a j) (fun c g f m o=>let b:=(wi ((wi (m+o))+(1:Int)));if ((decide ((b<((List.length c:Nat):Int))))=true) then (if (((0:Int)≤b)∧(b<((List.length c:Nat):Int))) then (if (((List.getD c (Int.toNat b) ((0:Int),((0:Int),((0:Int),((0:Int),(0:Int)))))).1==f)=true) then (a false) else (Ac2 N k c g f b a d)) else none) else (Ac2 N k c g f b a d)) n N 0 (by omega) (by omega)
   rw[show ((0:Nat):Int)=0 from rfl,Nat.add_zero]at this
   rw[this,Chi n (l.drop (i+1))]
   cases hc:Bdx n (l.drop (i+1))
   ·rfl
   have hle:=Chh hc
   simp only[List.length_drop]at hle
   have e:wi (wi ((i:Int)+(n:Int))+1)=((i+n+1:Nat):Int):=by
    rw[Agj (i:=(i:Int)+(n:Int)) (by omega) (by omega),Agj (by omega) (by omega)];omega
   rw[if_pos rfl]
   simp only[e,List.drop_drop]
   rw[show i+1+n=i+n+1 by omega]
   by_cases hv:i+n+1<l.length
   ·rw[if_pos (by simp only[decide_eq_true_eq];omega),if_pos (by omega)]
    rw[show List.getD l ((i+n+1:Nat):Int).toNat (0,0,0,0,0)=Aaz l (i+n+1) from rfl]
    by_cases h13:(Aaz l (i+n+1)).1=23
    ·rw[if_pos (by simpa using h13),A90 hv,Cl5 h13];rfl
    ·rw[if_neg (by simpa using h13),ih (i+n+1) (by omega) (by omega)];rfl
   ·rw[if_neg (by simp only[decide_eq_true_eq];omega),ih (i+n+1) (by omega) (by omega)];rfl
  ·rw[if_neg (by simpa using h12)]
   by_cases h13:(Aaz l i).1=23
   ·rw[if_pos (by simpa using h13),Cl5 h13];rfl
   ·rw[if_neg (by simpa using h13),Ac3 (by omega),ih (i+1) (by omega) (by omega),Ctl h12 h13]
theorem Bz6{R:Type}(N:Nat)(l:Ade)(hl:l.length≤1000000)(hN:1000<N)(hN2:l.length<N)(hA:∀i,i<l.length→(Aaz l i).1=22→0≤(Aaz l i).2.2.1∧(Aaz l i).2.2.1≤1000)(K:Bool→Option R) :
  Afn N l 22 23 K=K (cnt 0 l):=by
 simp only[Afn,A7i]
 have:=sw5 N l hl hN hA (fun a=>K a) (K true) N 0 (by omega) (by omega)
 rw[show ((0:Nat):Int)=0 from rfl,List.drop_zero]at this
 rw[this]
 cases cnt 0 l<;>rfl
def Ben(l:Ade)(i:Nat):Bool :=
 if (Aaz l i).1=17∨(Aaz l i).1=21 then true else if (Aaz l i).1=22 then (Aaz l i).2.2.1==0
 else if (Aaz l i).1=23 then decide (i+1=l.length)||(Aaz l (i+1)).1 != 23 else false
theorem Bti{R:Type}(N:Nat)(l:Ade)(i:Nat)(hi:i<l.length)(hl:l.length≤1000000)(K:Bool→Option R):Ams N l i K=K (Ben l i):=by
 simp only[Ams,Bk1,Ahy,len,Ac3 (show i<4611686018427387904 by omega)]
 rw[if_pos (show (0:Int)≤i∧(i:Int)<l.length by omega),if_pos (show (0:Int)≤i∧(i:Int)<l.length by omega)]
 rw[show List.getD l ((i:Nat):Int).toNat (0,0,0,0,0)=Aaz l i from rfl,show List.getD l ((i+1:Nat):Int).toNat (0,0,0,0,0)=Aaz l (i+1) from rfl]
 unfold Ben
 generalize (Aaz l i).2.2.1=a
 generalize hop:(Aaz l i).1=op
 by_cases h7:op=17
 ·subst h7;rfl
 by_cases h11:op=21
 ·subst h11;rfl
 by_cases h12:op=22
 ·subst h12;rfl
 by_cases h13:op=23
 ·subst h13
  by_cases h:i+1=l.length
  ·have e:(((i+1:Nat):Int)==(l.length:Int))=true:=by simp;omega
   rw[e,decide_eq_true h];rfl
  ·have e:(((i+1:Nat):Int)==(l.length:Int))=false:=by simp;omega
   rw[e,decide_eq_false h]
   simp only[if_pos (show (0:Int)≤((i+1:Nat):Int)∧((i+1:Nat):Int)<l.length by omega)]
   rfl
 simp[h7,h11,h12,h13]
def Bkg(l:Ade)(b:Int×Int×Int):Bool :=
 inB b.1 0 ((l.length:Int)-1)&&((Aaz l b.1.toNat).1 != 23&&(inB b.2.1 0 8&&(inB b.2.2 2 4001&&(decide (b.1≤0)||Ben l (b.1.toNat-1)))))
theorem Cp0{R:Type}(N:Nat)(d:Ai5)(l:Ade)(hd:d.length≤1000000)(hl:l.length≤1000000)(a:List UInt8)(c:Aa5)(f:Ab3)(g:Ai5)(n:List UInt8)(o:Aa5)(q:Ab3)(s:Ai5)(j:Bool→Bool→List UInt8→Aa5→Ab3→Ai5→Ade→Option R)(m:List UInt8→Aa5→Ab3→Ai5→Ade→Option R) :
  ∀(k i:Nat),i≤d.length→d.length-i<k→Ad6 N k d (d.length:Int) i a c f g l n o q s l j m =
   if (d.drop i).all (Bkg l)=true then m a c f g l else j false false a c f g l:=by
 intro k
 induction k with
 |zero=>intro i hi hk;omega
 |succ k ih=>
  intro i hi hk
  simp only[Ad6,A7b,Ad1,Af0,A08,len]
  by_cases h:d.length≤i
  ·rw[if_neg (by simp only[decide_eq_true_eq];omega),List.drop_eq_nil_of_le h];rfl
  replace h:i<d.length:=by omega
  rw[if_pos (by simp only[decide_eq_true_eq];omega),if_pos (by omega),Ahx d _ h,Ac3 (by omega),ih (i+1) (by omega) (by omega),List.drop_eq_getElem_cons h,List.all_cons]
  obtain⟨b,p,r⟩:=d[i]
  rw[show Bkg l (b,p,r)=(inB b 0 ((l.length:Int)-1)&&((Aaz l b.toNat).1 != 23&&(inB p 0 8&&(inB r 2 4001&&(decide (b≤0)||Ben l (b.toNat-1)))))) from rfl]
  dsimp only
  by_cases h0:b<0
  ·rw[if_pos (by simpa using h0),show inB b 0 ((l.length:Int)-1)=false by unfold inB;rw[decide_eq_false (by omega)];rfl];rfl
  rw[if_neg (by simpa using h0)]
  by_cases h1:b≥(l.length:Int)
  ·rw[if_pos (by simpa using h1),show inB b 0 ((l.length:Int)-1)=false by unfold inB;rw[decide_eq_false (p:=b≤_) (by omega),Bool.and_false]];rfl
  rw[if_neg (by simpa using h1),if_pos (show 0≤b∧b<(l.length:Int) by omega)]
  rw[show inB b 0 ((l.length:Int)-1)=true by unfold inB;rw[decide_eq_true (by omega),decide_eq_true (by omega)];rfl]
  rw[show List.getD l b.toNat (0,0,0,0,0)=Aaz l b.toNat from rfl]
  by_cases h2:(Aaz l b.toNat).1=23
  ·rw[h2];rfl
  rw[if_neg (by simpa using h2),show ((Aaz l b.toNat).1 != 23)=true by simpa using h2]
  by_cases h3:p<0
  ·rw[if_pos (by simpa using h3),show inB p 0 8=false by unfold inB;rw[decide_eq_false (by omega)];rfl];rfl
  rw[if_neg (by simpa using h3)]
  by_cases h4:p > 8
  ·rw[if_pos (by simpa using h4),show inB p 0 8=false by unfold inB;rw[decide_eq_false (p:=p≤_) (by omega),Bool.and_false]];rfl
  rw[if_neg (by simpa using h4),show inB p 0 8=true by unfold inB;rw[decide_eq_true (by omega),decide_eq_true (by omega)];rfl]
  by_cases h5:r<2
  ·rw[if_pos (by simpa using h5),show inB r 2 4001=false by unfold inB;rw[decide_eq_false (by omega)];rfl];rfl
  rw[if_neg (by simpa using h5)]
  by_cases h6:r > 4001
  ·rw[if_pos (by simpa using h6),show inB r 2 4001=false by unfold inB;rw[decide_eq_false (p:=r≤_) (by omega),Bool.and_false]];rfl
  rw[if_neg (by simpa using h6),show inB r 2 4001=true by unfold inB;rw[decide_eq_true (by omega),decide_eq_true (by omega)];rfl]
  by_cases h7:b > 0
  ·have e:wi (b-1)=((b.toNat-1:Nat):Int):=by rw[Agj (by omega) (by omega)];omega
   rw[if_pos (by simpa using h7),e,Bti N l _ (by omega) hl,decide_eq_false (p:=b≤0) (by omega)]
   cases Ben l (b.toNat-1)<;>rfl
  ·rw[if_neg (by simpa using h7),decide_eq_true (p:=b≤0) (by omega)];rfl
def Bt7(l:Ade)(d:Ai5):Bool:=(decide (l.length=0)||Ben l (l.length-1))&&d.all (Bkg l)
theorem Cbm{R:Type}{N:Nat}{nm:List UInt8}{data:Aa5}{gl:Ab3}(F:Bii N nm data gl)(d:Ai5)(l:Ade)(K:Bool→Bool→List UInt8→Aa5→Ab3→Ai5→Ade→Option R) :
  Aiq N nm data gl d l nm data gl d l K =
   if 32000<l.length∨200<d.length then K true false nm data gl d l else if Ao6 nm data gl d.length=2 then K true false nm data gl d l
   else if Ao6 nm data gl d.length=60 then K false false nm data gl d l else K false (Bt7 l d) nm data gl d l:=by
 have hN:=F.N1
 simp only[Aiq,Bgj]
 by_cases h1:32000<l.length
 ·rw[if_pos (by simp only[len,decide_eq_true_eq];omega),if_pos (.inl h1)]
 rw[if_neg (by simp only[len,decide_eq_true_eq];omega)]
 by_cases h2:200<d.length
 ·rw[if_pos (by simp only[len,decide_eq_true_eq];omega),if_pos (.inr h2)]
 rw[if_neg (by simp only[len,decide_eq_true_eq];omega),if_neg (by omega)]
 have h35:=Cp0 N d l (by omega) (by omega) nm data gl d nm data gl d (fun a b c f g h i=>K a b c f g h i) (fun j m n o p=>K false true j m n o p) N 0 (by omega) (by omega)
 rw[show ((0:Nat):Int)=0 from rfl,List.drop_zero]at h35
 have:=fun K'=>Cpx (R:=R) N nm data gl d l nm data gl d l nm data gl (len d) 0 K' d.length N 0 [] (by omega) (by omega) rfl
 rw[show ((0:Nat):Int)=0 from rfl,Nat.zero_add]at this
 simp only[len]at this ⊢
 rw[this]
 simp only[List.nil_append]
 rw[B7i F]
 change (if (Ao6 nm data gl d.length==2)=true then _ else if (Ao6 nm data gl d.length==60)=true then _ else _)=_
 by_cases h3:Ao6 nm data gl d.length=2
 ·rw[if_pos (by simpa using h3),if_pos h3]
 rw[if_neg (by simpa using h3),if_neg h3]
 by_cases h4:Ao6 nm data gl d.length=60
 ·rw[if_pos (by simpa using h4),if_pos h4]
 rw[if_neg (by simpa using h4),if_neg h4]
 unfold Bt7
 by_cases h5:l.length=0
 ·rw[if_neg (by simp only[decide_eq_true_eq];omega),decide_eq_true h5,h35]
  cases d.all (Bkg l)<;>rfl
 ·rw[if_pos (by simp only[decide_eq_true_eq];omega),decide_eq_false h5]
  have e:wi ((l.length:Int)-1)=((l.length-1:Nat):Int):=by rw[Agj (by omega) (by omega)];omega
  simp only[Ad1,A08,e]
  rw[Bti N l _ (by omega) (by omega),h35]
  cases Ben l (l.length-1)
  ·rfl
  ·cases d.all (Bkg l)<;>rfl
def Au1(nd np:Nat)(l:Ade):Nat→Nat→Bool
 | _,0=>true
 |i,m+1=>Au0 nd np l i&&Au1 nd np l (i+1) m
theorem Bt8{nd np:Nat}{l:Ade}:∀(m i:Nat),Au1 nd np l i m=true→∀j,i≤j→j<i+m→Au0 nd np l j=true
 |0,i,_,j,h1,h2=>by omega
 |m+1,i,h,j,h1,h2=>by
  simp only[Au1,Bool.and_eq_true]at h
  by_cases e:j=i
  ·rw[e];exact h.1
  ·exact Bt8 m (i+1) h.2 j (by omega) (by omega)
theorem Bz7{nd np:Nat}{l:Ade}{i:Nat}(h:Au0 nd np l i=true)(h12:(Aaz l i).1=22):0≤(Aaz l i).2.2.1∧(Aaz l i).2.2.1≤1000:=by
 unfold Au0 A2e B3q at h
 rw[h12]at h
 simp[inB]at h
 exact h.2.2.1
theorem Cp1{R:Type}(N:Nat)(c:Bool)(d:List UInt8)(a:Aa5)(e:Ab3)(b:Ai5)(l:Ade)(hl:l.length≤1000000)(f:Int→Option R)(g:Bool→List UInt8→Aa5→Ab3→Ai5→Ade→Option R) :
  ∀(m k i:Nat),m<k→i+m=l.length→Ae6 N k c l (l.length:Int) i d a e b l f g =
   if Au1 a.length b.length l i m=true then g c d a e b l else f 60:=by
 intro m
 induction m with
 |zero=>
  intro k i hk hi
  obtain⟨k,rfl⟩:∃q,k=q+1:=⟨k-1,by omega⟩
  simp only[Ae6,Ax6]
  rw[if_neg (by simp only[decide_eq_true_eq];omega)];rfl
 |succ m ih=>
  intro k i hk hi
  obtain⟨k,rfl⟩:∃q,k=q+1:=⟨k-1,by omega⟩
  simp only[Ae6,Ax6,Cfc,len]
  rw[if_pos (by simp only[decide_eq_true_eq];omega),if_pos (by omega),Ac3 (by omega),ih k (i+1) (by omega) (by omega)]
  rw[show List.getD l ((i:Nat):Int).toNat (0,0,0,0,0)=Aaz l i from rfl]
  rw[show Au1 a.length b.length l i (m+1)=(Au0 a.length b.length l i&&Au1 a.length b.length l (i+1) m) from rfl]
  rw[show A2e a.length b.length l (Aaz l i).1 (Aaz l i).2.1 (Aaz l i).2.2.1 (Aaz l i).2.2.2.1 (Aaz l i).2.2.2.2=Au0 a.length b.length l i from rfl]
  cases Au0 a.length b.length l i<;>rfl
def Cb7(nm:List UInt8)(data:Aa5)(gl:Ab3)(d:Ai5)(l:Ade):Int :=
 if 32000<l.length∨200<d.length then 2 else if Ao6 nm data gl d.length=2 then 2 else if Ao6 nm data gl d.length=60 then 60
 else if (Au1 data.length d.length l 0 l.length&&(Bt7 l d&&cnt 0 l))=true then 0 else 60
theorem Bdy{R:Type}{N:Nat}{nm:List UInt8}{data:Aa5}{gl:Ab3}(F:Bii N nm data gl)(d:Ai5)(l:Ade)(K:Int→Option R) :
  Agi N nm data gl d l K=K (Cb7 nm data gl d l):=by
 have hN:=F.N1
 simp only[Agi,Bgm,len]
 rw[Cbm F]
 unfold Cb7
 by_cases h1:32000<l.length∨200<d.length
 ·rw[if_pos h1,if_pos h1];rfl
 rw[if_neg h1,if_neg h1]
 by_cases h2:Ao6 nm data gl d.length=2
 ·rw[if_pos h2,if_pos h2];rfl
 rw[if_neg h2,if_neg h2]
 have hc:=fun a=>Cp1 (R:=R) N a nm data gl d l (by omega) (fun b=>K b) (fun c g h j m e=>if ((!c)=true) then (K 60) else (Afn N e 22 23 (fun f=>if ((!f)=true) then (K 60) else (K 0)))) l.length N 0 (by omega) (by omega)
 simp only[show ((0:Nat):Int)=0 from rfl]at hc
 by_cases h3:Ao6 nm data gl d.length=60
 ·rw[if_pos h3,if_pos h3,if_neg (by decide),hc]
  cases Au1 data.length d.length l 0 l.length<;>rfl
 rw[if_neg h3,if_neg h3,if_neg (by decide),hc]
 cases h4:Au1 data.length d.length l 0 l.length
 ·rfl
 cases Bt7 l d
 ·rfl
 rw[if_pos rfl,if_neg (by decide),Bz6 N l (by omega) (by omega) (by omega) (fun i hi h12=>Bz7 (Bt8 _ _ h4 i (by omega) (by omega)) h12)]
 cases cnt 0 l<;>rfl
def Ayu(op:Int):Bool:=op != 17&&(op != 21&&(op != 22&&op != 23))
theorem Bkh{R:Type}(N:Nat)(op:Int)(K:Bool→Option R):Adg N op K=K (Ayu op):=by
 simp only[Adg,ifT,Ayu]
def Bah(o:Int×Int×Int×Int×Int)(c:Int):Int:=if o.1=22 then o.2.2.1 else if 0<c then c-1 else c
def okI(nd np:Nat)(l:Ade)(i:Nat)(c:Int):Bool :=
 Au0 nd np l i &&
 ((decide (0<c)==((Aaz l i).1==23))&&(!decide (i+1=l.length) || !Ayu (Aaz l i).1))
def rfB(nd np:Nat)(l:Ade):Nat→Nat→Int→Bool
 | _,0,c=>decide (c≤0)
 |i,m+1,c=>okI nd np l i c&&rfB nd np l (i+1) m (Bah (Aaz l i) c)
theorem Cgo{nd np:Nat}{l:Ade}{i:Nat}{c:Int}(h:Au0 nd np l i=true)(hc:0≤c∧c≤1000):0≤Bah (Aaz l i) c∧Bah (Aaz l i) c≤1000:=by
 unfold Bah
 by_cases h12:(Aaz l i).1=22
 ·rw[if_pos h12];exact Bz7 h h12
 ·rw[if_neg h12];split<;>omega
theorem Cp2{R:Type}(N:Nat)(c i:Int)(a:List UInt8)(b:Aa5)(d:Ab3)(e:Ai5)(l:Ade)(o:Int×Int×Int×Int×Int)(hc:0≤c∧c≤1000)(K:Int→Int→List UInt8→Aa5→Ab3→Ai5→Ade→Option R) :
  (if decide (c > 0)=true then Aci N (wi (c-1)) i a b d e l o.1 o.2.1 o.2.2.1 o.2.2.2.1 o.2.2.2.2 K else Aci N c i a b d e l o.1 o.2.1 o.2.2.1 o.2.2.2.1 o.2.2.2.2 K)=K (Bah o c) i a b d e l:=by
 simp only[Aci,Bah]
 by_cases h0:c > 0
 ·rw[if_pos (by simpa using h0),Agj (by omega) (by omega),if_pos (show 0<c from h0)]
  by_cases h12:o.1=22
  ·rw[if_pos (by simpa using h12),if_pos h12]
  ·rw[if_neg (by simpa using h12),if_neg h12]
 ·rw[if_neg (by simpa using h0),if_neg (show ¬0<c from h0)]
  by_cases h12:o.1=22
  ·rw[if_pos (by simpa using h12),if_pos h12]
  ·rw[if_neg (by simpa using h12),if_neg h12]
theorem Ctm{R:Type}(N:Nat)(e:List UInt8)(a:Aa5)(f:Ab3)(b:Ai5)(l:Ade)(hl:l.length≤1000000)(hd:a.length≤1000000)(d:Int→Option R)(g:Int→List UInt8→Aa5→Ab3→Ai5→Ade→Option R)(G:Option R)(hK:∀c,g c e a f b l=if decide (c > 0)=true then d 60 else G) :
  ∀(m k i:Nat) (c:Int),m<k→i+m=l.length→0≤c∧c≤1000→Acx N k c i e a f b l d g=if rfB a.length b.length l i m c=true then G else d 60:=by
 intro m
 induction m with
 |zero=>
  intro k i c hk hi hc
  obtain⟨k,rfl⟩:∃q,k=q+1:=⟨k-1,by omega⟩
  simp only[Acx,Awe,len]
  rw[if_neg (by simp only[decide_eq_true_eq];omega),hK]
  by_cases h:c > 0
  ·rw[if_pos (by simpa using h),rfB,if_neg (by simp only[decide_eq_true_eq];omega)]
  ·rw[if_neg (by simpa using h),rfB,if_pos (by simp only[decide_eq_true_eq];omega)]
 |succ m ih=>
  intro k i c hk hi hc
  obtain⟨k,rfl⟩:∃q,k=q+1:=⟨k-1,by omega⟩
  simp only[Acx,Awe,len,Bkh]
  rw[if_pos (by simp only[decide_eq_true_eq];omega),if_pos (by omega),Ac3 (by omega)]
  rw[show List.getD l ((i:Nat):Int).toNat (0,0,0,0,0)=Aaz l i from rfl]
  simp only[Cp2 N c _ _ _ _ _ _ (Aaz l i) hc]
  rw[B7r N _ _ _ _ l _ _ _ _ _ hd hl]
  rw[show rfB a.length b.length l i (m+1) c=(okI a.length b.length l i c&&rfB a.length b.length l (i+1) m (Bah (Aaz l i) c)) from rfl]
  unfold okI
  rw[show A2e a.length b.length l (Aaz l i).1 (Aaz l i).2.1 (Aaz l i).2.2.1 (Aaz l i).2.2.2.1 (Aaz l i).2.2.2.2=Au0 a.length b.length l i from rfl]
  cases hr:Au0 a.length b.length l i
  ·rfl
  have hn:=Cgo hr hc
  rw[Ac3 (by omega),ih k (i+1) _ (by omega) (by omega) hn]
  rw[show (decide (c > 0))=decide (0<c) from rfl]
  cases (decide (0<c)==((Aaz l i).1==23))
  ·rfl
  rw[if_neg (by decide),if_neg (by decide)]
  by_cases he:i+1=l.length
  ·rw[if_pos (by simp;omega),decide_eq_true he]
   cases Ayu (Aaz l i).1<;>rfl
  ·rw[if_neg (by simp;omega),decide_eq_false he];rfl
def Bai(l:Ade)(b:Int×Int×Int):Bool :=
 Ahv l b.1&&(inB b.2.1 0 8&&(inB b.2.2 2 4001&&(decide (b.1≤0) || !Ayu (Aaz l (b.1.toNat-1)).1)))
theorem Ctn{R:Type}(N:Nat)(f:List UInt8)(g:Aa5)(j:Ab3)(d:Ai5)(l:Ade)(hd:d.length≤1000000)(hl:l.length≤1000000)(a:Int→Option R)(c:Option R) :
  ∀(k i:Nat),i≤d.length→d.length-i<k→Acy N k i f g j d l a c=if (d.drop i).all (Bai l)=true then c else a 60:=by
 intro k
 induction k with
 |zero=>intro i hi hk;omega
 |succ k ih=>
  intro i hi hk
  simp only[Acy,A5o,A2f,Bkh,Bnr N _ _ _ _ l _ hl,len]
  by_cases h:d.length≤i
  ·rw[if_neg (by simp only[decide_eq_true_eq];omega),List.drop_eq_nil_of_le h];rfl
  replace h:i<d.length:=by omega
  rw[if_pos (by simp only[decide_eq_true_eq];omega),if_pos (by omega),Ahx d _ h,Ac3 (by omega),ih (i+1) (by omega) (by omega),List.drop_eq_getElem_cons h,List.all_cons]
  obtain⟨b,p,r⟩:=d[i]
  rw[show Bai l (b,p,r)=(Ahv l b&&(inB p 0 8&&(inB r 2 4001&&(decide (b≤0) || !Ayu (Aaz l (b.toNat-1)).1)))) from rfl]
  dsimp only
  cases h0:Ahv l b
  ·rfl
  have hb:0≤b∧b<(l.length:Int):=by unfold Ahv inB at h0;simp at h0;omega
  cases inB p 0 8
  ·rfl
  cases inB r 2 4001
  ·rfl
  rw[if_neg (by decide),if_neg (by decide),if_neg (by decide)]
  by_cases h7:b > 0
  ·have e:wi (b-1)=((b.toNat-1:Nat):Int):=by rw[Agj (by omega) (by omega)];omega
   rw[if_pos (by simpa using h7),e,if_pos (by omega),decide_eq_false (p:=b≤0) (by omega)]
   rw[show List.getD l ((b.toNat-1:Nat):Int).toNat (0,0,0,0,0)=Aaz l (b.toNat-1) from rfl]
   cases Ayu (Aaz l (b.toNat-1)).1<;>rfl
  ·rw[if_neg (by simpa using h7),decide_eq_true (p:=b≤0) (by omega)];rfl
def Bns(nm:List UInt8)(data:Aa5)(gl:Ab3)(d:Ai5)(l:Ade):Int :=
 if 32000<l.length∨200<d.length then 2 else if Ao6 nm data gl d.length=2 then 2 else if Ao6 nm data gl d.length=60 then 60
 else if (rfB data.length d.length l 0 l.length 0&&d.all (Bai l))=true then 0 else 60
theorem A1m{R:Type}{N:Nat}{nm:List UInt8}{data:Aa5}{gl:Ab3}(F:Bii N nm data gl)(d:Ai5)(l:Ade)(hdat:data.length≤1000000)(K:Int→Option R) :
  Aeh N nm data gl d l K=K (Bns nm data gl d l):=by
 have hN:=F.N1
 simp only[Aeh,Bdo]
 rw[B7q F]
 unfold Bns
 by_cases h1:32000<l.length∨200<d.length
 ·rw[if_pos h1,if_pos h1];rfl
 rw[if_neg h1,if_neg h1]
 rcases Cfa nm data gl d.length with h|h|h
 ·rw[h,if_neg (by decide),if_neg (by decide),if_neg (by decide)]
  have h37:=Ctn N nm data gl d l (by omega) (by omega) (fun a=>K a) (K 0) N 0 (by omega) (by omega)
  have h13:=Ctm N nm data gl d l (by omega) hdat (fun b=>K b) (fun e f g i j m=>if ((decide ((e > (0:Int))))=true) then (K 60) else (Acy N N 0 f g i j m (fun a=>K a) (K 0))) _ (fun c=>rfl) l.length N 0 0 (by omega) (by omega) ⟨by decide,by decide⟩
  rw[show ((0:Nat):Int)=0 from rfl]at h37 h13
  rw[h13,h37,List.drop_zero]
  cases rfB data.length d.length l 0 l.length 0
  ·rfl
  cases d.all (Bai l)<;>rfl
 ·rw[h];rfl
 ·rw[h];rfl
theorem Cl6:∀(i:Nat) (l:Ade) (c:Int),cnt c l=true→i≤l.length→∃c',cnt c' (l.drop i)=true
 |0,l,c,h,_=>⟨c,h⟩
 |i+1,[],c,h,hi=>by simp at hi
 |i+1,o::r,c,h,hi=>by
  simp only[cnt,Bool.and_eq_true]at h
  exact Cl6 i r _ h.2 (by simpa using hi)
theorem B8s{nd np:Nat}{l:Ade}(h:Au1 nd np l 0 l.length=true)(hc:cnt 0 l=true){i:Nat}(hi:i<l.length)(hn:i+1=l.length∨(Aaz l (i+1)).1≠23):Ben l i = !Ayu (Aaz l i).1:=by
 unfold Ben
 by_cases h7:(Aaz l i).1=17
 ·rw[if_pos (.inl h7),h7];rfl
 by_cases h11:(Aaz l i).1=21
 ·rw[if_pos (.inr h11),h11];rfl
 rw[if_neg (by rintro (e|e)<;>contradiction)]
 by_cases h12:(Aaz l i).1=22
 ·rw[if_pos h12]
  obtain⟨a0,a1⟩:=Bz7 (Bt8 _ _ h i (by omega) (by omega)) h12
  obtain⟨c',hc'⟩:=Cl6 i l 0 hc (by omega)
  rw[A90 hi]at hc'
  simp only[cnt,Bool.and_eq_true,if_pos h12]at hc'
  have ha:(Aaz l i).2.2.1=0:=by
   refine Classical.byContradiction fun ha=>?_
   have hp:0<(Aaz l i).2.2.1:=by omega
   by_cases he:i+1=l.length
   ·rw[List.drop_eq_nil_of_le (by omega)]at hc'
    simp only[cnt,decide_eq_true_eq]at hc'
    omega
   ·rw[A90 (show i+1<l.length by omega)]at hc'
    simp only[cnt,Bool.and_eq_true,decide_eq_true hp]at hc'
    rcases hn with hn|hn
    ·exact he hn
    ·have:=hc'.2.1
     simp at this
     exact hn this
  rw[ha,h12];rfl
 rw[if_neg h12]
 by_cases h13:(Aaz l i).1=23
 ·rw[if_pos h13,h13]
  rcases hn with hn|hn
  ·rw[decide_eq_true hn];rfl
  ·rw[show ((Aaz l (i+1)).1 != 23)=true by simpa using hn,Bool.or_true];rfl
 ·rw[if_neg h13]
  simp[Ayu,h7,h11,h12,h13]
theorem Cn8(c:Int)(o:Int×Int×Int×Int×Int)(r:Ade):cnt c (o::r)=((decide (0<c)==(o.1==23))&&cnt (Bah o c) r):=rfl
theorem Cfd{nd np:Nat}{l:Ade}:∀(m i:Nat) (c:Int),i+m=l.length→rfB nd np l i m c=(Au1 nd np l i m&&(cnt c (l.drop i)&&(decide (m=0) || !Ayu (Aaz l (l.length-1)).1)))
 |0,i,c,hi=>by
  rw[List.drop_eq_nil_of_le (by omega)]
  simp[rfB,Au1,cnt]
 |m+1,i,c,hi=>by
  rw[rfB,Cfd m (i+1) _ (by omega),Au1,A90 (l:=l) (i:=i) (by omega),Cn8]
  unfold okI
  by_cases he:i+1=l.length
  ·have hm:m=0:=by omega
   subst hm
   have e:l.length-1=i:=by omega
   rw[e,decide_eq_true he]
   generalize Au0 nd np l i=A
   generalize (decide (0<c)==((Aaz l i).1==23))=B
   generalize Ayu (Aaz l i).1=G
   generalize cnt (Bah (Aaz l i) c) (l.drop (i+1))=E
   generalize Au1 nd np l (i+1) 0=H
   cases A<;>cases B<;>cases G<;>cases E<;>cases H<;>rfl
  ·rw[decide_eq_false he,decide_eq_false (show ¬m=0 by omega),decide_eq_false (show ¬m+1=0 by omega)]
   generalize Au0 nd np l i=A
   generalize (decide (0<c)==((Aaz l i).1==23))=B
   generalize Ayu (Aaz l (l.length-1)).1=G
   generalize Ayu (Aaz l i).1=G'
   generalize cnt (Bah (Aaz l i) c) (l.drop (i+1))=E
   generalize Au1 nd np l (i+1) m=H
   cases A<;>cases B<;>cases G<;>cases E<;>cases H<;>rfl
theorem Cp3{nd np:Nat}{l:Ade}(h:Au1 nd np l 0 l.length=true)(hc:cnt 0 l=true)(b:Int×Int×Int):Bkg l b=Bai l b:=by
 unfold Bkg Bai Ahv
 cases h0:inB b.1 0 ((l.length:Int)-1)
 ·rfl
 have hb:0≤b.1∧b.1<(l.length:Int):=by unfold inB at h0;simp at h0;omega
 by_cases h2:(Aaz l b.1.toNat).1=23
 ·rw[h2];rfl
 rw[show ((Aaz l b.1.toNat).1 != 23)=true by simpa using h2]
 by_cases h7:b.1≤0
 ·rw[decide_eq_true h7];rfl
 rw[decide_eq_false h7,B8s h hc (i:=b.1.toNat-1) (by omega) (.inr (by rw[show b.1.toNat-1+1=b.1.toNat by omega];exact h2))]
 rfl
theorem Btj(nm:List UInt8)(data:Aa5)(gl:Ab3)(d:Ai5)(l:Ade):Cb7 nm data gl d l=Bns nm data gl d l:=by
 unfold Cb7 Bns
 have e:(Au1 data.length d.length l 0 l.length&&(Bt7 l d&&cnt 0 l))=(rfB data.length d.length l 0 l.length 0&&d.all (Bai l)):=by
  rw[Cfd l.length 0 0 (by omega),List.drop_zero]
  cases h:Au1 data.length d.length l 0 l.length
  ·rfl
  cases hc:cnt 0 l
  ·rw[Bool.and_false];rfl
  have e1:d.all (Bkg l)=d.all (Bai l):=by
   congr 1;funext b;exact Cp3 h hc b
  unfold Bt7
  rw[e1]
  by_cases h0:l.length=0
  ·rw[decide_eq_true h0];cases d.all (Bai l)<;>rfl
  ·rw[decide_eq_false h0,B8s h hc (i:=l.length-1) (by omega) (.inl (by omega))]
   cases Ayu (Aaz l (l.length-1)).1<;>cases d.all (Bai l)<;>rfl
 rw[e]
def Bo3:Aa5→Int
 |[]=>0
 |x::r=>(x.2.2.length:Int)+(x.1.length:Int)+Bo3 r
theorem Bz8:∀l:Aa5,0≤Bo3 l
 |[]=>by simp[Bo3]
 |x::r=>by have:=Bz8 r;simp only[Bo3];omega
theorem B7s{d:List UInt8×Bool×List Int}:∀{l:Aa5},d∈l→(d.2.2.length:Int)+(d.1.length:Int)≤Bo3 l
 |x::r,h=>by
  simp only[List.mem_cons]at h
  simp only[Bo3]
  rcases h with rfl|h
  ·have:=Bz8 r;omega
  ·have:=B7s h;omega
def hvy:Int→Aa5→Int
 |n,[]=>n
 |n,x::r=>if n≤4000 then hvy (n+1+(x.1.length:Int)+(x.2.2.length:Int)) r else n
theorem B8t:∀(l:Aa5) (n:Int),0≤n→hvy n l≤4000→n+l.length+Bo3 l≤4000
 |[],n,_,h=>by simp only[hvy]at h;simp only[Bo3,List.length_nil];omega
 |x::r,n,h0,h=>by
  rw[hvy]at h
  split at h
  ·have:=B8t r (n+1+(x.1.length:Int)+(x.2.2.length:Int)) (by omega) h
   simp only[Bo3,List.length_cons];omega
  ·omega
theorem Css{R:Type}(N:Nat)(nm:List UInt8)(data:Aa5)(a:Ab3)(b:Ai5)(c:Ade)(hd:A8g data)(hl:data.length≤140737488351232)(K:Int→List UInt8→Aa5→Ab3→Ai5→Ade→Option R) :
  ∀(k i:Nat) (n:Int),i≤data.length→4002≤n+k→1≤k→0≤n→n≤562949953421312→Afl N k n (i:Int) nm data a b c K=K (hvy n (data.drop i)) nm data a b c:=by
 intro k
 induction k with
 |zero=>intro i _ _ _ h;omega
 |succ k ih=>
  intro i n hi hk _ h0 h1
  simp only[Afl,A6g,len]
  by_cases hlt:i<data.length
  case neg=>rw[if_neg (by simp only[decide_eq_true_eq];omega),List.drop_eq_nil_of_le (by omega)];rfl
  have hin:(0:Int)≤i∧(i:Int)<data.length:=by omega
  have hd':=hd data[i] (List.getElem_mem hlt)
  rw[if_pos (by simp only[decide_eq_true_eq];omega),List.drop_eq_getElem_cons hlt,hvy]
  by_cases hn:n≤4000
  case neg=>rw[if_neg (by simpa using hn),if_neg hn]
  rw[if_pos (by simpa using hn),if_pos hn,if_pos hin,if_pos hin,Ahx _ _ hlt,Ac3 (by omega),Agj (i:=n+1) (by omega) (by omega),Agj (i:=n+1+_) (by omega) (by omega),Agj (by omega) (by omega),
   ih (i+1) _ (by omega) (by omega) (by omega) (by omega) (by omega)]
def B3r(nm:List UInt8)(data:Aa5)(gl:Ab3)(d:Ai5)(l:Ade):Bool :=
 decide (1500<l.length)||decide (250<d.length)||decide (400<gl.length)||decide (4000<hvy nm.length data)
theorem B7t{R:Type}{N:Nat}(hN:5000<N){nm:List UInt8}{data:Aa5}{gl:Ab3}(d:Ai5)(l:Ade)(hd:A8g data)(hn:nm.length≤140737488351232)(hl:data.length≤140737488351232)(K:Bool→Option R) :
  Ajz N nm data gl d l K=K (B3r nm data gl d l):=by
 simp only[Ajz,Bbv]
 have:=Css N nm data gl d l hd hl (fun a f g b c e=>if ((decide (((len e) > (1500:Int))))=true) then (K true) else (if ((decide (((len c) > (250:Int))))=true) then (K true) else (if ((decide (((len b) > (400:Int))))=true) then (K true) else (K ((decide ((a > (4000:Int))))))))) N 0 nm.length (by omega) (by omega) (by omega) (by omega) (by omega)
 rw[show ((0:Nat):Int)=0 from rfl,List.drop_zero]at this
 refine this.trans ?_
 unfold B3r
 by_cases h1:1500<l.length
 ·rw[if_pos (by simp only[len,decide_eq_true_eq];omega),decide_eq_true h1];rfl
 rw[if_neg (by simp only[len,decide_eq_true_eq];omega),decide_eq_false h1]
 by_cases h2:250<d.length
 ·rw[if_pos (by simp only[len,decide_eq_true_eq];omega),decide_eq_true h2];rfl
 rw[if_neg (by simp only[len,decide_eq_true_eq];omega),decide_eq_false h2]
 by_cases h3:400<gl.length
 ·rw[if_pos (by simp only[len,decide_eq_true_eq];omega),decide_eq_true h3];rfl
 rw[if_neg (by simp only[len,decide_eq_true_eq];omega),decide_eq_false h3];rfl
abbrev B3s:Ty:=.pair .str (.pair (.list (.pair .str (.pair .bool (.list (.int .i64))))) (.pair (.list (.pair (.int .i64) (.int .i64))) (.pair (.list (.pair (.int .i64) (.pair (.int .i64) (.int .i64)))) (.list (.pair (.int .i64) (.pair (.int .i64) (.pair (.int .i64) (.pair (.int .i64) (.int .i64)))))))))
theorem Cto{nm:List UInt8}{data:Aa5}{gl:Ab3}{d:Ai5}{l:Ade}(h:Wf B3s (nm,data,gl,d,l)):A8g data:=by
 obtain⟨_,h2,_⟩:=h
 intro d hd
 obtain⟨i,hi,rfl⟩:=List.getElem_of_mem hd
 have h:=h2.2 i hi
 have e:List.getD data i (Ty.dflt (.pair .str (.pair .bool (.list (.int .i64)))))=data[i]:=by rw[List.getD_eq_getElem?_getD,List.getElem?_eq_getElem hi];rfl
 rw[e]at h
 exact⟨h.1,h.2.2.1⟩
def tx(s:List UInt8):List Int:=s.map fun b:UInt8=>(((UInt8.toNat b):Nat):Int)
def it(n:Int):List Int:=tx (Adl n)
def sit(n:Int):List Int:=32::it n
def Alw(o:Int×Int×Int×Int×Int):List Int:=[o.1,o.2.1,o.2.2.1,o.2.2.2.1,o.2.2.2.2]
def A25(i:Nat)(vs:List Int):List Int:=it (i:Int)++(vs.flatMap sit++[10])
def Axc(c:Nat)(l:Ade):Nat→Nat→List Int
 | _,0=>[]
 |i,m+1=>A25 i ((Alw (Aaz l i)).take c)++Axc c l (i+1) m
theorem Bbg{n:Int}:Amb n=true ↔ -9223372036854775808≤n∧n≤9223372036854775807:=by
 simp[Amb]
theorem Ata{n:Int}(h:Amb n=true):(Adl n).length≤21:=by
 obtain⟨h0,h1⟩:=Bbg.1 h
 exact Lib.itoa_length_le n h0 h1
theorem Cl7{n:Int}(h:Amb n=true):(it n).length≤21:=by
 simpa [it,tx]using Ata h
theorem Bo4:∀(vs:List Int),(∀v∈vs,Amb v=true)→(vs.flatMap sit).length≤22*vs.length
 |[],_=>by simp
 |v::r,h=>by
  have h1:=Cl7 (h v (by simp))
  have h2:=Bo4 r fun x hx=>h x (by simp[hx])
  simp only[List.flatMap_cons,List.length_append,List.length_cons,sit]at *
  omega
theorem Bo5{i:Nat}{vs:List Int}(hi:i≤1000000)(h:∀v∈vs,Amb v=true)(hl:vs.length≤5):(A25 i vs).length≤132:=by
 have h1:=Cl7 (n:=(i:Int)) (Bbg.2 (by omega))
 have h2:=Bo4 vs h
 simp only[A25,List.length_append,List.length_cons,List.length_nil]
 omega
theorem Cl8{R:Type}(N:Nat)(s:List UInt8)(y:List Int)(hy:y.length+s.length≤70368744177664)(K:Int→List Int→Option R):Aas N s y K=K (s.length:Int) (y++tx s):=by
 simp only[Aas,len]
 rw[if_pos (by simp;omega)];rfl
theorem Cp4{R:Type}(N:Nat)(s:List UInt8)(y:List Int)(hy:y.length+s.length≤70368744177664)(K:Int→List Int→Option R):Aay N s y K=K (s.length:Int) (y++tx s):=by
 simp only[Aay,len]
 rw[if_pos (by simp;omega)];rfl
theorem Cl9{R:Type}(N:Nat)(x:Int)(y:List Int)(hy:y.length+1≤70368744177664)(K:List Int→Option R):Aad N x y K=K (y++[x]):=by
 simp only[Aad]
 rw[if_pos (by simp;omega)]
theorem Cma{R:Type}(N:Nat)(a:Int)(b:Ade)(c d:Int)(vs:List Int)(hvs:∀v∈vs,Amb v=true)(hl:vs.length≤6)(K:Int→Ade→Int→Int→List Int→Option R) :
  ∀(m k j:Nat) (y:List Int),m<k→j+m=vs.length→y.length+22*m≤200000000→Ac0 N k a b c d vs (vs.length:Int) j y K=K a b c d (y++(vs.drop j).flatMap sit):=by
 intro m
 induction m with
 |zero=>
  intro k j y hk hj hy
  obtain⟨k,rfl⟩:∃q,k=q+1:=⟨k-1,by omega⟩
  simp only[Ac0,A1e]
  rw[if_neg (by simp only[decide_eq_true_eq];omega),List.drop_eq_nil_of_le (by omega)];simp
 |succ m ih=>
  intro k j y hk hj hy
  obtain⟨k,rfl⟩:∃q,k=q+1:=⟨k-1,by omega⟩
  have h:j<vs.length:=by omega
  have hv:=hvs _ (List.getElem_mem h)
  have hle:=Ata hv
  have hd:vs.getD ((j:Nat):Int).toNat 0=vs[j]:=by
   rw[show ((j:Nat):Int).toNat=j from rfl,List.getD_eq_getElem?_getD,List.getElem?_eq_getElem h];rfl
  simp only[Ac0,A1e,len]
  rw[if_pos (by simp only[decide_eq_true_eq];omega),if_pos (by omega),hd,if_pos hv,if_pos (by omega),Cl8 N _ _ (by simp;omega)]
  rw[Ac3 (by omega),ih k (j+1) _ (by omega) (by omega) (by simp[tx];omega),List.drop_eq_getElem_cons h,List.flatMap_cons]
  congr 1
  simp[sit,it,tx,List.append_assoc]
theorem Btk{c:Nat}{o:Int×Int×Int×Int×Int}(h:∀v∈Alw o,Amb v=true):∀v∈(Alw o).take c,Amb v=true:=fun v hv=>h v (List.mem_of_mem_take hv)
theorem Cst{R:Type}(N:Nat)(a:Int)(c:Nat)(hx0:wi (a+1)=(c:Int))(hc:c≤5)(l:Ade)(hl:l.length≤40000)(hN:10<N)(hin:∀i,i<l.length→∀v∈Alw (Aaz l i),Amb v=true)(K:List Int→Option R) :
  ∀(m k i:Nat) (y:List Int),m<k→i+m=l.length→y.length≤132*i→Acm N k a l (l.length:Int) i y K=K (y++Axc c l i m):=by
 intro m
 induction m with
 |zero=>
  intro k i y hk hi hy
  obtain⟨k,rfl⟩:∃q,k=q+1:=⟨k-1,by omega⟩
  simp only[Acm,Avp]
  rw[if_neg (by simp only[decide_eq_true_eq];omega)];simp[Axc]
 |succ m ih=>
  intro k i y hk hi hy
  obtain⟨k,rfl⟩:∃q,k=q+1:=⟨k-1,by omega⟩
  have h:i<l.length:=by omega
  have hii:Amb (i:Int)=true:=Bbg.2 (by omega)
  have hle:=Ata hii
  have hv:=Btk (c:=c) (hin i h)
  have hvl:((Alw (Aaz l i)).take c).length=c:=by simp[Alw];omega
  have hln:=Bo5 (i:=i) (by omega) hv (by omega)
  simp only[Acm,Avp,len,hx0]
  rw[if_pos (by simp only[decide_eq_true_eq];omega),if_pos (by omega),if_pos hii,Cl8 N _ _ (by omega)]
  rw[if_pos (by simp;omega),if_pos (by omega)]
  rw[show List.getD l ((i:Nat):Int).toNat (0,0,0,0,0)=Aaz l i from rfl]
  have h15:=fun K=>Cma (R:=R) N a l (l.length:Int) (i:Int) _ hv (by omega) K c N 0 (y++tx (Adl (i:Int))) (by omega) (by omega) (by simp[tx];omega)
  rw[hvl]at h15
  have e:(((Int.toNat (c:Int))-(0:Nat):Nat):Int)=(c:Int):=by simp
  rw[e,show (Int.toNat (c:Int))-(0:Nat)=c by simp]
  rw[show ((Aaz l i).1::(Aaz l i).2.1::(Aaz l i).2.2.1::(Aaz l i).2.2.2.1::[(Aaz l i).2.2.2.2])=Alw (Aaz l i) from rfl]
  rw[show ((0:Nat):Int)=0 from rfl]at h15
  rw[h15,List.drop_zero]
  have hfl:=Bo4 _ hv
  rw[Cl9 N _ _ (by simp only[List.length_append,tx,List.length_map];omega),Ac3 (by omega)]
  have ey:y++tx (Adl (i:Int))++((Alw (Aaz l i)).take c).flatMap sit++[10]=y++A25 i ((Alw (Aaz l i)).take c):=by simp[A25,it,List.append_assoc]
  rw[ey,ih k (i+1) _ (by omega) (by omega) (by rw[List.length_append];omega),Axc,List.append_assoc]
theorem Ctp{R:Type}(N:Nat)(a:Int)(c:Nat)(hx0:wi (a+1)=(c:Int))(hc:c≤5)(l:Ade)(hl:l.length≤40000)(hN:40001<N)(hin:∀i,i<l.length→∀v∈Alw (Aaz l i),Amb v=true)(K:List Int→Option R)(b:Option R)(k:Nat) :
  Aeg N (k+1) a l (l.length:Int) 0 K b=if l.length=0 then b else K (Axc c l 0 l.length):=by
 by_cases h0:l.length=0
 ·simp only[Aeg,A2v]
  rw[if_neg (by simp only[decide_eq_true_eq];omega),if_pos h0]
 rw[if_neg h0]
 have h:0<l.length:=by omega
 have hii:Amb 0=true:=by decide
 have hle:=Ata hii
 have hv:=Btk (c:=c) (hin 0 h)
 have hvl:((Alw (Aaz l 0)).take c).length=c:=by simp[Alw];omega
 have hln:=Bo5 (i:=0) (by omega) hv (by omega)
 simp only[Aeg,A2v,len,hx0]
 rw[if_pos (by simp only[decide_eq_true_eq];omega),if_pos (by omega),if_pos hii,Cp4 N _ _ (by simp;omega)]
 rw[if_pos (by simp;omega),if_pos (by omega)]
 rw[show List.getD l ((0:Int)).toNat (0,0,0,0,0)=Aaz l 0 from rfl]
 have h15:=fun K=>Cma (R:=R) N a l (l.length:Int) 0 _ hv (by omega) K c N 0 ([]++tx (Adl 0)) (by omega) (by omega) (by simp[tx];omega)
 rw[hvl]at h15
 have e:(((Int.toNat (c:Int))-(0:Nat):Nat):Int)=(c:Int):=by simp
 rw[e,show (Int.toNat (c:Int))-(0:Nat)=c by simp]
 rw[show ((Aaz l 0).1::(Aaz l 0).2.1::(Aaz l 0).2.2.1::(Aaz l 0).2.2.2.1::[(Aaz l 0).2.2.2.2])=Alw (Aaz l 0) from rfl]
 rw[show ((0:Nat):Int)=0 from rfl]at h15
 rw[h15,List.drop_zero]
 have hfl:=Bo4 _ hv
 rw[Cl9 N _ _ (by simp only[List.length_append,List.nil_append,tx,List.length_map];omega)]
 have ey:[]++tx (Adl 0)++((Alw (Aaz l 0)).take c).flatMap sit++[10]=[]++A25 0 ((Alw (Aaz l 0)).take c):=by simp[A25,it,List.append_assoc]
 obtain⟨m,hm⟩:∃m,l.length=m+1:=⟨l.length-1,by omega⟩
 have hw:=Cst N a c hx0 hc l hl (by omega) hin K m N 1 ([]++A25 0 ((Alw (Aaz l 0)).take c)) (by omega) (by omega) (by simp only[List.nil_append];omega)
 rw[ey,show wi (0+1)=((1:Nat):Int) from rfl,hw,hm,Axc,List.nil_append]
theorem Cfe(c:Nat)(hc:c≤5)(l:Ade)(hl:l.length≤40000)(hin:∀i,i<l.length→∀v∈Alw (Aaz l i),Amb v=true):∀(m i:Nat),i+m=l.length→(Axc c l i m).length≤132*m
 |0,i,_=>by simp[Axc]
 |m+1,i,hi=>by
  have h1:=Cfe c hc l hl hin m (i+1) (by omega)
  have h2:=Bo5 (i:=i) (by omega) (Btk (c:=c) (hin i (by omega))) (by simp[Alw];omega)
  rw[Axc,List.length_append];omega
theorem Chj{s:List UInt8}{x:Int}(h:x∈tx s):0≤x∧x<256:=by
 unfold tx at h
 obtain⟨b,_,rfl⟩:=List.mem_map.1 h
 have:=b.toNat_lt
 omega
theorem B8u(c:Nat)(l:Ade):∀(m i:Nat),∀x∈Axc c l i m,0≤x∧x<256
 |0,i,x,h=>by simp[Axc]at h
 |m+1,i,x,h=>by
  rw[Axc,List.mem_append]at h
  rcases h with h|h
  ·simp only[A25,List.mem_append,List.mem_flatMap,List.mem_singleton,sit,List.mem_cons,it]at h
   rcases h with h|⟨v,_,h|h⟩|h
   ·exact Chj h
   ·omega
   ·exact Chj h
   ·have h:x=10:=by simpa using h
    omega
  ·exact B8u c l m (i+1) x h
theorem Cff{R:Type}(N:Nat)(b:Int)(c:Nat)(hx0:wi (b+1)=(c:Int))(hc:c≤5)(l:Ade)(hl:l.length≤40000)(hN:40001<N)(hin:∀i,i<l.length→∀v∈Alw (Aaz l i),Amb v=true)(K:List UInt8→Option R) :
  Amx N l b K=K (Axf (Axc c l 0 l.length)):=by
 obtain⟨N',hN'⟩:∃q,N=q+1:=⟨N-1,by omega⟩
 simp only[Amx,Bla,len]
 have h7:=Ctp N b c hx0 hc l hl hN hin (fun a=>if (((0:Nat)<(List.length a))∧(((List.length a)≤(70368744177664:Nat))∧((Am7 a)=true))) then (K ((Axf a))) else none) (K (([]:List UInt8))) N'
 rw[←hN']at h7
 rw[h7]
 by_cases h0:l.length=0
 ·rw[if_pos h0,h0];rfl
 rw[if_neg h0]
 refine if_pos ⟨?_,?_,?_⟩
 ·obtain⟨m,hm⟩:∃m,l.length=m+1:=⟨l.length-1,by omega⟩
  rw[hm,Axc,A25];simp only[List.length_append,List.length_cons];omega
 ·have:=Cfe c hc l hl hin l.length 0 (by omega)
  omega
 ·unfold Am7
  rw[List.all_eq_true]
  intro x hx
  exact decide_eq_true (B8u c l _ _ x hx)
theorem Cn9{nd np:Nat}{l:Ade}{op a b c d:Int}(hd:nd≤1000000)(hp:np≤1000000)(hl:l.length≤1000000)(h:A2e nd np l op a b c d=true) :
  (-4294967296≤op∧op≤4294967296)∧(-4294967296≤a∧a≤4294967296)∧(-4294967296≤b∧b≤4294967296)∧(-4294967296≤c∧c≤4294967296):=by
 unfold A2e at h
 rw[Bool.and_eq_true]at h
 replace h:=h.2
 unfold B3q at h
 by_cases h0:op=1
 ·rw[if_pos h0]at h;simp only[Am0,Ahv,inB,Bool.and_eq_true,decide_eq_true_eq,beq_iff_eq]at h;omega
 rw[if_neg h0]at h
 by_cases h1:op=2∨op=3∨op=8∨op=20
 ·rw[if_pos h1]at h;simp only[Am0,Ahv,inB,Bool.and_eq_true,decide_eq_true_eq,beq_iff_eq]at h;omega
 rw[if_neg h1]at h
 by_cases h2:op=4∨op=5∨op=9
 ·rw[if_pos h2]at h;simp only[Am0,Ahv,inB,Bool.and_eq_true,decide_eq_true_eq,beq_iff_eq]at h;omega
 rw[if_neg h2]at h
 by_cases h3:op=6∨op=7∨op=10
 ·rw[if_pos h3]at h;simp only[Am0,Ahv,inB,Bool.and_eq_true,decide_eq_true_eq,beq_iff_eq]at h;omega
 rw[if_neg h3]at h
 by_cases h4:op=11
 ·rw[if_pos h4]at h;simp only[Am0,Ahv,inB,Bool.and_eq_true,decide_eq_true_eq,beq_iff_eq]at h;omega
 rw[if_neg h4]at h
 by_cases h5:op=12∨op=58∨op=59
 ·rw[if_pos h5]at h;simp only[Am0,Ahv,inB,Bool.and_eq_true,decide_eq_true_eq,beq_iff_eq]at h;omega
 rw[if_neg h5]at h
 by_cases h6:op=13∨op=14
 ·rw[if_pos h6]at h;simp only[Am0,Ahv,inB,Bool.and_eq_true,decide_eq_true_eq,beq_iff_eq]at h;omega
 rw[if_neg h6]at h
 by_cases h7:op=15∨op=16
 ·rw[if_pos h7]at h;simp only[Am0,Ahv,inB,Bool.and_eq_true,decide_eq_true_eq,beq_iff_eq]at h;omega
 rw[if_neg h7]at h
 by_cases h8:op=17
 ·rw[if_pos h8]at h;simp only[Am0,Ahv,inB,Bool.and_eq_true,decide_eq_true_eq,beq_iff_eq]at h;omega
 rw[if_neg h8]at h
 by_cases h9:op=18∨op=19
 ·rw[if_pos h9]at h;simp only[Am0,Ahv,inB,Bool.and_eq_true,decide_eq_true_eq,beq_iff_eq]at h;omega
 rw[if_neg h9]at h
 by_cases h10:op=21
 ·rw[if_pos h10]at h;simp only[Am0,Ahv,inB,Bool.and_eq_true,decide_eq_true_eq,beq_iff_eq]at h;omega
 rw[if_neg h10]at h
 by_cases h11:op=22
 ·rw[if_pos h11]at h;simp only[Am0,Ahv,inB,Bool.and_eq_true,decide_eq_true_eq,beq_iff_eq]at h;omega
 rw[if_neg h11]at h
 by_cases h12:op=23
 ·rw[if_pos h12]at h;simp only[Am0,Ahv,inB,Bool.and_eq_true,decide_eq_true_eq,beq_iff_eq]at h;omega
 rw[if_neg h12]at h
 simp only[Am0,Ahv,inB,Bool.and_eq_true,decide_eq_true_eq,beq_iff_eq]at h;omega
theorem i63{n:Int}(h:-4294967296≤n∧n≤4294967296):A2k n=true:=by
 simp only[A2k,Bool.and_eq_true,decide_eq_true_eq];omega
theorem i64{n:Int}(h:-4294967296≤n∧n≤4294967296):Amb n=true:=Bbg.2 (by omega)
theorem Cp5{R:Type}(N:Nat)(c:List UInt8)(a:Aa5)(d:Ab3)(b:Ai5)(l:Ade)(hl:l.length≤40000)(hd:a.length≤1000000)(hp:b.length≤1000000)(hr:Au1 a.length b.length l 0 l.length=true)(K:List Int→Option R) :
  ∀(m k i:Nat) (y:List Int),m<k→i+m=l.length→y.length≤132*i→Aez N k i c a d b l y K=K (y++Axc 4 l i m):=by
 intro m
 induction m with
 |zero=>
  intro k i y hk hi hy
  obtain⟨k,rfl⟩:∃q,k=q+1:=⟨k-1,by omega⟩
  simp only[Aez,Ayr,len]
  rw[if_neg (by simp only[decide_eq_true_eq];omega)];simp[Axc]
 |succ m ih=>
  intro k i y hk hi hy
  obtain⟨k,rfl⟩:∃q,k=q+1:=⟨k-1,by omega⟩
  have h:i<l.length:=by omega
  obtain⟨g1,g2,g3,g4⟩:=Cn9 hd hp (by omega) (Bt8 _ _ hr i (by omega) (by omega))
  have gi:-4294967296≤(i:Int)∧(i:Int)≤4294967296:=by omega
  have q0:=Ata (i64 gi)
  have q1:=Ata (i64 g1)
  have q2:=Ata (i64 g2)
  have q3:=Ata (i64 g3)
  have q4:=Ata (i64 g4)
  simp only[Aez,Ayr,len]
  rw[if_pos (by simp only[decide_eq_true_eq];omega),if_pos (by omega)]
  rw[show List.getD l ((i:Nat):Int).toNat (0,0,0,0,0)=Aaz l i from rfl]
  simp only[i63 gi,i63 g1,i63 g2,i63 g3,i63 g4,if_true]
  have hn:∀n:Nat,n≤70368744177664→(n≤70368744177664)=True:=fun n h=>eq_true h
  rw[if_pos (by omega),if_pos (by simp only[List.length_append,List.length_cons,List.length_nil];omega),if_pos (by simp only[List.length_append,List.length_cons,List.length_nil];omega),if_pos (by simp only[List.length_append,List.length_cons,List.length_nil];omega),if_pos (by simp only[List.length_append,List.length_cons,List.length_nil];omega),if_pos (by simp only[List.length_append,List.length_cons,List.length_nil];omega),if_pos (by simp only[List.length_append,List.length_cons,List.length_nil];omega),if_pos (by simp only[List.length_append,List.length_cons,List.length_nil];omega),if_pos (by simp only[List.length_append,List.length_cons,List.length_nil];omega),if_pos (by simp only[List.length_append,List.length_cons,List.length_nil,List.length_map];omega)]
  have ey:y++tx (Adl (i:Int)++[32]++Adl (Aaz l i).1++[32]++Adl (Aaz l i).2.1++[32]++Adl (Aaz l i).2.2.1++[32]++Adl (Aaz l i).2.2.2.1++[10])=y++A25 i ((Alw (Aaz l i)).take 4):=by
   simp[A25,Alw,it,sit,tx,List.append_assoc]
  refine (congrArg (fun z=>Aez N k (wi ((i:Int)+1)) c a d b l z K) ey).trans ?_
  have hv:∀v∈(Alw (Aaz l i)).take 4,Amb v=true:=by
   intro v hv
   simp only[Alw,List.take,List.mem_cons,List.not_mem_nil,or_false]at hv
   rcases hv with rfl|rfl|rfl|rfl
   ·exact i64 g1
   ·exact i64 g2
   ·exact i64 g3
   ·exact i64 g4
  have hln:=Bo5 (i:=i) (by omega) hv (by simp[Alw])
  rw[Ac3 (by omega),ih k (i+1) _ (by omega) (by omega) (by rw[List.length_append];omega),Axc,List.append_assoc]
theorem Ctq{nm:List UInt8}{data:Aa5}{gl:Ab3}{d:Ai5}{l:Ade}(h:Wf B3s (nm,data,gl,d,l)):∀i,i<l.length→∀v∈Alw (Aaz l i),Amb v=true:=by
 obtain⟨_,_,_,_,h5⟩:=h
 intro i hi v hv
 have h:=h5.2 i hi
 have e:List.getD l i (Ty.dflt (.pair (.int .i64) (.pair (.int .i64) (.pair (.int .i64) (.pair (.int .i64) (.int .i64))))))=Aaz l i:=rfl
 rw[e]at h
 have w:∀n:Int,Wf (.int .i64) n→Amb n=true:=by
  intro n hn
  simp only[Wf,Lit.wf,Bool.and_eq_true,decide_eq_true_eq]at hn
  exact Bbg.2 hn
 obtain⟨a1,a2,a3,a4,a5⟩:=h
 simp only[Alw,List.mem_cons,List.not_mem_nil,or_false]at hv
 rcases hv with rfl|rfl|rfl|rfl|rfl
 ·exact w _ a1
 ·exact w _ a2
 ·exact w _ a3
 ·exact w _ a4
 ·exact w _ a5
theorem Bq2{R:Type}{nm:List UInt8}{data:Aa5}{gl:Ab3}{d:Ai5}{l:Ade}(h:A8g data)(hn:nm.length≤140737488351232)(hdl:data.length≤140737488351232)(hin:∀i,i<l.length→∀v∈Alw (Aaz l i),Amb v=true)(K:Bool→Option R) :
  Aov 50000 nm data gl d l K=K true:=by
 obtain⟨N,hN⟩:∃N,N=50000:=⟨_,rfl⟩
 rw[←hN]
 simp only[Aov,A0r]
 rw[B7t (by omega) d l h hn hdl]
 cases hh:B3r nm data gl d l
 case true=>rfl
 simp only[B3r,Bool.or_eq_false_iff,decide_eq_false_iff_not]at hh
 have hw:=B8t data nm.length (by omega) (by omega)
 have hw2:=Bz8 data
 have F:Bii N nm data gl:=by
  refine⟨by omega,by omega,h,fun d hd=>?_,fun d hd=>?_,by omega,by omega,by omega⟩
  ·have:=B7s hd;omega
  ·have:=B7s hd;omega
 rw[if_neg (by decide)]
 simp only[Anp,Blc,Amd,Bic]
 rw[Bdy F,Btj]
 by_cases h0:Bns nm data gl d l=0
 ·have hall:Au1 data.length d.length l 0 l.length=true:=by
   unfold Bns at h0
   split at h0
   ·omega
   split at h0
   ·omega
   split at h0
   ·omega
   split at h0
   case isFalse=>omega
   rename_i hx
   simp only[Bool.and_eq_true]at hx
   have:=hx.1
   rw[Cfd l.length 0 0 (by omega)]at this
   simp only[Bool.and_eq_true]at this
   exact this.1
  rw[h0,if_neg (by decide),Cff N 3 4 rfl (by omega) l (by omega) (by omega) hin,A1m F d l (by omega),h0,if_neg (by decide)]
  have h13:=Cp5 N nm data gl d l (by omega) (by omega) (by omega) hall (fun a=>Agi N nm data gl d l (fun b=>Aeh N nm data gl d l (fun c=>if ((b==c)=true) then (if ((Axf (Axc 4 l 0 l.length)==((List.map (fun n:Int=>(UInt8.ofNat (Int.toNat n))) a)))=true) then (if (((0:Int)==0)=true) then (K true) else (K false)) else (K false)) else (K false)))) l.length N 0 [] (by omega) (by omega) (by simp)
  rw[show ((0:Nat):Int)=0 from rfl]at h13
  refine h13.trans ?_
  rw[Bdy F,Btj,A1m F d l (by omega),if_pos (by simp),List.nil_append,if_pos (by simp[Axf])]
  rfl
 ·rw[if_pos (by simpa using h0),A1m F d l (by omega),if_pos (by simpa using h0),Bdy F,Btj,A1m F d l (by omega)]
  simp
theorem Cmb{nm:List UInt8}{data:Aa5}{gl:Ab3}{d:Ai5}{l:Ade}(h:Wf B3s (nm,data,gl,d,l)):nm.length≤140737488351232∧data.length≤140737488351232:=by
 obtain⟨h1,h2,_⟩:=h
 exact⟨h1,h2.1⟩
theorem B3t(c:Ty.den B3s)(a:Wf _ c) :
  ∃N,(Bba N).run AV [Cbx true B3s c] [] (fun v _ _=>some v)=some (vb true) :=
 ⟨50000,Bq2 (Cto a) (Cmb a).1 (Cmb a).2 (Ctq a) (fun b=>some (vb b))⟩
end Q

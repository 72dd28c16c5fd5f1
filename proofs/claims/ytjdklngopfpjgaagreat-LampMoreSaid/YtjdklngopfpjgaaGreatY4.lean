/- A closed run of the model's code,proved sound: drawn regions,strings.Builder. -/
import Derived.Test.YtjdklngopfpjgaaGreatY3
import Derived.Test.YtjdklngopfpjgaaGreatX4
import Derived.Test.YtjdklngopfpjgaaGreatX7
namespace Go.CE
noncomputable section
open Go.AX (Ajj Aqt A2b Aos Ahf Ax6 Aug Awq Aqv)
def Acx(o:Oper):Bool:=match o.op with
 | .move _ | .assign _ | .pick .. | .build .. | .load .. | .nilCheck _ | .binOp .. | .unOp .. | .convert .. | .makeInterface .. | .makeFunc .. | .slice .. | .fieldAddr .. | .field .. | .indexAddr .. | .index .. | .lookup .. | .extract ..=>true
 | .call {callee:=.builtin b,..}=>match b with
  | .len | .min | .max=>true
  | _=>false
 | _=>false
def A7d(E:Env):List Nat→Env
 |[]=>.e
 |t::l=>match E.get t,Nat.blt t BIG with
  |some v,true=>T.set v 60 (A7d E l) t
  | _,_=>A7d E l
def Bcb(o:Oper):Bool:=match o.op,o.guard,o.dst with
 | .makeSlice ..,none,some _=>true
 | .alloc _,none,some _=>true
 | _,_,_=>false
def isF(fr:Bool)(o:Oper):Bool:=fr&&Bcb o
def C1t(acc:List Nat)(m:Nat)(e:Edge):Nat:=match Region.binds .any e with
 |true=>Nat.lor m (Nat.lor (Nat.pow 2 e.on) (acc.getD e.on 0))
 |false=>m
def B0v(acc:List Nat)(o:Oper):List Nat:=acc++[o.after.toList.foldl (C1t acc) 0]
def Dek(ops:Array Oper):List Nat:=ops.toList.foldl B0v []
def Bg9(m i:Nat):Bool:=Nat.beq (Nat.mod (Nat.div m (Nat.pow 2 i)) 2) 1
def Agc(ops:Array Oper)(i j:Nat):Bool:=Bg9 ((Dek ops).getD j 0) i
def cf(fr:Bool)(ops:Array Oper):List (Oper×Nat):=ops.toList.zipIdx.filter fun x=>isF fr x.1
def Bc2(fr:Bool)(ops:Array Oper)(x:Oper×Nat):Bool:=(cf fr ops).any fun y=>Agc ops y.2 x.2
def c1(fr:Bool)(ops:Array Oper):List (Oper×Nat):=ops.toList.zipIdx.filter fun x => !isF fr x.1 && !Bc2 fr ops x
def c2(fr:Bool)(ops:Array Oper):List (Oper×Nat):=ops.toList.zipIdx.filter fun x => !isF fr x.1&&Bc2 fr ops x
def cl(fr:Bool)(ops:Array Oper):List (Oper×Nat):=c1 fr ops++(cf fr ops++c2 fr ops)
def Bp6(P:PT)(call:Asq)(n:Nat)(ops:Array Oper):List (Oper×Nat)→Env→CH→Option (Env×List CH×List (Env×Value))
 |[],E,_=>some (E,[],[])
 |x::l,E,H=>match A7d E (Ajj ops x.1) with
  |R=>match Awt P call ops x.1 R H with
   |none=>none
   |some (v,H1)=>match Buf n E x.1.dst v H1 with
    |none=>none
    |some (E1,_)=>match Bp6 P call n ops l E1 H1 with
     |none=>none
     |some (E2,hs,ws)=>some (E2,(match Acx x.1 with|true=>hs|false=>H1::hs),(R,v)::ws)
def Aet(fr:Bool)(o:Oper):Bool := !Acx o && !isF fr o
def Cun(fr:Bool)(ops:Array Oper)(x y:Oper×Nat):Bool :=
 (match x.1.dst,y.1.dst with|some d,some e => !Nat.beq d e | _,_=>true) &&
 (Agc ops x.2 y.2 ||
  ((match x.1.dst with|some d => !Aos d (Ajj ops y.1)|none=>true) &&
  (match y.1.dst with|some d => !Aos d (Ajj ops x.1)|none=>true) &&
  !(Aet fr x.1&&Aet fr y.1)))
def Bxu(fr:Bool)(ops:Array Oper):List (Oper×Nat)→Bool
 |[]=>true
 |x::l=>(l.all fun y=>Cun fr ops x y)&&Bxu fr ops l
def Bxv(ops:Array Oper)(y:Oper×Nat):List (Oper×Nat)→Bool
 |[]=>true
 |x::l=>match Agc ops x.2 y.2 with
  |true=>Bxv ops y l
  |false=>l.all fun z => !Agc ops z.2 y.2
def B0w(fr:Bool)(ops:Array Oper):Bool :=
 A2b ops&&Bxu fr ops (cl fr ops)&&((cf fr ops).all fun x => !Bc2 fr ops x) &&
 ((c2 fr ops).all fun y=>Bxv ops y (cf fr ops)&&(((c1 fr ops).all fun x=>Acx x.1||Agc ops x.2 y.2)&&(Acx y.1||((cf fr ops).all fun x=>Agc ops x.2 y.2))))
def nn(fr:Bool)(ops:Array Oper)(D:Nat→Bool):Nat:=(cl fr ops).countP fun x => !Acx x.1&&D x.2
def na(fr:Bool)(ops:Array Oper)(D:Nat→Bool):Nat:=(cl fr ops).countP fun x=>Aet fr x.1&&D x.2
def Bjd(fr:Bool)(ops:Array Oper)(j:Nat):Nat:=nn fr ops fun i=>Agc ops i j
def B6v(fr:Bool)(ops:Array Oper)(j:Nat):Nat:=nn fr ops fun i => !Agc ops j i
def Ci8(c:CM Value)(w:Value):List CH→Bool
 |[]=>true
 |H::l=>match c H with
  |some (v,_)=>match veq v w with|true=>Ci8 c w l|false=>false
  |none=>false
def Bug(P:PT)(call:Asq)(fr:Bool)(ops:Array Oper)(hs:List CH):List (Oper×Nat)→List (Env×Value)→Bool
 |[],_=>true
 |(o,j)::l,ws=>match ws with
  |[]=>false
  |(R,w)::ws=>match Acx o with
   |false=>Bug P call fr ops hs l ws
   |true=>match Ci8 (Awt P call ops o R) w ((hs.drop (Bjd fr ops j)).take (B6v fr ops j+1-Bjd fr ops j)) with
    |true=>Bug P call fr ops hs l ws
    |false=>false
def Ci9(P:PT)(fr:Bool):Css:=fun call n ops E H=>match Bp6 P call n ops (cl fr ops) E H with
 |none=>none
 |some (E',hs,ws)=>match Bug P call fr ops (H::hs) (cl fr ops) ws with
  |true=>some (E',(H::hs).getLast (List.cons_ne_nil _ _))
  |false=>none
def Cst(P:PT):Css:=fun call n ops E H=>match B0w false ops with
 |true=>Ci9 P false call n ops E H
 |false=>match B0w true ops with
  |true=>Ci9 P true call n ops E H
  |false=>none
theorem B6w{E:Env}:∀{l:List Nat} {t:Nat} {v:Value},(A7d E l).get t=some v→E.get t=some v∧t∈l
 |[],t,v,h=>by rw[A7d,T.get_e]at h;cases h
 |s::l,t,v,h=>by
  unfold A7d at h
  split at h
  ·rename_i w hE hb
   have hb:s<BIG:=by simpa [Nat.blt_eq]using hb
   have hs3:s+1<2^60:=Nat.lt_of_le_of_lt (show s+1≤BIG from hb) (by unfold BIG;decide)
   by_cases e:t=s
   ·subst e
    rw[T.get_set _ _ _ _ hs3]at h
    exact⟨hE.trans h,by simp⟩
   ·rw[T.get_set_ne _ _ _ _ _ e]at h
    have:=B6w h
    exact⟨this.1,List.mem_cons_of_mem _ this.2⟩
  ·have:=B6w h
   exact⟨this.1,List.mem_cons_of_mem _ this.2⟩
theorem Cp1{c:CM Value}:∀{l:List CH} {w:Value},Ci8 c w l=true→∀H,H∈l→∃H',c H=some (w,H')
 |[],w,_,H,hm=>by simp at hm
 |H0::l,w,h,H,hm=>by
  unfold Ci8 at h
  cases hc:c H0 with
  |none=>rw[hc]at h;cases h
  |some p=>
   obtain⟨v,H'⟩:=p
   rw[hc]at h
   simp only at h
   cases hv:veq v w with
   |false=>rw[hv]at h;cases h
   |true=>
    rw[hv]at h
    rcases List.mem_cons.1 hm with rfl|hm
    ·exact⟨H',by rw[hc,Ci7 hv]⟩
    ·exact Cp1 h H hm
theorem Cfu{P:PT}{call:Asq}{fr:Bool}{ops:Array Oper}{hs:List CH}:∀{l:List (Oper×Nat)} {ws:List (Env×Value)},Bug P call fr ops hs l ws=true→∀(i:Nat) o j R w,l[i]? = some (o,j)→ws[i]? = some (R,w)→Acx o=true→
  ∀k H,Bjd fr ops j≤k→k≤B6v fr ops j→hs[k]? = some H→∃H',Awt P call ops o R H=some (w,H')
 |[],_,_,i,o,j,R,w,hm,_,_,_,_,_,_,_=>by simp at hm
 |(o0,j0)::l,[],h,_,_,_,_,_,_,_,_,_,_,_,_,_=>by unfold Bug at h;cases h
 |(o0,j0)::l,(R0,w0)::ws,h,i,o,j,R,w,hm,hw,hr,k,H,h1,h2,h3=>by
  unfold Bug at h
  cases i with
  |zero=>
   simp only[List.getElem?_cons_zero,Option.some.injEq,Prod.mk.injEq]at hm hw
   obtain⟨rfl,rfl⟩:=hm
   obtain⟨rfl,rfl⟩:=hw
   rw[hr]at h
   simp only at h
   split at h
   ·rename_i hc
    have hmem:H∈(hs.drop (Bjd fr ops j0)).take (B6v fr ops j0+1-Bjd fr ops j0):=by
     obtain⟨hk,hk2⟩:=List.getElem?_eq_some_iff.1 h3
     rw[List.mem_iff_getElem]
     refine⟨k-Bjd fr ops j0,by simp;omega,?_⟩
     simp only[List.getElem_take,List.getElem_drop]
     rw[←hk2];congr 1;omega
    exact Cp1 hc H hmem
   ·cases h
  |succ i=>
   rw[List.getElem?_cons_succ]at hm hw
   simp only at h
   split at h
   ·exact Cfu h i o j R w hm hw hr k H h1 h2 h3
   ·split at h
    ·exact Cfu h i o j R w hm hw hr k H h1 h2 h3
    ·cases h
end
end Go.CE
namespace Go.CE
noncomputable section
section
variable {P:PT}
theorem Ais.eval{ev:Operand→Option Value}{x:Operand}:Ais (CM.opt (ev x)):=.opt
theorem Cx8{a b c:Value}:Ais (Csq a b c):=by
 unfold Csq;split<;>first|exact .ret|exact .fail
theorem B2h{t:TypeId}{ps:List (Nat×Value)}:Ais (Bpi P t ps):=by
 unfold Bpi
 refine .bind .opt fun _=>.bind .opt fun _=>?_
 split
 ·exact .bind .opt fun _=>.bind .opt fun _=>.ret
 ·exact .bind .opt fun _=>.bind .opt fun _=>.ret
 ·exact .fail
theorem Cuo{t:TypeId}{ps:List (Nat×Value)}:Ais (B6o P t ps):=by
 unfold B6o
 split
 ·split
  ·unfold Clz
   refine .bind .opt fun _=>?_
   split
   ·exact .bind .opt fun _=>.ret
   ·exact .fail
  ·exact B2h
 ·split
  ·exact B2h
  ·exact .fail
theorem Cl4{t:TypeId}{a:Addr}:Ais (Bav P t a):=by
 unfold Bav
 refine .bind .opt fun b=>?_
 cases b
 ·exact .load
 ·exact .bind .opt fun _=>.bind .loads fun _=>.ret
theorem Cup{t:TypeId}{x:Value}:Ais (Bxr P t x):=by
 unfold Bxr;split
 ·exact Cl4
 ·exact .fail
theorem C1u{x:Value}:Ais (C1e x):=by
 unfold C1e;split<;>first|exact .ret|exact .fail
theorem Cx9{s:Option Nat}{a b:Addr}:Ais (Ciu s a b):=fun H v H' e=>by
 unfold Ciu at e
 split at e
 ·cases e;rfl
 ·split at e
  ·cases e;rfl
  ·cases e
 ·cases e
theorem B6x{t:TypeId}{x y:Value}:Ais (Bxo P t x y):=by
 unfold Bxo
 split
 ·exact .opt
 ·refine .bind .opt fun _=>?_
  split<;>first|exact .ret|exact .fail|exact Cx9
theorem C1v{op:BinOp}{t:TypeId}{x y:Operand}{a b:Value}:Ais (Cuc P op t x y a b):=by
 unfold Cuc
 split
 ·exact .run0
 ·split
  ·exact .fail
  ·exact .bind B6x fun _=>.ret
 ·split
  ·exact .fail
  ·exact .bind B6x fun _=>.ret
 ·exact .fail
theorem C4x{op:UnOp}{a:Value}:Ais (cun P op a):=by
 unfold cun;split
 ·exact .run0
 ·exact .fail
theorem Cya{s d:TypeId}{a:Value}:Ais (Ciw P s d a):=by
 unfold Ciw
 split
 ·exact .run0
 ·refine .bind .opt fun _=>.bind .opt fun _=>?_
  split
  ·refine .bind .opt fun _=>?_
   split
   ·exact .bind .loads fun _=>.bind .opt fun _=>.ret
   ·exact .fail
  ·exact .fail
theorem Cuq{t:TypeId}{a:Value}:Ais (B6p P t a):=by
 unfold B6p
 refine .bind .opt fun _=>?_
 split
 ·exact .fail
 ·exact .ret
theorem Cl5{t:TypeId}{a:Value}{lo hi mx:Option Value}:Ais (Bp0 P t a lo hi mx):=by
 unfold Bp0
 refine .bind .opt fun _=>?_
 split
 ·split
  ·exact .run0
  ·exact .fail
 ·exact .bind .opt fun _=>.opt
 ·refine .bind .opt fun _=>?_
  split
  ·exact .opt
  ·exact .fail
 ·exact .fail
theorem Cfv{s:TypeId}{x:Value}{f:Nat}:Ais (Bcx P s x f):=by
 unfold Bcx
 refine .bind .opt fun _=>?_
 split
 ·refine .bind .opt fun _=>.bind .opt fun _=>?_
  split
  ·exact .fail
  ·exact .ret
 ·exact .fail
theorem Cur{t:TypeId}{x:Value}{f:Nat}:Ais (B6q P t x f):=by
 unfold B6q
 refine .bind .opt fun _=>?_
 split
 ·exact .bind .opt fun _=>.opt
 ·exact .fail
theorem Cfw{t:TypeId}{x i:Value}:Ais (Bcy P t x i):=by
 unfold Bcy
 refine .bind .opt fun _=>?_
 split
 ·split
  ·refine .bind .opt fun _=>?_
   split
   ·exact .ret
   ·exact .fail
  ·refine .bind .opt fun _=>?_
   split
   ·exact .ret
   ·exact .fail
  ·exact .fail
 ·exact .fail
theorem Cus{t:TypeId}{x i:Value}:Ais (B6r P t x i):=by
 unfold B6r
 refine .bind .opt fun _=>?_
 split
 ·split
  ·exact .run0
  ·refine .bind .opt fun _=>?_
   split
   ·exact .opt
   ·exact .fail
  ·exact .fail
 ·exact .fail
theorem Cqg{t:TypeId}{x i:Value}{ok:Bool}:Ais (Bxp P t x i ok):=by
 unfold Bxp
 refine .bind .opt fun _=>?_
 split
 ·refine .bind ?_ fun _=>?_
  ·split
   ·exact .ret
   ·exact .getMap
   ·exact .fail
  ·refine .bind .opt fun _=>.bind .opt fun _=>.bind .opt fun _=>?_
   split
   ·exact .ret
   ·exact .bind .opt fun _=>.ret
 ·exact .fail
theorem Cl6{t:Value}{i:Nat}:Ais (B0q t i):=by
 unfold B0q;split
 ·exact .opt
 ·exact .fail
theorem Cut{t:TypeId}{x:Value}:Ais (B6m P t x):=by
 unfold B6m
 refine .bind .opt fun _=>?_
 split
 ·exact .ret
 ·exact .ret
 ·exact .ret
 ·exact .ret
 ·exact .bind .getMap fun _=>.ret
 ·exact .fail
theorem Ais.val{c:CM Value}(h:Ais c):Ais (do let x ←c;CM.ret (some x):CM (Option Value)):=.bind h fun _=>.ret
theorem C4y{ev:Operand→Option Value}{o:Oper}(h:Acx o=true):Ais (cop P ev o):=by
 unfold Acx at h
 unfold cop
 cases ho:o.op with
 |move x=>exact .val .opt
 |assign x=>exact .val .opt
 |pick c a b=>exact .val (.bind .opt fun _=>.bind .opt fun _=>.bind .opt fun _=>Cx8)
 |build t ps=>exact .val (.bind .opt fun _=>Cuo)
 |load t a=>exact .val (.bind .opt fun _=>Cup)
 |nilCheck x=>exact .val (.bind .opt fun _=>C1u)
 |binOp op t x y yt=>exact .val (.bind .opt fun _=>.bind .opt fun _=>C1v)
 |unOp op t x=>exact .val (.bind .opt fun _=>C4x)
 |convert s d x=>exact .val (.bind .opt fun _=>Cya)
 |makeInterface t x=>exact .val (.bind .opt fun _=>Cuq)
 |makeFunc fn fs cs=>exact .val (.bind .opt fun _=>.bind .opt fun _=>.ret)
 |slice t x lo hi mx=>exact .val (.bind .opt fun _=>.bind .opt fun _=>.bind .opt fun _=>.bind .opt fun _=>Cl5)
 |fieldAddr s x i=>exact .val (.bind .opt fun _=>Cfv)
 |field t x i=>exact .val (.bind .opt fun _=>Cur)
 |indexAddr t x i=>exact .val (.bind .opt fun _=>.bind .opt fun _=>Cfw)
 |index t x i=>exact .val (.bind .opt fun _=>.bind .opt fun _=>Cus)
 |lookup t x i ok=>exact .val (.bind .opt fun _=>.bind .opt fun _=>Cqg)
 |extract t i=>exact .val (.bind .opt fun _=>Cl6)
 |call c=>
  obtain⟨cal,args,ats⟩:=c
  cases cal with
  |builtin b=>
   simp only[ho]at h
   refine .val (.bind .opt fun vs=>?_)
   cases b with
   |len=>
    match vs with
    |[]=>exact .fail
    |[x]=>exact .bind .opt fun _=>Cut
    | _::_::_=>exact .fail
   |max=>
    simp only[Bp1]
    split
    ·exact .run0
    ·exact .fail
   |min=>
    simp only[Bp1]
    split
    ·exact .run0
    ·exact .fail
   | _=>simp at h
  | _=>simp[ho]at h
 | _=>simp[ho]at h
theorem Bp7{call:Asq}{ops:Array Oper}{o:Oper}{E:Env}(h:Acx o=true):Ais (Awt P call ops o E):=by
 unfold Awt
 split
 ·exact .ret
 ·have:A2f P (Biu E) o=none:=by
   unfold A2f
   unfold Acx at h
   split
   ·rename_i ho;simp[ho]at h
   ·rename_i ho;simp[ho]at h
   ·rfl
  rw[this]
  exact .bind (C4y h) fun _=>.ret
 ·exact .fail
end
end
end Go.CE
namespace Go.CE
noncomputable section
open Go.AX (Ajj Aqt A2b Aos Ahf Ax6 Aug Awq Aqv)
def Al6(l:List (Oper×Nat)):Nat:=l.countP fun x => !Acx x.1
theorem Bxw(m i:Nat):Bg9 m i=m.testBit i:=by
 rw[Nat.testBit_eq_decide_div_mod_eq]
 unfold Bg9
 show Nat.beq (m/2^i%2) 1=_
 cases h:Nat.beq (m/2^i%2) 1 with
 |true=>exact (decide_eq_true (Nat.eq_of_beq_eq_true h)).symm
 |false=>exact (decide_eq_false fun e=>by rw[e]at h;cases h).symm
theorem C0c(a b i:Nat):Bg9 (Nat.lor a b) i=(Bg9 a i||Bg9 b i):=by
 rw[Bxw,Bxw,Bxw];exact Nat.testBit_or ..
theorem C7p{k i:Nat}(h:Bg9 (Nat.pow 2 k) i=true):i=k:=by
 rw[Bxw]at h
 have:(2^k).testBit i=true:=h
 rw[Nat.testBit_two_pow]at this
 exact (of_decide_eq_true this).symm
theorem B6y(i:Nat):Bg9 0 i=false:=by rw[Bxw];exact Nat.zero_testBit i
theorem Cp2{acc:List Nat}:∀{es:List Edge} {m i:Nat},Bg9 (es.foldl (C1t acc) m) i=true→Bg9 m i=true∨∃e,e∈es∧Region.binds .any e=true∧(i=e.on∨Bg9 (acc.getD e.on 0) i=true)
 |[],_,_,h=>.inl h
 |e::es,m,i,h=>by
  rw[List.foldl_cons]at h
  rcases Cp2 h with h|⟨e',h1,h2⟩
  ·unfold C1t at h
   split at h
   ·rename_i hb
    rw[C0c,C0c,Bool.or_eq_true,Bool.or_eq_true]at h
    rcases h with h|h|h
    ·exact .inl h
    ·exact .inr ⟨e,by simp,hb,.inl (C7p h)⟩
    ·exact .inr ⟨e,by simp,hb,.inr h⟩
   ·exact .inl h
  ·exact .inr ⟨e',List.mem_cons_of_mem _ h1,h2⟩
theorem Cuu:∀(l:List Oper) (M:List Nat) (B:List (List Nat)),M.length=B.length→(∀k i,Bg9 (M.getD k 0) i=true→i∈B.getD k [])→∀k i,Bg9 ((l.foldl B0v M).getD k 0) i=true→i∈(l.foldl Go.AX.At6 B).getD k []
 |[],_,_,_,h=>h
 |o::l,M,B,hl,h=>by
  rw[List.foldl_cons,List.foldl_cons]
  refine Cuu l _ _ (by simp[B0v,Go.AX.At6,hl]) fun k i hb=>?_
  unfold B0v at hb
  unfold Go.AX.At6
  rcases Nat.lt_trichotomy k M.length with hk|hk|hk
  ·rw[List.getD_eq_getElem?_getD,List.getElem?_append_left hk,←List.getD_eq_getElem?_getD]at hb
   rw[List.getD_eq_getElem?_getD,List.getElem?_append_left (by omega),←List.getD_eq_getElem?_getD]
   exact h k i hb
  ·subst hk
   rw[List.getD_eq_getElem?_getD,List.getElem?_append_right (Nat.le_refl _)]at hb
   rw[List.getD_eq_getElem?_getD,List.getElem?_append_right (by omega)]
   simp only[hl,Nat.sub_self,List.getElem?_cons_zero,Option.getD_some,List.mem_flatMap]at hb ⊢
   rcases Cp2 hb with h0|⟨e,h1,h2,h3⟩
   ·rw[B6y]at h0;cases h0
   ·refine⟨e,h1,?_⟩
    rw[h2]
    rcases h3 with rfl|h3
    ·simp
    ·exact List.mem_cons_of_mem _ (h _ _ h3)
  ·rw[List.getD_eq_getElem?_getD,List.getElem?_append_right (by omega),List.getElem?_eq_none (by simp;omega)]at hb
   simp only[Option.getD_none,B6y]at hb;cases hb
theorem Cuv{ops:Array Oper}{i j:Nat}(h:Agc ops i j=true):i∈(Aqt ops).getD j [] :=
 Cuu ops.toList [] [] rfl (fun k i hb=>by simp[B6y]at hb) j i h
section
variable {P:PT} {call:Asq} {n:Nat} {ops:Array Oper}
theorem Buh{E E1:Env}{d:Option Tmp}{v:Value}{H H1:CH}(e:Buf n E d v H=some (E1,H1)):H1=H∧(∀t,d≠some t→E1.get t=E.get t)∧∀t,d=some t→t<n∧t<BIG∧E1.get t=some v:=by
 cases d with
 |none=>
  obtain⟨rfl,rfl⟩:=Abt e
  exact⟨rfl,fun _ _=>rfl,fun t ht=>by cases ht⟩
 |some d=>
  simp only[Buf]at e
  cases h1:Nat.blt d n with
  |false=>simp only[h1]at e;cases e
  |true=>
  cases h2:Nat.blt d BIG with
  |false=>simp only[h1,h2]at e;cases e
  |true=>
  simp only[h1,h2]at e
  have hd1:d<n:=by simpa [Nat.blt_eq]using h1
  have hd2:d<BIG:=by simpa [Nat.blt_eq]using h2
  have hd3:d+1<2^60:=Nat.lt_of_le_of_lt (show d+1≤BIG from hd2) (by unfold BIG;decide)
  obtain⟨rfl,rfl⟩:=Abt e
  refine⟨rfl,fun t ht=>?_,fun t ht=>?_⟩
  ·exact T.get_set_ne _ _ _ _ _ fun e=>ht (by rw[e])
  ·cases ht
   exact⟨hd1,hd2,T.get_set _ _ _ _ hd3⟩
theorem Bui{o:Oper×Nat}{l:List (Oper×Nat)}{E E':Env}{H:CH}{hs:List CH}{ws:List (Env×Value)}(e:Bp6 P call n ops (o::l) E H=some (E',hs,ws)) :
  ∃v H1 E1 hs1 ws1,Awt P call ops o.1 (A7d E (Ajj ops o.1)) H=some (v,H1)∧Buf n E o.1.dst v H1=some (E1,H1)∧Bp6 P call n ops l E1 H1=some (E',hs1,ws1)∧hs=(match Acx o.1 with|true=>hs1|false=>H1::hs1)∧ws=(A7d E (Ajj ops o.1),v)::ws1:=by
 simp only[Bp6]at e
 cases h1:Awt P call ops o.1 (A7d E (Ajj ops o.1)) H with
 |none=>simp only[h1]at e;cases e
 |some p=>
  obtain⟨v,H1⟩:=p
  simp only[h1]at e
  cases h2:Buf n E o.1.dst v H1 with
  |none=>simp only[h2]at e;cases e
  |some q=>
   obtain⟨E1,H2⟩:=q
   simp only[h2]at e
   have hH:=(Buh h2).1
   subst hH
   cases h3:Bp6 P call n ops l E1 H2 with
   |none=>simp only[h3]at e;cases e
   |some r=>
    obtain⟨E2,hs1,ws1⟩:=r
    simp only[h3]at e
    cases e
    exact⟨v,H2,E1,hs1,ws1,rfl,h2,h3,rfl,rfl⟩
theorem B0x:∀{l:List (Oper×Nat)} {E E':Env} {H:CH} {hs:List CH} {ws:List (Env×Value)},Bp6 P call n ops l E H=some (E',hs,ws)→∀t,(∀x,x∈l→x.1.dst≠some t)→E'.get t=E.get t
 |[],E,E',H,hs,ws,e,t,_=>by cases e;rfl
 |o::l,E,E',H,hs,ws,e,t,h=>by
  obtain⟨v,H1,E1,hs1,ws1,h1,h2,h3,h4,h5⟩:=Bui e
  rw[B0x h3 t fun x hx=>h x (List.mem_cons_of_mem _ hx)]
  exact (Buh h2).2.1 t (h o (List.mem_cons_self ..))
theorem Cuw:∀{l:List (Oper×Nat)} {E E':Env} {H:CH} {hs:List CH} {ws:List (Env×Value)},Bp6 P call n ops l E H=some (E',hs,ws)→hs.length=Al6 l
 |[],E,E',H,hs,ws,e=>by cases e;rfl
 |o::l,E,E',H,hs,ws,e=>by
  obtain⟨v,H1,E1,hs1,ws1,h1,h2,h3,h4,h5⟩:=Bui e
  have:=Cuw h3
  unfold Al6 at this ⊢
  cases hr:Acx o.1 with
  |true=>rw[hr]at h4;simp only at h4;rw[h4,this];simp[hr]
  |false=>rw[hr]at h4;simp only at h4;rw[h4];simp[hr,this]
theorem C0d:∀{pre:List (Oper×Nat)} {o:Oper×Nat} {post:List (Oper×Nat)} {E E':Env} {H:CH} {hs:List CH} {ws:List (Env×Value)},Bp6 P call n ops (pre++o::post) E H=some (E',hs,ws)→
  ∃Ej Hj v H1,(H::hs)[Al6 pre]? = some Hj∧Awt P call ops o.1 (A7d Ej (Ajj ops o.1)) Hj=some (v,H1)∧(Acx o.1=false→(H::hs)[Al6 pre+1]? = some H1)∧
   (∀t,(∀x,x∈o::post→x.1.dst≠some t)→E'.get t=Ej.get t)∧(∀d,o.1.dst=some d→d<n∧d<BIG∧((∀x,x∈post→x.1.dst≠some d)→E'.get d=some v))∧
   (∀t,(∀x,x∈pre→x.1.dst≠some t)→Ej.get t=E.get t)∧ws[pre.length]? = some (A7d Ej (Ajj ops o.1),v)
 |[],o,post,E,E',H,hs,ws,e=>by
  have e':=e
  obtain⟨v,H1,E1,hs1,ws1,h1,h2,h3,h4,h5⟩:=Bui e
  refine⟨E,H,v,H1,rfl,h1,fun hr=>?_,B0x e',fun d hd=>?_,fun _ _=>rfl,by rw[h5];rfl⟩
  ·rw[hr]at h4;simp only at h4;rw[h4];rfl
  ·obtain⟨q1,q2,q3⟩:=(Buh h2).2.2 d hd
   exact⟨q1,q2,fun hp=>(B0x h3 d hp).trans q3⟩
 |y::pre,o,post,E,E',H,hs,ws,e=>by
  obtain⟨v,H1,E1,hs1,ws1,h1,h2,h3,h4,h5⟩:=Bui e
  obtain⟨Ej,Hj,w,H2,g1,g2,g3,g4,g5,g6,g7⟩:=C0d h3
  refine⟨Ej,Hj,w,H2,?_,g2,fun hr=>?_,g4,g5,fun t ht=>?_,by rw[h5];exact g7⟩
  ·cases hy:Acx y.1 with
   |true=>
    rw[hy]at h4;simp only at h4;rw[h4]
    have:Al6 (y::pre)=Al6 pre:=by simp[Al6,hy]
    rw[this,←Bp7 hy _ _ _ h1];exact g1
   |false=>
    rw[hy]at h4;simp only at h4;rw[h4]
    have:Al6 (y::pre)=Al6 pre+1:=by simp[Al6,hy]
    rw[this,List.getElem?_cons_succ];exact g1
  ·have g3:=g3 hr
   cases hy:Acx y.1 with
   |true=>
    rw[hy]at h4;simp only at h4;rw[h4]
    have:Al6 (y::pre)=Al6 pre:=by simp[Al6,hy]
    rw[this,←Bp7 hy _ _ _ h1];exact g3
   |false=>
    rw[hy]at h4;simp only at h4;rw[h4]
    have:Al6 (y::pre)=Al6 pre+1:=by simp[Al6,hy]
    rw[this,List.getElem?_cons_succ];exact g3
  ·rw[g6 t fun x hx=>ht x (List.mem_cons_of_mem _ hx)]
   exact (Buh h2).2.1 t (ht y (List.mem_cons_self ..))
theorem Cux{x:Oper×Nat}:x∈ops.toList.zipIdx ↔ ops[x.2]? = some x.1:=by
 obtain⟨o,k⟩:=x
 rw[List.mem_zipIdx_iff_getElem?,Array.getElem?_toList]
variable {fr:Bool}
theorem Bc3{x:Oper×Nat}:x∈c1 fr ops ↔ ops[x.2]? = some x.1∧isF fr x.1=false∧Bc2 fr ops x=false:=by
 unfold c1;rw[List.mem_filter,Cux];simp
theorem Ase{x:Oper×Nat}:x∈cf fr ops ↔ ops[x.2]? = some x.1∧isF fr x.1=true:=by
 unfold cf;rw[List.mem_filter,Cux]
theorem Bje{x:Oper×Nat}:x∈c2 fr ops ↔ ops[x.2]? = some x.1∧isF fr x.1=false∧Bc2 fr ops x=true:=by
 unfold c2;rw[List.mem_filter,Cux];simp
theorem Bjf{x:Oper×Nat}:x∈cl fr ops ↔ ops[x.2]? = some x.1:=by
 unfold cl
 rw[List.mem_append,List.mem_append,Bc3,Ase,Bje]
 cases isF fr x.1<;>cases Bc2 fr ops x<;>simp
theorem Cuy{x:Oper×Nat}(h:x∈cl fr ops):x∈c1 fr ops∨x∈cf fr ops∨x∈c2 fr ops:=by
 unfold cl at h
 rw[List.mem_append,List.mem_append]at h;exact h
theorem C83{x:Oper×Nat}(h:x∈c1 fr ops):x∈cl fr ops:=Bjf.2 (Bc3.1 h).1
theorem A3i{x:Oper×Nat}(h:x∈cf fr ops):x∈cl fr ops:=Bjf.2 (Ase.1 h).1
theorem C1w{x:Oper×Nat}(h:x∈c2 fr ops):x∈cl fr ops:=Bjf.2 (Bje.1 h).1
theorem Dck{x y:Oper×Nat}(hx:x∈cl fr ops)(hy:y∈cl fr ops)(h:x.2=y.2):x=y:=by
 have h1:=Bjf.1 hx
 have h2:=Bjf.1 hy
 rw[h,h2]at h1
 obtain⟨a,b⟩:=x;obtain⟨c,d⟩:=y
 cases h1;cases h;rfl
structure Csu(fr:Bool)(ops:Array Oper)(x y:Oper×Nat):Prop where
 dst:∀d,x.1.dst=some d→y.1.dst≠some d
 xu:∀d,x.1.dst=some d→d∈Ajj ops y.1→Agc ops x.2 y.2=true
 yu:∀d,y.1.dst=some d→d∈Ajj ops x.1→Agc ops x.2 y.2=true
 act:Aet fr x.1=true→Aet fr y.1=true→Agc ops x.2 y.2=true
theorem C4z{x y:Oper×Nat}(h:Cun fr ops x y=true):Csu fr ops x y:=by
 unfold Cun at h
 simp only[Bool.and_eq_true,Bool.or_eq_true]at h
 obtain⟨h1,h2⟩:=h
 refine⟨fun d hd he=>?_,fun d hd hm=>?_,fun d hd hm=>?_,fun hx hy=>?_⟩
 ·rw[hd,he]at h1;simp at h1
 ·rcases h2 with h2|⟨⟨h2,_⟩,_⟩
  ·exact h2
  ·rw[hd]at h2;simp[Ahf.2 hm]at h2
 ·rcases h2 with h2|⟨⟨_,h2⟩,_⟩
  ·exact h2
  ·rw[hd]at h2;simp[Ahf.2 hm]at h2
 ·rcases h2 with h2|⟨_,h2⟩
  ·exact h2
  ·rw[hx,hy]at h2;cases h2
theorem Cja:∀{l pre:List (Oper×Nat)} {x:Oper×Nat} {post:List (Oper×Nat)},Bxu fr ops l=true→l=pre++x::post→∀y,y∈post→Csu fr ops x y
 |[],pre,_,_,_,e,_,_=>by cases pre<;>cases e
 |z::l,[],x,post,h,e,y,hy=>by
  cases e
  simp only[Bxu,Bool.and_eq_true,List.all_eq_true]at h
  exact C4z (h.1 y hy)
 |z::l,w::pre,x,post,h,e,y,hy=>by
  cases e
  simp only[Bxu,Bool.and_eq_true]at h
  exact Cja h.2 rfl y hy
structure C1x(fr:Bool)(ops:Array Oper):Prop where
 edge:A2b ops=true
 pair:∀{pre:List (Oper×Nat)} {x:Oper×Nat} {post:List (Oper×Nat)},cl fr ops=pre++x::post→∀y,y∈post→Csu fr ops x y
 fresh:∀x,x∈cf fr ops→Bc2 fr ops x=false
 first:∀y,y∈c2 fr ops→Bxv ops y (cf fr ops)=true
 acts1:∀y,y∈c2 fr ops→∀x,x∈c1 fr ops→Acx x.1=false→Agc ops x.2 y.2=true
 acts2:∀y,y∈c2 fr ops→Acx y.1=false→∀x,x∈cf fr ops→Agc ops x.2 y.2=true
theorem C7q(h:B0w fr ops=true):C1x fr ops:=by
 unfold B0w at h
 simp only[Bool.and_eq_true]at h
 obtain⟨⟨⟨h1,h2⟩,h3⟩,h4⟩:=h
 have h5:∀y,y∈c2 fr ops→Bxv ops y (cf fr ops)=true∧(((c1 fr ops).all fun x=>Acx x.1||Agc ops x.2 y.2)=true∧(Acx y.1||((cf fr ops).all fun x=>Agc ops x.2 y.2))=true):=fun y hy=>by
  have:=List.all_eq_true.1 h4 y hy
  simpa only [Bool.and_eq_true]using this
 refine⟨h1,fun e=>Cja h2 e,fun x hx=>?_,fun y hy=>(h5 y hy).1,fun y hy x hx hr=>?_,fun y hy hr x hx=>?_⟩
 ·have:=List.all_eq_true.1 h3 x hx;simpa using this
 ·have:=List.all_eq_true.1 (h5 y hy).2.1 x hx
  rw[hr]at this;simpa using this
 ·have:=(h5 y hy).2.2
  rw[hr,Bool.false_or]at this
  exact List.all_eq_true.1 this x hx
theorem B6z{y:Oper×Nat}:∀{l:List (Oper×Nat)},Bxv ops y l=true→∃p q,l=p++q∧(∀x,x∈p→Agc ops x.2 y.2=true)∧∀x,x∈q→Agc ops x.2 y.2=false
 |[],_=>⟨[],[],rfl,fun _ h=>by simp at h,fun _ h=>by simp at h⟩
 |x::l,h=>by
  unfold Bxv at h
  cases hx:Agc ops x.2 y.2 with
  |true=>
   rw[hx]at h
   obtain⟨p,q,h1,h2,h3⟩:=B6z h
   refine⟨x::p,q,by rw[h1];rfl,fun z hz=>?_,h3⟩
   rcases List.mem_cons.1 hz with rfl|hz
   ·exact hx
   ·exact h2 z hz
  |false=>
   rw[hx]at h
   refine⟨[],x::l,rfl,fun _ h=>by simp at h,fun z hz=>?_⟩
   rcases List.mem_cons.1 hz with rfl|hz
   ·exact hx
   ·have:=List.all_eq_true.1 h z hz;simpa using this
theorem C1x.pre(hs:C1x fr ops){pre:List (Oper×Nat)}{x:Oper×Nat}{post:List (Oper×Nat)}(e:cl fr ops=pre++x::post):∀y,y∈pre→Csu fr ops y x:=by
 intro y hy
 obtain⟨p1,p2,rfl⟩:=List.append_of_mem hy
 exact hs.pair (pre:=p1) (post:=p2++x::post) (by rw[e];simp) x (by simp)
theorem C7r{x y:Oper×Nat}(hx:x∈cl fr ops)(hy:y∈cl fr ops)(h:x≠y):∃pre post,cl fr ops=pre++x::post∧(y∈pre∨y∈post):=by
 obtain⟨pre,post,e⟩:=List.append_of_mem hx
 refine⟨pre,post,e,?_⟩
 rw[e]at hy
 rcases List.mem_append.1 hy with h' |h'
 ·exact .inl h'
 ·rcases List.mem_cons.1 h' with h' |h'
  ·exact absurd h'.symm h
  ·exact .inr h'
theorem C1x.dstU(hs:C1x fr ops){x y:Oper×Nat}(hx:x∈cl fr ops)(hy:y∈cl fr ops){d:Tmp}(hxd:x.1.dst=some d)(hyd:y.1.dst=some d):x=y:=by
 by_cases h:x=y
 ·exact h
 ·obtain⟨pre,post,e,h|h⟩:=C7r hx hy h
  ·exact absurd hxd ((hs.pre e y h).dst d hyd)
  ·exact absurd hyd ((hs.pair e y h).dst d hxd)
theorem Cqh{x y:Oper×Nat}(hx:x∈cf fr ops)(h:Agc ops x.2 y.2=true):Bc2 fr ops y=true:=by
 unfold Bc2
 rw[List.any_eq_true]
 exact⟨x,hx,h⟩
theorem Cuz{o:Oper}(h:Bcb o=true):Acx o=false:=by
 unfold Bcb at h
 unfold Acx
 split at h
 ·rename_i ho _ _;rw[ho]
 ·rename_i ho _ _;rw[ho]
 ·cases h
theorem B60{o:Oper}(h:isF fr o=true):Bcb o=true:=by
 unfold isF at h;simp at h;exact h.2
theorem B0y{o:Oper}(h:isF fr o=true):Acx o=false:=Cuz (B60 h)
theorem Dcl{o:Oper}(h:Acx o=false)(h2:isF fr o=false):Aet fr o=true:=by simp[Aet,h,h2]
theorem Cfx{o:Oper}(h:Aet fr o=true):Acx o=false∧isF fr o=false:=by simpa [Aet]using h
theorem Cei{q:Oper×Nat→Bool}{pre post:List (Oper×Nat)}{x:Oper×Nat}{D:Nat→Bool}{l:List (Oper×Nat)}(e:l=pre++x::post)(h1:∀y,y∈pre→q y=true→D y.2=true)(h3:∀y,y∈post→q y=true→D y.2=false) :
  l.countP (fun y=>q y&&D y.2)=pre.countP q+(match q x&&D x.2 with|true=>1|false=>0):=by
 rw[e,List.countP_append,List.countP_cons]
 have e1:pre.countP (fun y=>q y&&D y.2)=pre.countP q:=by
  apply List.countP_congr
  intro y hy
  cases hq:q y with
  |false=>simp
  |true=>simp[h1 y hy hq]
 have e2:post.countP (fun y=>q y&&D y.2)=0:=by
  rw[List.countP_eq_zero]
  intro y hy
  cases hq:q y with
  |false=>simp
  |true=>simp[h3 y hy hq]
 rw[e1,e2]
 cases q x&&D x.2<;>simp
theorem A7e{q:Oper×Nat→Bool}{q':Oper×Nat→Bool}{l:List (Oper×Nat)}{D D':Nat→Bool}(h:∀y,y∈l→q y=true→D y.2=true→q' y=true∧D' y.2=true):l.countP (fun y=>q y&&D y.2)≤l.countP (fun y=>q' y&&D' y.2):=by
 apply List.countP_mono_left
 intro y hy hh
 simp only[Bool.and_eq_true]at hh ⊢
 exact h y hy hh.1 hh.2
theorem C1y{q:Oper×Nat→Bool}{l:List (Oper×Nat)}{D D':Nat→Bool}(h:∀y,y∈l→q y=true→D y.2=D' y.2):l.countP (fun y=>q y&&D y.2)=l.countP (fun y=>q y&&D' y.2) :=
 Nat.le_antisymm (A7e fun y hy hq hd=>⟨hq,by rw[←h y hy hq];exact hd⟩) (A7e fun y hy hq hd=>⟨hq,by rw[h y hy hq];exact hd⟩)
end
end
end Go.CE
namespace Go.CE
noncomputable section
open Go.AX (Ajj Aqt A2b Aos Ahf Ax6 Aug Awq Aqv)
section
variable {P:PT} {call:Asq} {n:Nat} {ops:Array Oper} {base:Nat→Prop} {ρ:Ren}
theorem HR.congr{K K':Nat→Prop}{H:CH}{W:World}(hr:HR K ρ H W)(h:∀b,K' b ↔ K b):HR K' ρ H W:=by
 have:K'=K:=funext fun b=>propext (h b)
 rw[this];exact hr
theorem HR.garbage{K K':Nat→Prop}{H:CH}{W:World}(hr:HR K ρ H W)(h:∀b,K' b→K b∨b=W.heap.size)(o:Obj):HR K' ρ H {W with heap:=W.heap.push o}:=by
 refine⟨fun i p hp=>?_,hr.big,fun i cb hi hl=>?_,hr.inj,fun b hb=>?_,hr.zero⟩
 ·obtain⟨h1,h2,h3⟩:=hr.dom i p hp
  refine⟨h1,fun hb=>?_,by simp;omega⟩
  rcases h _ hb with hb|hb
  ·exact h2 hb
  ·omega
 ·obtain⟨p,hp,hB⟩:=hr.blk i cb hi hl
  have:=(hr.dom i p hp).2.2
  exact⟨p,hp,hB.mono (.refl _) (by show (W.heap.push o)[p.b]? = _;rw[Array.getElem?_push,if_neg (by omega)])⟩
 ·rcases h _ hb with hb|hb
  ·have:=hr.base b hb;simp;omega
  ·simp;omega
theorem HR.adopt{K:Nat→Prop}{H:CH}{W:World}(hr:HR K ρ H W){b n:Nat}{cb:CB}(hb:K b)(hB:∀ρ',BR ρ' ⟨b,0,n⟩ W cb)(hn:H.next<BIG) :
  ρ.le (ρ.put H.next ⟨b,0,n⟩)∧HR (fun x=>K x∧x≠b) (ρ.put H.next ⟨b,0,n⟩) ⟨H.next+1,T.set cb 60 H.m H.next⟩ W:=by
 have hle:ρ.le (ρ.put H.next ⟨b,0,n⟩):=by
  intro i p hp
  have:=(hr.dom i p hp).1
  unfold Ren.put;rw[if_neg (by omega)];exact hp
 have h60:H.next+1<2^60:=by unfold BIG at hn;omega
 have hbW:=hr.base b hb
 have get:∀j cj,(T.set cb 60 H.m H.next).get j=some cj→(j=H.next∧cj=cb)∨(j≠H.next∧H.m.get j=some cj):=by
  intro j cj h
  by_cases e:j=H.next
  ·subst e;rw[T.get_set _ _ _ _ h60]at h;cases h;exact .inl ⟨rfl,rfl⟩
  ·rw[T.get_set_ne _ _ _ _ _ e]at h;exact .inr ⟨e,h⟩
 have put_ne:∀j,j≠H.next→(ρ.put H.next ⟨b,0,n⟩) j=ρ j:=fun j e=>by unfold Ren.put;rw[if_neg e]
 have put_eq:(ρ.put H.next ⟨b,0,n⟩) H.next=some ⟨b,0,n⟩:=by unfold Ren.put;rw[if_pos rfl]
 refine⟨hle,fun j q hq=>?_,by show H.next+1≤BIG;omega,fun j cj hj hjl=>?_,fun j k cj ck q r hj hjl hk hkl hq hr' e=>?_,fun x hx=>hr.base x hx.1,fun j q hq=>?_⟩
 ·by_cases e:j=H.next
  ·subst e;rw[put_eq]at hq;cases hq
   exact⟨Nat.lt_succ_self _,fun h=>h.2 rfl,hbW⟩
  ·rw[put_ne j e]at hq
   obtain⟨h1,h2,h3⟩:=hr.dom j q hq
   exact⟨by show j<H.next+1;omega,fun h=>h2 h.1,h3⟩
 ·rcases get j cj hj with ⟨rfl,rfl⟩|⟨hne,hj'⟩
  ·exact⟨_,put_eq,hB _⟩
  ·obtain⟨q,hq,hB2⟩:=hr.blk j cj hj' hjl
   exact⟨q,by rw[put_ne j hne];exact hq,hB2.mono hle rfl⟩
 ·rcases get j cj hj with ⟨rfl,rfl⟩|⟨hne,hj'⟩<;>rcases get k ck hk with ⟨rfl,rfl⟩|⟨hne2,hk'⟩
  ·rfl
  ·rw[put_eq]at hq;cases hq
   rw[put_ne k hne2]at hr'
   have:=(hr.dom k r hr').2.1
   have e:b=r.b:=e
   rw[e]at hb;exact absurd hb this
  ·rw[put_eq]at hr';cases hr'
   rw[put_ne j hne]at hq
   have:=(hr.dom j q hq).2.1
   have e:q.b=b:=e
   rw[←e]at hb;exact absurd hb this
  ·rw[put_ne j hne]at hq;rw[put_ne k hne2]at hr'
   exact hr.inj j k cj ck q r hj' hjl hk' hkl hq hr' e
 ·by_cases e:j=H.next
  ·subst e;rw[put_eq]at hq;cases hq;rfl
  ·rw[put_ne j e]at hq;exact hr.zero j q hq
structure Dcm(P:PT)(o:Oper)(R:Env)(H:CH)(w:Value)(H1:CH)(cb:CB)(obj:Obj)(n:Nat)(w':Nat→Value):Prop where
 heap:H1=⟨H.next+1,T.set cb 60 H.m H.next⟩
 next:H.next<BIG
 br:∀(ρ:Ren) (b:Nat) (W:World),W.heap[b]? = some obj→BR ρ ⟨b,0,n⟩ W cb
 val:∀(ρ:Ren) (b:Nat),ρ H.next=some ⟨b,0,n⟩→VR ρ w (w' b)
 run:∀(N:Nat) (ρ:Ren) (a:Act) (W:World),SR N ρ R a→(execOp a.eval o).run P.P W = .ok (.value (w' W.heap.size)) {W with heap:=W.heap.push obj}
theorem C40{cells:List Value}{elem:TypeId}(hst:∀v,v∈cells→Adq v=true)(hc:cells.length<BIG)(ρ:Ren)(b:Nat)(W:World)(hw:W.heap[b]? = some (.cells ⟨cells⟩ elem (0,0))):BR ρ ⟨b,0,cells.length⟩ W (.cells cells.length (Aov cells 0 .e) .nilIface elem true):=by
 refine⟨⟨cells⟩,hw,by simp,fun _=>⟨rfl,rfl⟩,by simp,fun k v hv=>?_⟩
 obtain⟨hk,hv⟩:=Bg7 hv
 have hl:cells[k]? = some cells[k]:=by simp[hk]
 have:=A7b cells 0 .e k _ (by omega) hl
 rw[Nat.zero_add]at this
 rw[this]at hv
 simp at hv;subst hv
 exact⟨cells[k],by simp[hk],VR.of_still (hst _ (by simp))⟩
theorem Dac{x:Value}{n:Nat}{elem:TypeId}(hx:Adq x=true)(ρ:Ren)(b:Nat)(W:World)(hw:W.heap[b]? = some (.cells (Array.replicate n x) elem (0,0))):BR ρ ⟨b,0,n⟩ W (.cells n .e x elem true):=by
 refine⟨Array.replicate n x,hw,by simp,fun _=>⟨rfl,rfl⟩,by simp,fun k v hv=>?_⟩
 obtain⟨hk,hv⟩:=Bg7 hv
 rw[T.get_e]at hv
 simp at hv;subst hv
 exact⟨_,by simp[hk],VR.of_still hx⟩
theorem Cp3{t:TypeId}{l:List Value}{H H1:CH}{a:Addr}(e:Bv2 t l H=some (a,H1)):l.length<BIG∧H.next<BIG∧a=⟨H.next,0,none⟩∧H1=⟨H.next+1,T.set (.cells l.length (Aov l 0 .e) .nilIface t true) 60 H.m H.next⟩:=by
 unfold Bv2 at e
 cases hlb:Nat.blt l.length BIG with
 |false=>simp only[hlb]at e;cases e
 |true=>
 simp only[hlb]at e
 cases hcp:B6j (CB.cells l.length (Aov l 0 T.e) Value.nilIface t true) H with
 |none=>simp only[hcp]at e;cases e
 |some q=>
 obtain⟨i,H7⟩:=q
 simp only[hcp]at e
 cases e
 rw[Bg8]at hcp
 cases hnb:Nat.blt H.next BIG with
 |false=>simp only[hnb]at hcp;cases hcp
 |true=>
 simp only[hnb]at hcp
 cases hcp
 exact⟨by simpa [Nat.blt_eq]using hlb,by simpa [Nat.blt_eq]using hnb,rfl,rfl⟩
theorem C1z{t:TypeId}{n:Nat}{x:Value}{H H1:CH}{a:Addr}(e:Cbe t n x H=some (a,H1)):H.next<BIG∧a=⟨H.next,0,none⟩∧H1=⟨H.next+1,T.set (.cells n .e x t true) 60 H.m H.next⟩:=by
 unfold Cbe at e
 cases hcp:B6j (CB.cells n T.e x t true) H with
 |none=>simp only[hcp]at e;cases e
 |some q=>
 obtain⟨i,H7⟩:=q
 simp only[hcp]at e
 cases e
 rw[Bg8]at hcp
 cases hnb:Nat.blt H.next BIG with
 |false=>simp only[hnb]at hcp;cases hcp
 |true=>
 simp only[hnb]at hcp
 cases hcp
 exact⟨by simpa [Nat.blt_eq]using hnb,rfl,rfl⟩
theorem C41{t:TypeId}{l c:Value}{x:Nat×Nat×TypeId×List Value}(h:Cbh P t l c=some x):∃k1 i k2 j,l = .int k1 i∧c = .int k2 j:=by
 unfold Cbh at h
 cases hu:under P t with
 |none=>rw[hu]at h;cases h
 |some u=>
 rw[hu]at h
 cases u with
 |slice elem'=>
  cases l with
  |int k1 l=>
   cases c with
   |int k2 c=>exact⟨_,_,_,_,rfl,rfl⟩
   | _=>simp at h
  | _=>simp at h
 | _=>simp at h
theorem C10{o:Oper}{R:Env}{H H1:CH}{w:Value}(hf:Bcb o=true)(e:Awt P call ops o R H=some (w,H1)):∃cb obj n w',Dcm P o R H w H1 cb obj n w':=by
 have hg:o.guard=none:=by
  unfold Bcb at hf
  split at hf
  ·assumption
  ·assumption
  ·cases hf
 unfold Awt at e
 have hw:Bpj ops o R=some true:=by unfold Bpj;rw[hg]
 unfold Bcb at hf
 split at hf
 ·rename_i t l c dd ho _ hd
  have hc:A2f P (Biu R) o=none:=by unfold A2f;rw[ho]
  rw[hw,hc]at e
  obtain⟨r,H2,e1,f1⟩:=bind_some e
  obtain⟨rfl,rfl⟩:=Abt f1
  unfold cop at e1
  rw[ho]at e1
  obtain⟨x,H3,e2,f2⟩:=bind_some e1
  obtain⟨rfl,rfl⟩:=Abt f2
  obtain⟨lv,H4,e3,f3⟩:=bind_some e2
  obtain⟨hl,rfl⟩:=Ahv e3
  obtain⟨cv,H5,e4,f4⟩:=bind_some f3
  obtain⟨hcv,rfl⟩:=Ahv e4
  unfold Bn8 at f4
  cases hs:Cbh P t lv cv with
  |none=>simp only[hs]at f4;cases f4
  |some q=>
  obtain⟨n,m,elem,cells⟩:=q
  simp only[hs]at f4
  obtain⟨a,H6,e5,f5⟩:=bind_some f4
  obtain⟨rfl,rfl⟩:=Abt f5
  obtain⟨h1,h2,rfl,rfl⟩:=Cp3 e5
  obtain⟨k1,i1,k2,i2,e7,e8⟩:=C41 hs
  have hk:=Cfr (P:=P) (ρ:=fun _=>none) (by rw[e7];exact VR.int k1 i1) (by rw[e8];exact VR.int k2 i2) hs
  refine⟨_,.cells ⟨cells⟩ elem,cells.length,fun b=>.slice (some ⟨b,0,none⟩) n m,rfl,h2,C40 hk.2.1 h1,fun ρ b hb=>VR.sl ⟨_,hb,by simp⟩ hk.1,fun N ρ a W hsr=>?_⟩
  have hrun:=(Cfr (P:=P) (Bp4 hsr _ _ hl) (Bp4 hsr _ _ hcv) hs).2.2 W
  simp only[execOp,ho,Sem.run_bind,hrun]
  rfl
 ·rename_i t dd ho _ hd
  have hc:A2f P (Biu R) o=none:=by unfold A2f;rw[ho]
  rw[hw,hc]at e
  obtain⟨r,H2,e1,f1⟩:=bind_some e
  obtain⟨rfl,rfl⟩:=Abt f1
  unfold cop at e1
  rw[ho]at e1
  obtain⟨x,H3,e2,f2⟩:=bind_some e1
  obtain⟨rfl,rfl⟩:=Abt f2
  unfold Civ at e2
  cases hcons:P.cons.get t with
  |some q=>
   obtain⟨n,y⟩:=q
   simp only[hcons]at e2
   obtain⟨a,H6,e5,f5⟩:=bind_some e2
   obtain⟨rfl,rfl⟩:=Abt f5
   obtain⟨h2,rfl,rfl⟩:=C1z e5
   obtain⟨hy,i,z,hi,hz,hcs⟩:=P.okC _ _ _ hcons
   have hrun:∀W,(zeroValue t).run P.P W = .ok z W:=fun W=>by
    simp[zeroValue,typeInfo,program,Sem.run,hi,hz]
   refine⟨_,.cells (Array.replicate n y) t,n,fun b=>.pointer (some ⟨b,0,none⟩),rfl,h2,Dac hy,fun ρ b hb=>.ptr ⟨_,hb,by simp⟩,fun N ρ a W hsr=>?_⟩
   simp only[execOp,ho,Instr.alloc,Sem.run_bind,hrun,Result.andThen_ok,newVar,hcs]
   rfl
  |none=>
   simp only[hcons]at e2
   obtain⟨z,H6,e4,f4⟩:=bind_some e2
   obtain⟨hz,rfl⟩:=Ahv e4
   obtain⟨a,H7,e5,f5⟩:=bind_some f4
   obtain⟨rfl,rfl⟩:=Abt f5
   obtain⟨h1,h2,rfl,rfl⟩:=Cp3 e5
   have hst:=Biw (At2 hz)
   have hst2:∀v,v∈z.cells.toList→Adq v=true:=fun v hv=>by
    obtain⟨k,hk⟩:=List.getElem?_of_mem hv
    exact B0s hst hk
   refine⟨_,.cells z.cells t,z.cells.toList.length,fun b=>.pointer (some ⟨b,0,none⟩),rfl,h2,fun ρ b W hw=>C40 hst2 h1 ρ b W (by simpa using hw),fun ρ b hb=>.ptr ⟨_,hb,by simp⟩,fun N ρ a W hsr=>?_⟩
   simp only[execOp,ho,Instr.alloc,Sem.run_bind,At1 hz,Result.andThen_ok,newVar]
   rfl
 ·cases hf
end
end
end Go.CE
namespace Go.CE
noncomputable section
open Go.AX (Ajj Aqt A2b Aos Ahf Ax6 Aug Awq Aqv)
section
variable {P:PT} {call:Asq} {n:Nat} {fr:Bool} {ops:Array Oper} {base:Nat→Prop} {ρ:Ren}
theorem Cu0{a:Act}{d:Tmp}{v:Value}(h:d<a.tmps.size):(a.put (some d) v).tmps.getD d undef=v:=by
 simp only[Act.put,Array.getD_eq_getD_getElem?,Array.getElem?_setIfInBounds,if_true]
 rw[if_pos h];rfl
theorem Buj{a:Act}{d:Option Tmp}{t:Tmp}{v:Value}(h:d≠some t):(a.put d v).tmps.getD t undef=a.tmps.getD t undef:=by
 cases d with
 |none=>rfl
 |some d=>
  simp only[Act.put,Array.getD_eq_getD_getElem?,Array.getElem?_setIfInBounds]
  rw[if_neg (fun e=>h (by rw[e]))]
theorem De4{a:Act}{d:Option Tmp}{v:Value}:(a.put d v).tmps.size=a.tmps.size:=by
 cases d with
 |none=>rfl
 |some d=>simp[Act.put]
theorem Del{a:Act}{d:Option Tmp}{v:Value}:(a.put d v).defers=a.defers:=by cases d<;>rfl
theorem C42:∀{l:List Oper} {i:Nat} {x:Oper×Nat},x∈l.zipIdx i→i≤x.2
 |[],_,_,h=>by simp at h
 |o::l,i,x,h=>by
  rw[List.zipIdx_cons]at h
  rcases List.mem_cons.1 h with rfl|h
  ·exact Nat.le_refl _
  ·have:=C42 h;omega
theorem Cp4:∀(l:List Oper) (i:Nat),(l.zipIdx i).Nodup
 |[],_=>by simp
 |o::l,i=>by
  rw[List.zipIdx_cons,List.nodup_cons]
  refine⟨fun h=>?_,Cp4 l (i+1)⟩
  have:=C42 h
  simp at this
  omega
theorem Bp8:(cl fr ops).Nodup:=by
 unfold cl
 have hz:=Cp4 ops.toList 0
 rw[List.nodup_append,List.nodup_append]
 refine⟨hz.filter _,⟨hz.filter _,hz.filter _,fun x hx y hy e=>?_⟩,fun x hx y hy e=>?_⟩
 ·subst e
  have h1:=(Ase.1 hx).2
  have h2:=(Bje.1 hy).2.1
  rw[h1]at h2;cases h2
 ·subst e
  obtain⟨_,h1,h2⟩:=Bc3.1 hx
  rcases List.mem_append.1 hy with h|h
  ·have:=(Ase.1 h).2
   rw[h1]at this;cases this
  ·have:=(Bje.1 h).2.2
   rw[h2]at this;cases this
theorem Bp9{α:Type}{p q p' q':List α}{x:α}(hnd:(p++x::q).Nodup)(h:p++x::q=p'++x::q'):p=p':=by
 rcases List.append_eq_append_iff.1 h with ⟨a,h1,h2⟩|⟨a,h1,h2⟩
 ·cases a with
  |nil=>simpa using h1.symm
  |cons y a=>
   rw[List.cons_append]at h2
   injection h2 with h3 h4
   exfalso
   rw[List.nodup_append]at hnd
   have:=(List.nodup_cons.1 hnd.2.1).1
   exact this (by rw[h4];simp)
 ·cases a with
  |nil=>simpa using h1
  |cons y a=>
   rw[List.cons_append]at h2
   injection h2 with h3 h4
   exfalso
   rw[h,List.nodup_append]at hnd
   have:=(List.nodup_cons.1 hnd.2.1).1
   exact this (by rw[h4];simp)
theorem Dcn{pre post:List (Oper×Nat)}{x:Oper×Nat}(e:cl fr ops=pre++x::post)(hx:x∈c1 fr ops):∀y,y∈pre→y∈c1 fr ops:=by
 obtain⟨p1,p2,h⟩:=List.append_of_mem hx
 have e2:cl fr ops=p1++x::(p2++(cf fr ops++c2 fr ops)):=by unfold cl;rw[h];simp
 have:=Bp9 (by rw[←e2];exact Bp8) (e2.symm.trans e)
 intro y hy
 rw[h,this];simp[hy]
theorem C0e{D D':Nat→Bool}(h:∀y,y∈cl fr ops→Aet fr y.1=true→D y.2=D' y.2):na fr ops D=na fr ops D':=C1y (q:=fun y=>Aet fr y.1) h
theorem B0z:∀{l:List (Oper×Nat)},(∀x,x∈l→isF fr x.1=true)→Al6 l=l.length
 |[],_=>rfl
 |x::l,h=>by
  have:=B0z (l:=l) fun y hy=>h y (List.mem_cons_of_mem _ hy)
  unfold Al6 at this ⊢
  rw[List.countP_cons,this]
  simp[B0y (h x (by simp))]
theorem Cfy(l m:List (Oper×Nat)):Al6 (l++m)=Al6 l+Al6 m:=List.countP_append ..
def Bxx(fr:Bool)(ops:Array Oper)(D:Nat→Bool):Prop:=∀x,x∈c1 fr ops→Acx x.1=false→D x.2=true
structure B61(P:PT)(base:Nat→Prop)(n:Nat)(fr:Bool)(ops:Array Oper)(ρ:Ren)(E0 E:Env)(Hs:List CH)(W0:World)(D:Nat→Bool)(a:Act)(W:World)(m:Nat)(pl:Nat→Nat)(ρ':Ren)(Hk:CH):Prop where
 le:ρ.le ρ'
 mle:m≤(cf fr ops).length
 mdone:∀x,x∈(cf fr ops).take m→D x.2=true
 mact:0<m→Bxx fr ops D
 at_:Hs[na fr ops D+m]? = some Hk
 hr:HR (fun b=>base b∨∃x,x∈(cf fr ops).drop m∧D x.2=true∧b=pl x.2) ρ' Hk W
 ext:Ext base W0 W
 size:a.tmps.size=n
 defers:a.defers=[]
 getN:∀t v,E0.get t=some v→(∀x,x∈cl fr ops→x.1.dst=some t→D x.2=false)→VR ρ' v (a.tmps.getD t undef)
 getW:∀t v x,x∈cl fr ops→x.1.dst=some t→D x.2=true→x∉(cf fr ops).drop m→E.get t=some v→VR ρ' v (a.tmps.getD t undef)
 fresh:∀x,x∈(cf fr ops).drop m→D x.2=true→∃d cb obj k w' R Hc w H1,x.1.dst=some d∧E.get d=some w∧Dcm P x.1 R Hc w H1 cb obj k w'∧(∀pre post,cl fr ops=pre++x::post→Hs[Al6 pre]? = some Hc∧Hs[Al6 pre+1]? = some H1)∧
  a.tmps.getD d undef=w' (pl x.2)∧W.heap[pl x.2]? = some obj
 inj:∀x y,x∈(cf fr ops).drop m→y∈(cf fr ops).drop m→D x.2=true→D y.2=true→pl x.2=pl y.2→x=y
 away:∀x,x∈(cf fr ops).drop m→D x.2=true→¬base (pl x.2)
 lates:∀y,y∈c2 fr ops→D y.2=true→Acx y.1=false→m=(cf fr ops).length
theorem B61.grow{E0 E:Env}{Hs:List CH}{W0 W:World}{D:Nat→Bool}{a:Act}{m:Nat}{pl:Nat→Nat}{ρ':Ren}{Hk:CH}(hi:B61 P base n fr ops ρ E0 E Hs W0 D a W m pl ρ' Hk)(hm:m<(cf fr ops).length)(hd:D ((cf fr ops)[m]).2=true)(hc:Bxx fr ops D) :
  ∃ρ2 H2,B61 P base n fr ops ρ E0 E Hs W0 D a W (m+1) pl ρ2 H2:=by
 have hdrop:(cf fr ops).drop m=(cf fr ops)[m]::(cf fr ops).drop (m+1):=List.drop_eq_getElem_cons hm
 have hcf:cf fr ops=(cf fr ops).take m++(cf fr ops)[m]::(cf fr ops).drop (m+1):=by rw[←hdrop,List.take_append_drop]
 have hx:(cf fr ops)[m]∈cf fr ops:=List.getElem_mem hm
 have hxd:(cf fr ops)[m]∈(cf fr ops).drop m:=by rw[hdrop];exact List.mem_cons_self ..
 generalize hxe:(cf fr ops)[m]=x at *
 have sub:∀y,y∈(cf fr ops).drop (m+1)→y∈(cf fr ops).drop m:=fun y hy=>by rw[hdrop];exact List.mem_cons_of_mem _ hy
 have incf:∀y,y∈(cf fr ops).drop m→y∈cf fr ops:=fun y hy=>List.mem_of_mem_drop hy
 have hnd:(cf fr ops).Nodup:=by
  have:=(Bp8 (fr:=fr) (ops:=ops))
  unfold cl at this
  rw[List.nodup_append,List.nodup_append]at this
  exact this.2.1.1
 have hxn:x∉(cf fr ops).drop (m+1):=fun h=>by
  rw[hcf,List.nodup_append]at hnd
  exact (List.nodup_cons.1 hnd.2.1).1 h
 have hcl:cl fr ops=(c1 fr ops++(cf fr ops).take m)++x::((cf fr ops).drop (m+1)++c2 fr ops):=by
  have e:cl fr ops=c1 fr ops++(((cf fr ops).take m++x::(cf fr ops).drop (m+1))++c2 fr ops):=by rw[←hcf];rfl
  rw[e];simp
 have hacts:Al6 (c1 fr ops++(cf fr ops).take m)=Al6 (c1 fr ops)+m:=by
  rw[Cfy,B0z (fr:=fr) (l:=(cf fr ops).take m) fun y hy=>(Ase.1 (List.mem_of_mem_take hy)).2,List.length_take]
  omega
 have na_eq:na fr ops D=Al6 (c1 fr ops):=by
  unfold na cl Al6
  rw[List.countP_append,List.countP_append]
  have e1:(c1 fr ops).countP (fun x=>Aet fr x.1&&D x.2)=(c1 fr ops).countP (fun x => !Acx x.1):=by
   apply List.countP_congr
   intro y hy
   have:Aet fr y.1 = !Acx y.1:=by simp[Aet,(Bc3.1 hy).2.1]
   rw[this]
   cases hr:Acx y.1 with
   |true=>simp
   |false=>simp[hc y hy hr]
  have e2:(cf fr ops).countP (fun x=>Aet fr x.1&&D x.2)=0:=by
   rw[List.countP_eq_zero]
   intro y hy
   simp[Aet,(Ase.1 hy).2]
  have e3:(c2 fr ops).countP (fun x=>Aet fr x.1&&D x.2)=0:=by
   rw[List.countP_eq_zero]
   intro y hy hh
   simp only[Bool.and_eq_true]at hh
   have:=hi.lates y hy hh.2 (Cfx hh.1).1
   omega
  rw[e1,e2,e3];omega
 obtain⟨d,cb,obj,k,w',R,Hc,w,H1,f1,f2,f3,f4,f5,f6⟩:=hi.fresh x hxd hd
 obtain⟨g1,g2⟩:=f4 _ _ hcl
 rw[hacts]at g1 g2
 have hat:=hi.at_
 rw[na_eq,g1]at hat
 cases hat
 obtain⟨hle2,hr2⟩:=hi.hr.adopt (b:=pl x.2) (n:=k) (cb:=cb) (.inr ⟨x,hxd,hd,rfl⟩) (fun ρ'=>f3.br ρ' _ W f6) f3.next
 refine⟨_,H1,⟨hi.le.trans hle2,hm,fun y hy=>?_,fun _=>hc,by rw[na_eq,←Nat.add_assoc];exact g2,?_,hi.ext,hi.size,hi.defers,fun t v e hw=>(hi.getN t v e hw).mono hle2,fun t v y hy hyd hD hn hE=>?_,fun y hy=>hi.fresh y (sub y hy),fun y z hy hz=>hi.inj y z (sub y hy) (sub z hz),fun y hy=>hi.away y (sub y hy),fun y hy h1 h2=>?_⟩⟩
 ·rw[List.take_add_one,List.mem_append]at hy
  rcases hy with hy|hy
  ·exact hi.mdone y hy
  ·rw[List.getElem?_eq_getElem hm,hxe]at hy
   simp at hy
   rw[hy];exact hd
 ·rw[f3.heap]
  refine hr2.congr fun b=>?_
  constructor
  ·rintro (h|⟨y,hy,hyD,rfl⟩)
   ·exact⟨.inl h,fun e'=>hi.away x hxd hd (by rw[←e'];exact h)⟩
   ·refine⟨.inr ⟨y,sub y hy,hyD,rfl⟩,fun e'=>?_⟩
    have:=hi.inj y x (sub y hy) hxd hyD hd e'
    subst this
    exact hxn hy
  ·rintro⟨h|⟨y,hy,hyD,rfl⟩,hne⟩
   ·exact .inl h
   ·rw[hdrop]at hy
    rcases List.mem_cons.1 hy with rfl|hy
    ·exact absurd rfl hne
    ·exact .inr ⟨y,hy,hyD,rfl⟩
 ·by_cases hyx:y=x
  ·subst hyx
   rw[f1]at hyd;cases hyd
   rw[f2]at hE;cases hE
   rw[f5]
   exact f3.val _ _ (by simp[Ren.put])
  ·refine (hi.getW t v y hy hyd hD (fun h=>?_) hE).mono hle2
   rw[hdrop]at h
   rcases List.mem_cons.1 h with h|h
   ·exact hyx h
   ·exact hn h
 ·have:=hi.lates y hy h1 h2
  omega
theorem B61.promote{E0 E:Env}{Hs:List CH}{W0 W:World}{D:Nat→Bool}{a:Act}{pl:Nat→Nat}:∀(j m:Nat) {ρ':Ren} {Hk:CH},(cf fr ops).length≤m+j→B61 P base n fr ops ρ E0 E Hs W0 D a W m pl ρ' Hk→
  ∃m' ρ2 H2,B61 P base n fr ops ρ E0 E Hs W0 D a W m' pl ρ2 H2∧(Bxx fr ops D→∀p q,cf fr ops=p++q→(∀x,x∈p→D x.2=true)→p.length≤m')
 |0,m,ρ',Hk,hj,hi=>⟨m,ρ',Hk,hi,fun _ p q e _=>by
  have:=congrArg List.length e
  simp at this
  omega⟩
 |j+1,m,ρ',Hk,hj,hi=>by
  by_cases hm:m<(cf fr ops).length
  ·by_cases hd:Bxx fr ops D∧D ((cf fr ops)[m]).2=true
   ·obtain⟨ρ2,H2,h2⟩:=hi.grow hm hd.2 hd.1
    exact B61.promote j (m+1) (by omega) h2
   ·refine⟨m,ρ',Hk,hi,fun hc p q e hp=>?_⟩
    rcases Nat.lt_or_ge m p.length with h|h
    ·exfalso
     refine hd ⟨hc,hp _ ?_⟩
     have:(cf fr ops)[m]=p[m]:=by
      have h1:(cf fr ops)[m]? = p[m]?:=by rw[e,List.getElem?_append_left h]
      rw[List.getElem?_eq_getElem hm,List.getElem?_eq_getElem h]at h1
      exact Option.some.inj h1
     rw[this];exact List.getElem_mem h
    ·exact h
  ·refine⟨m,ρ',Hk,hi,fun _ p q e _=>?_⟩
   have:=congrArg List.length e
   simp at this
   omega
end
end
end Go.CE
namespace Go.CE
noncomputable section
open Go.AX (Ajj Aqt A2b Aos Ahf Ax6 Aug Awq Aqv)
section
variable {P:PT} {call:Asq} {n:Nat} {fr:Bool} {ops:Array Oper} {base:Nat→Prop}
theorem Ext.weaken{K:Nat→Prop}{W W':World}(h:Ext K W W')(hk:∀b,base b→K b):Ext base W W':=⟨h.os,h.tape,h.output,h.size,fun b hb=>h.frame b (hk b hb)⟩
theorem Clt(hst:C1x fr ops)(hcall:∀K,A9f P K call){ρ:Ren}{E0 E:Env}{H:CH}{hs:List CH}{ws:List (Env×Value)}(hseq:Bp6 P call n ops (cl fr ops) E0 H=some (E,hs,ws))(hdyn:Bug P call fr ops (H::hs) (cl fr ops) ws=true){W0:World}{Q:Exit→Act→World→Prop}(hQ:∀ρ' a' W',ρ.le ρ'→HR base ρ' ((H::hs).getLast (List.cons_ne_nil _ _)) W'→SR n ρ' E a'→Ext base W0 W'→Q .normal a' W') :
  ∀(fuel:Nat) (listed:Array Bool) (a:Act) (W:World),listed.size=ops.size→(List.range ops.size).countP (fun k => !listed.getD k false)≤fuel→
   (∀(j:Nat) (o:Oper),ops[j]? = some o→listed.getD j false=true→∀e,e∈o.after→Region.binds .any e=true→listed.getD e.on false=true)→
   (∃m pl ρ' Hk,B61 P base n fr ops ρ E0 E (H::hs) W0 (fun k=>listed.getD k false) a W m pl ρ' Hk)→wpAny P .any ops Q fuel listed a W:=by
 have hlen:=Cuw hseq
 have known:∀(D:Nat→Bool) (a:Act) (W:World),(∃m pl ρ' Hk,B61 P base n fr ops ρ E0 E (H::hs) W0 D a W m pl ρ' Hk)→∃m pl ρ' Hk,B61 P base n fr ops ρ E0 E (H::hs) W0 D a W m pl ρ' Hk∧(Bxx fr ops D→∀p q,cf fr ops=p++q→(∀x,x∈p→D x.2=true)→p.length≤m):=by
  rintro D a W ⟨m,pl,ρ',Hk,hi⟩
  obtain⟨m',ρ2,H2,h1,h2⟩:=hi.promote (cf fr ops).length m (by omega)
  exact⟨m',pl,ρ2,H2,h1,h2⟩
 have fin:∀(listed:Array Bool) (a:Act) (W:World),listed.size=ops.size→Region.ready .any ops listed=[]→(∃m pl ρ' Hk,B61 P base n fr ops ρ E0 E (H::hs) W0 (fun k=>listed.getD k false) a W m pl ρ' Hk)→Q .normal a W:=by
  intro listed a W hsz hr hi0
  have key:∀m j,j<m→j<ops.size→listed.getD j false=true:=by
   intro m
   induction m with
   |zero=>intro j h;omega
   |succ m ih=>
    intro j hjm hj
    cases e:listed.getD j false with
    |true=>rfl
    |false=>
     exfalso
     have hmem:j∈Region.ready .any ops listed:=by
      rw[mem_ready]
      refine⟨?_,ops[j],by simp[hj],fun e' he hb'=>?_⟩
      ·rw[Aqv (by omega)];exact e
      ·have hoj:ops[j]? = some ops[j]:=by simp[hj]
       have:=Aug hst.edge hoj e' he hb'
       exact ih _ (by omega) (by omega)
     rw[hr]at hmem;simp at hmem
  have all:∀x,x∈cl fr ops→listed.getD x.2 false=true:=fun x hx=>key (x.2+1) x.2 (by omega) (Array.getElem?_eq_some_iff.1 (Bjf.1 hx)).1
  obtain⟨m,pl,ρ',Hk,hi,hmax⟩:=known _ _ _ hi0
  have hm:m=(cf fr ops).length:=by
   have:=hmax (fun x hx _=>all x (C83 hx)) (cf fr ops) [] (by simp) fun x hx=>all x (A3i hx)
   have:=hi.mle
   omega
  have hempty:(cf fr ops).drop m=[]:=by rw[hm];simp
  have hn:na fr ops (fun k=>listed.getD k false)+m=hs.length:=by
   rw[hlen,hm]
   have e1:na fr ops (fun k=>listed.getD k false)=(cl fr ops).countP fun x=>Aet fr x.1:=by
    unfold na
    apply List.countP_congr
    intro x hx
    simp only[all x hx];simp
   rw[e1]
   unfold Al6 cl
   rw[List.countP_append,List.countP_append,List.countP_append,List.countP_append]
   have e2:(c1 fr ops).countP (fun x=>Aet fr x.1)=(c1 fr ops).countP (fun x => !Acx x.1):=by
    apply List.countP_congr
    intro x hx
    simp[Aet,(Bc3.1 hx).2.1]
   have e3:(cf fr ops).countP (fun x=>Aet fr x.1)=0:=by
    rw[List.countP_eq_zero]
    intro x hx
    simp[Aet,(Ase.1 hx).2]
   have e4:(cf fr ops).countP (fun x => !Acx x.1)=(cf fr ops).length:=by
    rw[List.countP_eq_length]
    intro x hx
    simp[B0y (Ase.1 hx).2]
   have e5:(c2 fr ops).countP (fun x=>Aet fr x.1)=(c2 fr ops).countP (fun x => !Acx x.1):=by
    apply List.countP_congr
    intro x hx
    simp[Aet,(Bje.1 hx).2.1]
   rw[e2,e3,e4,e5];omega
  have hlast:Hk=(H::hs).getLast (List.cons_ne_nil _ _):=by
   have h1:=hi.at_
   rw[hn]at h1
   have h2:(H::hs)[hs.length]? = some ((H::hs).getLast (List.cons_ne_nil _ _)):=by
    rw[List.getLast_eq_getElem,List.getElem?_eq_getElem (by simp)]
    simp
   rw[h2]at h1;cases h1;rfl
  have hr:HR base ρ' Hk W:=hi.hr.congr fun b=>by rw[hempty];simp
  rw[hlast]at hr
  refine hQ ρ' a W hi.le hr ⟨hi.size,fun t v e=>?_,hi.defers⟩ hi.ext
  by_cases hw:∃x,x∈cl fr ops∧x.1.dst=some t
  ·obtain⟨x,hx,hd⟩:=hw
   exact hi.getW t v x hx hd (all x hx) (by rw[hempty];simp) e
  ·refine hi.getN t v ?_ fun x hx hd=>absurd ⟨x,hx,hd⟩ hw
   rw[←e]
   exact (B0x hseq t fun x hx hd=>hw ⟨x,hx,hd⟩).symm
 intro fuel
 induction fuel with
 |zero=>
  intro listed a W hsz hcnt hdown hl
  have hr:Region.ready .any ops listed=[]:=by
   apply List.eq_nil_iff_forall_not_mem.2
   intro j hj
   obtain⟨h1,o,ho,_⟩:=mem_ready.1 hj
   have hj':j<ops.size:=(Array.getElem?_eq_some_iff.1 ho).1
   have:(List.range ops.size).countP (fun k => !listed.getD k false)=0:=by omega
   have:=List.countP_eq_zero.1 this j (List.mem_range.2 hj')
   rw[Aqv (by omega)]at h1
   rw[h1]at this;exact this rfl
  exact⟨hr,fin listed a W hsz hr hl⟩
 |succ fuel ih=>
  intro listed a W hsz hcnt hdown hl0
  refine⟨fun hr=>fin listed a W hsz hr hl0,fun j hj=>?_⟩
  obtain⟨m,pl,ρ',Hk,hl,hmax⟩:=known _ _ _ hl0
  obtain⟨hnl,o,ho,hready⟩:=mem_ready.1 hj
  have hj':j<ops.size:=(Array.getElem?_eq_some_iff.1 ho).1
  have hjl:j<listed.size:=by omega
  have hnl:listed.getD j false=false:=by rw[Aqv hjl]at hnl;exact hnl
  have hbef:∀x,Agc ops x j=true→listed.getD x false=true:=fun x hx=>
   Ax6 (D:=fun k=>listed.getD k false) hdown (j+1) j (by omega) _ ho hready x (Cuv hx)
  have hlater:∀y,y∈cl fr ops→listed.getD y.2 false=true→¬Agc ops j y.2=true:=by
   intro y hy hil hm
   have hp:=Bjf.1 hy
   have:=Ax6 (D:=fun k=>listed.getD k false) hdown (y.2+1) y.2 (by omega) _ hp (fun e he hb'=>hdown _ _ hp hil e he hb') _ (Cuv hm)
   rw[hnl]at this;cases this
  have hx:(o,j)∈cl fr ops:=Bjf.2 ho
  obtain⟨pre,post,hsp⟩:=List.append_of_mem hx
  have hnd:(pre++(o,j)::post).Nodup:=by rw[←hsp];exact Bp8
  have hseq':=hseq
  rw[hsp]at hseq'
  obtain⟨Ej,Hj,w,H1,g1,g2,g3,g4,g5,g6,g7⟩:=C0d hseq'
  have memp:∀y,y∈pre→y∈cl fr ops:=fun y hy=>by rw[hsp];simp[hy]
  have memq:∀y,y∈post→y∈cl fr ops:=fun y hy=>by rw[hsp];simp[hy]
  have xnp:(o,j)∉pre:=fun h=>by
   rw[List.nodup_append]at hnd
   exact hnd.2.2 _ h _ (by simp) rfl
  have xnq:(o,j)∉post:=fun h=>by
   rw[List.nodup_append]at hnd
   exact (List.nodup_cons.1 hnd.2.1).1 h
  have pnq:∀y,y∈pre→y∉post:=fun y h1 h2=>by
   rw[List.nodup_append]at hnd
   exact hnd.2.2 y h1 y (by simp[h2]) rfl
  have hE:∀d,o.dst=some d→E.get d=some w:=fun d hd=>(g5 d hd).2.2 fun y hy he=>(hst.pair hsp y hy).dst d hd he
  have other:∀k,k≠j→(listed.setIfInBounds j true).getD k false=listed.getD k false:=fun k hk=>getD_set_ne false (Ne.symm hk)
  have self:(listed.setIfInBounds j true).getD j false=true:=by simp[hjl]
  have idx:∀y,y∈cl fr ops→y≠(o,j)→y.2≠j:=fun y hy hne e=>hne (Dck hy hx e)
  have incf:∀y,y∈(cf fr ops).drop m→y∈cf fr ops:=fun y hy=>List.mem_of_mem_drop hy
  have early:∀y,y∈cf fr ops→Agc ops y.2 j=true→y∈(cf fr ops).take m:=by
   intro y hy hb
   have hx2:(o,j)∈c2 fr ops:=by
    have hlt:=Cqh (y:=(o,j)) hy hb
    rcases Cuy hx with h|h|h
    ·rw[(Bc3.1 h).2.2]at hlt;cases hlt
    ·rw[hst.fresh _ h]at hlt;cases hlt
    ·exact h
   obtain⟨p,q,h1,h2,h3⟩:=B6z (hst.first _ hx2)
   have hc1:Bxx fr ops (fun k=>listed.getD k false):=fun x hxc hr=>hbef _ (hst.acts1 _ hx2 x hxc hr)
   have hlen2:=hmax hc1 p q h1 fun x hxp=>hbef _ (h2 x hxp)
   have hyp:y∈p:=by
    rw[h1]at hy
    rcases List.mem_append.1 hy with h|h
    ·exact h
    ·have:=h3 y h;rw[this]at hb;cases hb
   rw[h1,List.take_append]
   refine List.mem_append.2 (.inl ?_)
   rw[List.take_of_length_le hlen2];exact hyp
  have hcfnd:(cf fr ops).Nodup:=by
   have:=(Bp8 (fr:=fr) (ops:=ops))
   unfold cl at this
   rw[List.nodup_append,List.nodup_append]at this
   exact this.2.1.1
  have apart:∀y,y∈(cf fr ops).take m→y∉(cf fr ops).drop m:=by
   intro y h1 h2
   have:=hcfnd
   rw[←List.take_append_drop m (cf fr ops),List.nodup_append]at this
   exact this.2.2 y h1 y h2 rfl
  have hsr:SR n ρ' (A7d Ej (Ajj ops o)) a:=by
   refine⟨hl.size,fun t v ht=>?_,hl.defers⟩
   obtain⟨h1,h2⟩:=B6w ht
   by_cases hw:∃y,y∈cl fr ops∧y.1.dst=some t
   ·obtain⟨y,hy,hd⟩:=hw
    have uniq:∀z,z∈cl fr ops→z.1.dst=some t→z=y:=fun z hz hzd=>hst.dstU hz hy hzd hd
    have late:y∉pre→listed.getD y.2 false=false→VR ρ' v (a.tmps.getD t undef):=fun hyp hyd=>by
     refine hl.getN t v ?_ fun z hz hzd=>by rw[uniq z hz hzd];exact hyd
     rw[←g6 t fun z hz hzd=>hyp (by rw[←uniq z (memp z hz) hzd];exact hz)]
     exact h1
    by_cases hyx:y=(o,j)
    ·subst hyx;exact late xnp hnl
    ·have hy':=hy
     rw[hsp]at hy'
     rcases List.mem_append.1 hy' with hyp|hyq
     ·have hb:=(hst.pre hsp y hyp).xu t hd h2
      refine hl.getW t v y hy hd (hbef _ hb) (fun hp=>apart y (early y (incf y hp) hb) hp) ?_
      rw[g4 t fun z hz hzd=>?_]
      ·exact h1
      ·rcases List.mem_cons.1 hz with rfl|hz
       ·exact hyx (uniq _ hx hzd).symm
       ·exact pnq y hyp (by rw[←uniq z (memq z hz) hzd];exact hz)
     ·rcases List.mem_cons.1 hyq with e|hyq
      ·exact absurd e hyx
      ·refine late (fun h=>pnq y h hyq) ?_
       have hb:=(hst.pair hsp y hyq).yu t hd h2
       cases hil:listed.getD y.2 false with
       |false=>rfl
       |true=>exact absurd hb (hlater y hy hil)
   ·refine hl.getN t v ?_ fun y hy hyd=>absurd ⟨y,hy,hyd⟩ hw
    rw[←g6 t fun y hy hyd=>hw ⟨y,memp y hy,hyd⟩]
    exact h1
  have hcnt':(List.range ops.size).countP (fun k => !(listed.setIfInBounds j true).getD k false)≤fuel:=by
   have:=Awq (D:=fun k=>listed.getD k false) (D':=fun k=>(listed.setIfInBounds j true).getD k false) (j:=j) (fun k hk=>getD_set_true hk) (by simp[hjl]) hnl (List.range ops.size) (List.mem_range.2 hj')
   omega
  have hdown':∀(k:Nat) (p:Oper),ops[k]? = some p→(listed.setIfInBounds j true).getD k false=true→∀e,e∈p.after→Region.binds .any e=true→(listed.setIfInBounds j true).getD e.on false=true:=by
   intro k ok hk hkl e he hb'
   apply getD_set_true
   by_cases e1:k=j
   ·subst e1;rw[ho]at hk;cases hk;exact hready e he hb'
   ·rw[getD_set_ne false (Ne.symm e1)]at hkl
    exact hdown k ok hk hkl e he hb'
  have hsz':(listed.setIfInBounds j true).size=ops.size:=by simp[hsz]
  have hgetN:∀(ρ2:Ren) (v':Value),ρ'.le ρ2→∀t u,E0.get t=some u→(∀x,x∈cl fr ops→x.1.dst=some t→(listed.setIfInBounds j true).getD x.2 false=false)→VR ρ2 u ((a.put o.dst v').tmps.getD t undef):=by
   intro ρ2 v' hle2 t u hu hall
   have hd:o.dst≠some t:=fun hd=>by
    have:=hall _ hx hd
    rw[self]at this;cases this
   rw[Buj hd]
   refine (hl.getN t u hu fun y hy hyd=>?_).mono hle2
   have:=hall y hy hyd
   rwa [other _ (idx y hy fun e=>by subst e;exact hd hyd)]at this
  have hgetW:∀(ρ2:Ren) (v':Value),ρ'.le ρ2→(isF fr o=true∨VR ρ2 w v')→∀t u y,y∈cl fr ops→y.1.dst=some t→(listed.setIfInBounds j true).getD y.2 false=true→y∉(cf fr ops).drop m→(isF fr o=true→(o,j)∈(cf fr ops).drop m)→E.get t=some u→VR ρ2 u ((a.put o.dst v').tmps.getD t undef):=by
   intro ρ2 v' hle2 hvv t u y hy hyd hD hn hF hu
   by_cases hd:o.dst=some t
   ·have:y=(o,j):=hst.dstU hy hx hyd hd
    subst this
    have hut:u=w:=by
     have:=hE t hd
     rw[hu]at this;cases this;rfl
    rw[hd,Cu0 (by rw[hl.size];exact (g5 t hd).1),hut]
    rcases hvv with h|h
    ·exact absurd (hF h) hn
    ·exact h
   ·rw[Buj hd]
    rw[other _ (idx y hy fun e=>by subst e;exact hd hyd)]at hD
    exact (hl.getW t u y hy hyd hD hn hu).mono hle2
  have back:∀x,x∈cf fr ops→isF fr o=false→(listed.setIfInBounds j true).getD x.2 false=listed.getD x.2 false:=by
   intro x hxc hF
   exact other _ (idx x (A3i hxc) fun e=>by subst e;have:=(Ase.1 hxc).2;rw[hF]at this;cases this)
  unfold wpOp
  rw[ho]
  simp only
  cases hF:isF fr o with
  |true=>
   have hxc:(o,j)∈cf fr ops:=Ase.2 ⟨ho,hF⟩
   have hxd:(o,j)∈(cf fr ops).drop m:=by
    have h1:=hxc
    rw[←List.take_append_drop m (cf fr ops)]at h1
    rcases List.mem_append.1 h1 with h|h
    ·have:=hl.mdone _ h;simp only at this;rw[hnl]at this;cases this
    ·exact h
   obtain⟨cb,obj,k,w',hsl⟩:=C10 (B60 hF) g2
   have hguard:o.guard=none∧∃d,o.dst=some d:=by
    have:=B60 hF
    unfold Bcb at this
    split at this
    ·rename_i _ hg hd;exact⟨hg,_,hd⟩
    ·rename_i _ hg hd;exact⟨hg,_,hd⟩
    ·cases this
   obtain⟨hg,d,hd⟩:=hguard
   have hwant:Region.wanted o (yielded ops a.tmps)=true:=by unfold Region.wanted;rw[hg]
   rw[if_pos hwant]
   refine .inl ?_
   unfold Oper.wp
   rw[hsl.run n ρ' a W hsr,Oper.upon_value]
   refine ih _ _ _ hsz' hcnt' hdown' ⟨m,fun i=>if i=j then W.heap.size else pl i,ρ',Hk,?_⟩
   have plo:∀x,x∈cf fr ops→x≠(o,j)→(if x.2=j then W.heap.size else pl x.2)=pl x.2:=fun x h1 h2=>if_neg (idx x (A3i h1) h2)
   have hKlt:∀x,x∈(cf fr ops).drop m→listed.getD x.2 false=true→pl x.2<W.heap.size:=fun x h1 h2=>hl.hr.base _ (.inr ⟨x,h1,h2,rfl⟩)
   refine⟨hl.le,hl.mle,fun x hx1=>getD_set_true (hl.mdone x hx1),fun h x hx1 hr=>getD_set_true (hl.mact h x hx1 hr),?_,?_,⟨hl.ext.os,hl.ext.tape,hl.ext.output,by have:=hl.ext.size;simp;omega,fun b hb=>?_⟩,De4.trans hl.size,Del.trans hl.defers,hgetN ρ' _ (.refl _),fun t u y hy hyd hD hn hu=>hgetW ρ' _ (.refl _) (.inl hF) t u y hy hyd hD hn (fun _=>hxd) hu,fun x hxf hD=>?_,fun x y h1 h2 h3 h4 h5=>?_,fun x hxf hD=>?_,fun y hy hD hr=>?_⟩
   ·have hat:=hl.at_
    rw[←hat]
    have:na fr ops (fun k=>(listed.setIfInBounds j true).getD k false)=na fr ops (fun k=>listed.getD k false):=C0e (D:=fun k=>(listed.setIfInBounds j true).getD k false) (D':=fun k=>listed.getD k false) fun y hy hq=>by
     have:=(Cfx hq).2
     refine other _ (idx y hy fun e=>?_)
     subst e;rw[hF]at this;cases this
    rw[this]
   ·refine hl.hr.garbage (fun b h=>?_) _
    rcases h with h|⟨x,h1,h2,h3⟩
    ·exact .inl (.inl h)
    ·by_cases hne:x=(o,j)
     ·subst hne;simp at h3;exact .inr h3
     ·rw[other _ (idx x (A3i (incf x h1)) hne)]at h2
      rw[plo x (incf x h1) hne]at h3
      exact .inl (.inr ⟨x,h1,h2,h3⟩)
   ·have h1:=hl.hr.base b (.inl hb)
    show (W.heap.push _)[b]? = _
    rw[Array.getElem?_push,if_neg (by omega)]
    exact hl.ext.frame b hb
   ·by_cases hne:x=(o,j)
    ·subst hne
     refine⟨d,cb,obj,k,w',_,Hj,w,H1,hd,hE d hd,hsl,fun pre' post' e'=>?_,?_,?_⟩
     ·have:=Bp9 hnd (hsp.symm.trans e')
      rw[←this]
      exact⟨g1,g3 (B0y hF)⟩
     ·simp only[if_true]
      rw[hd,Cu0 (by rw[hl.size];exact (g5 d hd).1)]
     ·simp
    ·rw[other _ (idx x (A3i (incf x hxf)) hne)]at hD
     obtain⟨d',cb',obj',k',w'',R,Hc,w1,H1',f1,f2,f3,f4,f5,f6⟩:=hl.fresh x hxf hD
     refine⟨d',cb',obj',k',w'',R,Hc,w1,H1',f1,f2,f3,f4,?_,?_⟩
     ·rw[plo x (incf x hxf) hne,Buj fun hd'=>hne (hst.dstU (A3i (incf x hxf)) hx f1 hd')];exact f5
     ·have:=hKlt x hxf hD
      rw[plo x (incf x hxf) hne]
      show (W.heap.push _)[pl x.2]? = _
      rw[Array.getElem?_push,if_neg (by omega)];exact f6
   ·by_cases n1:x=(o,j)<;>by_cases n2:y=(o,j)
    ·rw[n1,n2]
    ·rw[other _ (idx y (A3i (incf y h2)) n2)]at h4
     have:=hKlt y h2 h4
     rw[plo y (incf y h2) n2,n1]at h5
     simp at h5
     omega
    ·rw[other _ (idx x (A3i (incf x h1)) n1)]at h3
     have:=hKlt x h1 h3
     rw[plo x (incf x h1) n1,n2]at h5
     simp at h5
     omega
    ·rw[other _ (idx x (A3i (incf x h1)) n1)]at h3
     rw[other _ (idx y (A3i (incf y h2)) n2)]at h4
     rw[plo x (incf x h1) n1,plo y (incf y h2) n2]at h5
     exact hl.inj x y h1 h2 h3 h4 h5
   ·by_cases hne:x=(o,j)
    ·subst hne
     simp only[if_true]
     intro hb
     have:=hl.hr.base _ (.inl hb)
     omega
    ·rw[other _ (idx x (A3i (incf x hxf)) hne)]at hD
     rw[plo x (incf x hxf) hne]
     exact hl.away x hxf hD
   ·have hne:y≠(o,j):=fun e=>by subst e;have:=(Bje.1 hy).2.1;rw[hF]at this;cases this
    rw[other _ (idx y (C1w hy) hne)]at hD
    exact hl.lates y hy hD hr
  |false=>
   have hfin:Acx o=false→(o,j)∈c2 fr ops→m=(cf fr ops).length:=fun hr hx2=>by
    have:=hmax (fun x hxc hrr=>hbef _ (hst.acts1 _ hx2 x hxc hrr)) (cf fr ops) [] (by simp) fun x hxc=>hbef _ (hst.acts2 _ hx2 hr x hxc)
    have:=hl.mle
    omega
   have hval:∃H2,Awt P call ops o (A7d Ej (Ajj ops o)) Hk=some (w,H2)∧(H::hs)[na fr ops (fun k=>(listed.setIfInBounds j true).getD k false)+m]? = some H2:=by
    cases hr:Acx o with
    |true=>
     have hz:(cl fr ops)[pre.length]? = some (o,j):=by rw[hsp];simp
     have split3:∀q:Oper×Nat→Bool,(cl fr ops).countP q=(c1 fr ops).countP q+((cf fr ops).countP q+(c2 fr ops).countP q):=fun q=>by unfold cl;rw[List.countP_append,List.countP_append]
     have split4:∀q:Oper×Nat→Bool,(cf fr ops).countP q=((cf fr ops).take m).countP q+((cf fr ops).drop m).countP q:=fun q=>by
      rw[←List.countP_append,List.take_append_drop]
     have cf0:∀q:Oper×Nat→Bool,(cf fr ops).countP (fun x=>Aet fr x.1&&q x)=0:=fun q=>by
      rw[List.countP_eq_zero]
      intro x hxf
      simp[Aet,(Ase.1 hxf).2]
     have c1q:∀x,x∈c1 fr ops→Aet fr x.1 = !Acx x.1:=fun x hxf=>by simp[Aet,(Bc3.1 hxf).2.1]
     have c2q:∀x,x∈c2 fr ops→Aet fr x.1 = !Acx x.1:=fun x hxf=>by simp[Aet,(Bje.1 hxf).2.1]
     have hlo:Bjd fr ops j≤na fr ops (fun k=>listed.getD k false)+m:=by
      unfold Bjd nn na
      rw[split3,split3,cf0,split4]
      show (c1 fr ops).countP (fun x => !Acx x.1&&Agc ops x.2 j)+(((cf fr ops).take m).countP (fun x => !Acx x.1&&Agc ops x.2 j)+((cf fr ops).drop m).countP (fun x => !Acx x.1&&Agc ops x.2 j)+(c2 fr ops).countP (fun x => !Acx x.1&&Agc ops x.2 j))≤(c1 fr ops).countP (fun x=>Aet fr x.1&&listed.getD x.2 false)+(0+(c2 fr ops).countP (fun x=>Aet fr x.1&&listed.getD x.2 false))+m
      have a1:(c1 fr ops).countP (fun x => !Acx x.1&&Agc ops x.2 j)≤(c1 fr ops).countP (fun x=>Aet fr x.1&&listed.getD x.2 false):=A7e (q:=fun x => !Acx x.1) (q':=fun x=>Aet fr x.1) (D:=fun i=>Agc ops i j) (D':=fun k=>listed.getD k false) fun y hy hq hd=>⟨by rw[c1q y hy];exact hq,hbef _ hd⟩
      have a2:(c2 fr ops).countP (fun x => !Acx x.1&&Agc ops x.2 j)≤(c2 fr ops).countP (fun x=>Aet fr x.1&&listed.getD x.2 false):=A7e (q:=fun x => !Acx x.1) (q':=fun x=>Aet fr x.1) (D:=fun i=>Agc ops i j) (D':=fun k=>listed.getD k false) fun y hy hq hd=>⟨by rw[c2q y hy];exact hq,hbef _ hd⟩
      have a3:((cf fr ops).drop m).countP (fun x => !Acx x.1&&Agc ops x.2 j)=0:=by
       rw[List.countP_eq_zero]
       intro y hy hh
       simp only[Bool.and_eq_true]at hh
       exact apart y (early y (incf y hy) hh.2) hy
      have a4:((cf fr ops).take m).countP (fun x => !Acx x.1&&Agc ops x.2 j)≤m:=Nat.le_trans List.countP_le_length (by rw[List.length_take];omega)
      omega
     have hhi:na fr ops (fun k=>listed.getD k false)+m≤B6v fr ops j:=by
      have nb:∀y,y∈cl fr ops→listed.getD y.2 false=true→(!Agc ops j y.2)=true:=fun y hy hd=>by
       cases hm:Agc ops j y.2 with
       |false=>rfl
       |true=>exact absurd hm (hlater y hy hd)
      unfold B6v nn na
      rw[split3,split3,cf0,split4]
      show (c1 fr ops).countP (fun x=>Aet fr x.1&&listed.getD x.2 false)+(0+(c2 fr ops).countP (fun x=>Aet fr x.1&&listed.getD x.2 false))+m≤(c1 fr ops).countP (fun x => !Acx x.1 && !Agc ops j x.2)+(((cf fr ops).take m).countP (fun x => !Acx x.1 && !Agc ops j x.2)+((cf fr ops).drop m).countP (fun x => !Acx x.1 && !Agc ops j x.2)+(c2 fr ops).countP (fun x => !Acx x.1 && !Agc ops j x.2))
      have a1:(c1 fr ops).countP (fun x=>Aet fr x.1&&listed.getD x.2 false)≤(c1 fr ops).countP (fun x => !Acx x.1 && !Agc ops j x.2):=A7e (q:=fun x=>Aet fr x.1) (q':=fun x => !Acx x.1) (D:=fun k=>listed.getD k false) (D':=fun i => !Agc ops j i) fun y hy hq hd=>⟨by rw[←c1q y hy];exact hq,nb y (C83 hy) hd⟩
      have a2:(c2 fr ops).countP (fun x=>Aet fr x.1&&listed.getD x.2 false)≤(c2 fr ops).countP (fun x => !Acx x.1 && !Agc ops j x.2):=A7e (q:=fun x=>Aet fr x.1) (q':=fun x => !Acx x.1) (D:=fun k=>listed.getD k false) (D':=fun i => !Agc ops j i) fun y hy hq hd=>⟨by rw[←c2q y hy];exact hq,nb y (C1w hy) hd⟩
      have a3:((cf fr ops).take m).countP (fun x => !Acx x.1 && !Agc ops j x.2)=m:=by
       have:((cf fr ops).take m).countP (fun x => !Acx x.1 && !Agc ops j x.2)=((cf fr ops).take m).length:=by
        rw[List.countP_eq_length]
        intro y hy
        have h1:=List.mem_of_mem_take hy
        simp only[B0y (Ase.1 h1).2,nb y (A3i h1) (hl.mdone y hy)]
        rfl
       rw[this,List.length_take]
       have:=hl.mle
       omega
      omega
     obtain⟨H2,e1⟩:=Cfu hdyn pre.length o j _ w hz g7 hr _ Hk hlo hhi hl.at_
     refine⟨H2,e1,?_⟩
     rw[Bp7 hr _ _ _ e1,←hl.at_]
     have:na fr ops (fun k=>(listed.setIfInBounds j true).getD k false)=na fr ops (fun k=>listed.getD k false):=C0e (D:=fun k=>(listed.setIfInBounds j true).getD k false) (D':=fun k=>listed.getD k false) fun y hy hq=>by
      have:=(Cfx hq).1
      refine other _ (idx y hy fun e=>?_)
      subst e;rw[hr]at this;cases this
     rw[this]
    |false=>
     have hact:=Dcl hr hF
     have hlow:∀y,y∈pre→Aet fr y.1=true→listed.getD y.2 false=true:=fun y hy hq=>hbef _ ((hst.pre hsp y hy).act hq hact)
     have hhigh:∀y,y∈post→Aet fr y.1=true→listed.getD y.2 false=false:=fun y hy hq=>by
      cases hil:listed.getD y.2 false with
      |false=>rfl
      |true=>exact absurd ((hst.pair hsp y hy).act hact hq) (hlater y (memq y hy) hil)
     have n1:na fr ops (fun k=>listed.getD k false)=pre.countP (fun y=>Aet fr y.1):=by
      have:=Cei (q:=fun y=>Aet fr y.1) (D:=fun k=>listed.getD k false) hsp hlow hhigh
      unfold na
      rw[this]
      simp only[hact,hnl,Bool.and_false,Nat.add_zero]
     have n2:na fr ops (fun k=>(listed.setIfInBounds j true).getD k false)=pre.countP (fun y=>Aet fr y.1)+1:=by
      have:=Cei (q:=fun y=>Aet fr y.1) (D:=fun k=>(listed.setIfInBounds j true).getD k false) hsp (fun y hy hq=>getD_set_true (hlow y hy hq)) (fun y hy hq=>(other _ (idx y (memq y hy) fun e=>by subst e;exact xnq hy)).trans (hhigh y hy hq))
      unfold na
      rw[this]
      simp only[hact,self,Bool.and_true]
     have hpa:pre.countP (fun y=>Aet fr y.1)+m=Al6 pre:=by
      rcases Cuy hx with h|h|h
      ·have hc1:=Dcn hsp h
       have hm0:m=0:=by
        rcases Nat.eq_zero_or_pos m with h0|h0
        ·exact h0
        ·have:=hl.mact h0 _ h hr;simp only at this;rw[hnl]at this;cases this
       rw[hm0,Nat.add_zero]
       unfold Al6
       apply List.countP_congr
       intro y hy
       simp[Aet,(Bc3.1 (hc1 y hy)).2.1]
      ·have:=(Ase.1 h).2;rw[hF]at this;cases this
      ·have hm:=hfin hr h
       obtain⟨p1,p2,h4⟩:=List.append_of_mem h
       have e2:cl fr ops=(c1 fr ops++(cf fr ops++p1))++(o,j)::p2:=by unfold cl;rw[h4];simp
       have hu:=Bp9 (by rw[←e2];exact Bp8) (e2.symm.trans hsp)
       rw[←hu,hm,Cfy,Cfy,B0z (fr:=fr) (l:=cf fr ops) fun y hy=>(Ase.1 hy).2,List.countP_append,List.countP_append]
       have e3:(c1 fr ops).countP (fun x=>Aet fr x.1)=Al6 (c1 fr ops):=by
        unfold Al6
        apply List.countP_congr
        intro x hxf
        simp[Aet,(Bc3.1 hxf).2.1]
       have e4:(cf fr ops).countP (fun x=>Aet fr x.1)=0:=by
        rw[List.countP_eq_zero]
        intro x hxf
        simp[Aet,(Ase.1 hxf).2]
       have e5:p1.countP (fun x=>Aet fr x.1)=Al6 p1:=by
        unfold Al6
        apply List.countP_congr
        intro x hxf
        have:x∈c2 fr ops:=by rw[h4];simp[hxf]
        simp[Aet,(Bje.1 this).2.1]
       rw[e3,e4,e5];omega
     have hk:=hl.at_
     rw[n1,hpa,g1]at hk
     cases hk
     refine⟨H1,g2,?_⟩
     rw[n2,Nat.add_right_comm,hpa];exact g3 hr
   obtain⟨H2,hv,hH2⟩:=hval
   have step:=Cpz (Q:=Q) (next:=fun a' W'=>wpAny P .any ops Q fuel (listed.setIfInBounds j true) a' W') (hcall _) hl.hr hsr hv fun ρ2 v' W2 hle2 hr2 hv2 hx2=>by
    refine ih _ _ W2 hsz' hcnt' hdown' ⟨m,pl,ρ2,H2,hl.le.trans hle2,hl.mle,fun x hx1=>getD_set_true (hl.mdone x hx1),fun h x hx1 hr=>getD_set_true (hl.mact h x hx1 hr),hH2,hr2.congr fun b=>?_,hl.ext.trans (hx2.weaken fun b hb=>.inl hb),De4.trans hl.size,Del.trans hl.defers,hgetN ρ2 _ hle2,fun t u y hy hyd hD hn hu=>hgetW ρ2 _ hle2 (.inr hv2) t u y hy hyd hD hn (fun h=>by rw[hF]at h;cases h) hu,fun x hxf hD=>?_,fun x y h1 h2 h3 h4=>hl.inj x y h1 h2 (by rw[←back x (incf x h1) hF];exact h3) (by rw[←back y (incf y h2) hF];exact h4),fun x hxf hD=>hl.away x hxf (by rw[←back x (incf x hxf) hF];exact hD),fun y hy hD hr=>?_⟩
    ·constructor
     ·rintro (h|⟨x,h1,h2,h3⟩)
      ·exact .inl h
      ·exact .inr ⟨x,h1,by rw[←back x (incf x h1) hF];exact h2,h3⟩
     ·rintro (h|⟨x,h1,h2,h3⟩)
      ·exact .inl h
      ·exact .inr ⟨x,h1,by rw[back x (incf x h1) hF];exact h2,h3⟩
    ·have hne:x≠(o,j):=fun e=>by subst e;have:=(Ase.1 (incf _ hxf)).2;rw[hF]at this;cases this
     rw[other _ (idx x (A3i (incf x hxf)) hne)]at hD
     obtain⟨d',cb',obj',k',w'',R,Hc,w1,H1',f1,f2,f3,f4,f5,f6⟩:=hl.fresh x hxf hD
     refine⟨d',cb',obj',k',w'',R,Hc,w1,H1',f1,f2,f3,f4,?_,?_⟩
     ·rw[Buj fun hd=>hne (hst.dstU (A3i (incf x hxf)) hx f1 hd)];exact f5
     ·rw[hx2.frame _ (.inr ⟨x,hxf,hD,rfl⟩)];exact f6
    ·by_cases hne:y=(o,j)
     ·subst hne;exact hfin hr hy
     ·rw[other _ (idx y (C1w hy) hne)]at hD
      exact hl.lates y hy hD hr
   split at step
   ·rename_i hw;rw[if_pos hw];exact .inl step
   ·rename_i hw;rw[if_neg hw];exact step
theorem Cp5(hm:P.P.follows .mixedOrders=true)(hst:B0w fr ops=true)(hcall:∀K,A9f P K call){id:Nat}{ρ:Ren}{E E':Env}{H H':CH}{W:World}{a:Act}(hr:HR base ρ H W)(hs:SR n ρ E a)(e:Ci9 P fr call n ops E H=some (E',H')){Q:Exit→Act→World→Prop}(hQ:∀ρ' a' W',ρ.le ρ'→HR base ρ' H' W'→SR n ρ' E' a'→Ext base W W'→Q .normal a' W'):(Code.region id ops true).wp P Q a W:=by
 unfold Ci9 at e
 cases hq:Bp6 P call n ops (cl fr ops) E H with
 |none=>simp only[hq]at e;cases e
 |some p=>
 obtain⟨E1,hs1,ws⟩:=p
 simp only[hq]at e
 cases hd:Bug P call fr ops (H::hs1) (cl fr ops) ws with
 |false=>simp only[hd]at e;cases e
 |true=>
 simp only[hd]at e
 cases e
 refine wp_region_any hm ?_
 have rep:∀N k:Nat,(Array.replicate N false).getD k false=false:=by
  intro N k
  rw[Array.getD_eq_getD_getElem?,Array.getElem?_replicate]
  split<;>rfl
 refine Clt (W0:=W) (C7q hst) hcall hq hd (fun ρ' a' W' h1 h2 h3 h4=>hQ ρ' a' W' h1 h2 h3 h4) _ _ _ _ (by simp) ?_ ?_ ⟨0,fun _=>0,ρ,H,?_⟩
 ·exact Nat.le_trans List.countP_le_length (by simp)
 ·intro j o ho hj
  rw[rep]at hj;cases hj
 ·have hr2:HR base ρ H {W with drawn:=W.drawn+1}:=hr.drawn
  refine⟨.refl _,Nat.zero_le _,fun x h=>by simp at h,fun h=>absurd h (Nat.lt_irrefl 0),?_,hr2.congr fun b=>?_,⟨rfl,rfl,rfl,Nat.le_refl _,fun _ _=>rfl⟩,hs.size,hs.defers,fun t v ht _=>hs.get t v ht,fun t v x hx hd hD=>?_,fun x _ hD=>?_,fun x y _ _ hD=>?_,fun x _ hD=>?_,fun y _ hD=>?_⟩
  ·have:na fr ops (fun k=>(Array.replicate ops.size false).getD k false)=0:=by
    unfold na
    rw[List.countP_eq_zero]
    intro x _
    simp only[rep];simp
   rw[this];rfl
  ·simp only[rep];simp
  ·simp only[rep]at hD;cases hD
  ·simp only[rep]at hD;cases hD
  ·simp only[rep]at hD;cases hD
  ·simp only[rep]at hD;cases hD
  ·simp only[rep]at hD;cases hD
theorem C7s(hm:P.P.follows .mixedOrders=true)(hcall:∀K,A9f P K call):Cum P base n (Cst P call n):=by
 intro id ops ρ E E' H H' W a hr hs e Q hQ
 unfold Cst at e
 cases hst:B0w false ops with
 |true=>
  simp only[hst]at e
  exact Cp5 hm hst hcall hr hs e hQ
 |false=>
  simp only[hst]at e
  cases hst2:B0w true ops with
  |true=>
   simp only[hst2]at e
   exact Cp5 hm hst2 hcall hr hs e hQ
  |false=>simp only[hst2]at e;cases e
end
end
end Go.CE
namespace Go.CE
noncomputable section
open Go.Proofs Go.Shelf Go.RowKit
section
variable {base:Nat→Prop} {ρ:Ren}
theorem HR.killW{H:CH}{W W':World}(hr:HR base ρ H W){i:Nat}{cb:CB}{p:Pl}(hb:H.m.get i=some cb)(hl:cb.live=true)(hp:ρ i=some p)(hs:W.heap.size≤W'.heap.size)(hf:∀k,k<W.heap.size→k≠p.b→W'.heap[k]? = W.heap[k]?):HR base ρ {H with m:=T.set .dead 60 H.m i} W':=by
 have hi:=(hr.dom i p hp).1
 have hbig:=hr.big
 have hi60:i+1<2^60:=by unfold BIG at hbig;omega
 have get:∀j cj,(T.set CB.dead 60 H.m i).get j=some cj→cj.live=true→j≠i∧H.m.get j=some cj:=by
  intro j cj h hlv
  by_cases e:j=i
  ·subst e;rw[T.get_set _ _ _ _ hi60]at h;cases h;cases hlv
  ·rw[T.get_set_ne _ _ _ _ _ e]at h;exact⟨e,h⟩
 refine⟨fun j q hq=>?_,hr.big,fun j cj hj hjl=>?_,fun j k cj ck q r hj hjl hk hkl hq hr' e=>?_,fun b h=>by have:=hr.base b h;omega,hr.zero⟩
 ·obtain⟨h1,h2,h3⟩:=hr.dom j q hq
  exact⟨h1,h2,by omega⟩
 ·obtain⟨hne,hj'⟩:=get j cj hj hjl
  obtain⟨q,hq,hB⟩:=hr.blk j cj hj' hjl
  exact⟨q,hq,hB.mono (.refl _) (hf _ (hr.dom j q hq).2.2 fun e=>hne (hr.inj j i cj cb q p hj' hjl hb hl hq hp e))⟩
 ·exact hr.inj j k cj ck q r (get j cj hj hjl).2 hjl (get k ck hk hkl).2 hkl hq hr' e
theorem HR.later{H:CH}{W W':World}(hr:HR base ρ H W)(hs:W.heap.size≤W'.heap.size)(hf:∀k,k<W.heap.size→W'.heap[k]? = W.heap[k]?):HR base ρ H W':=by
 refine⟨fun j q hq=>?_,hr.big,fun j cj hj hjl=>?_,hr.inj,fun b h=>by have:=hr.base b h;omega,hr.zero⟩
 ·obtain⟨h1,h2,h3⟩:=hr.dom j q hq
  exact⟨h1,h2,by omega⟩
 ·obtain⟨q,hq,hB⟩:=hr.blk j cj hj hjl
  exact⟨q,hq,hB.mono (.refl _) (hf _ (hr.dom j q hq).2.2)⟩
end
def Cjb(T:TypeId)(a:Addr):CM Unit:=fun H=>match H.m.get a.block,Nat.beq a.off 0,a.spot with
 |some (.cells n _ _ T' true),true,none=>match Nat.beq n 2,Nat.beq T' T with
  |true,true=>some ((),H)
  | _,_=>none
 | _,_,_=>none
def Cjc(a b:Addr):Bool:=Nat.beq a.block b.block&&Nat.beq a.off b.off&&(match a.spot,b.spot with|none,none=>true | _,_=>false)
def B00(T:TypeId):List Value→CM Value
 |[.pointer (some a)]=>do
  Cjb T a
  match ←A7a a with
  | .pointer none=>do
   Cit a (.pointer (some a))
   CM.ret (.tuple #[])
  | .pointer (some c)=>match Cjc c a with
   |true=>CM.ret (.tuple #[])
   |false=>CM.fail
  | _=>CM.fail
 | _=>CM.fail
def B62:List Value→Option (List UInt8)
 |[]=>some []
 | .int .u8 n::l=>match decide (0≤n),decide (n<256),B62 l with
  |true,true,some bs=>some (UInt8.ofNat n.toNat::bs)
  | _,_,_=>none
 | _=>none
def Cl7(T E:TypeId):List Value→CM Value
 |[.pointer (some a)]=>do
  Cjb T a
  match ←A7a (a.add 1) with
  | .slice none 0 0=>CM.ret (.string ⟨⟨[]⟩⟩)
  | .slice (some g) n c=>match Nat.beq n 0,Nat.beq g.off 0,g.spot,Nat.ble n c,Nat.ble n 1000000000 with
   |false,true,none,true,true=>do
    let l ←Aws g 0 n
    let bs ←CM.opt (B62 l)
    Buc g.block E
    CM.ret (.string ⟨⟨bs⟩⟩)
   | _,_,_,_,_=>CM.fail
  | _=>CM.fail
 | _=>CM.fail
def Buk(fc fs:FuncId)(T E:TypeId):Ci6:=fun f=>match Nat.beq f fc with
 |true=>some (B00 T)
 |false=>match Nat.beq f fs with
  |true=>some (Cl7 T E)
  |false=>none
theorem C43{a b:Addr}(h:Cjc a b=true):a=b:=by
 unfold Cjc at h
 simp only[Bool.and_eq_true]at h
 obtain⟨⟨h1,h2⟩,h3⟩:=h
 obtain⟨x,y,z⟩:=a
 obtain⟨x',y',z'⟩:=b
 have g1:x=x':=Nat.eq_of_beq_eq_true h1
 have g2:y=y':=Nat.eq_of_beq_eq_true h2
 clear h1 h2
 subst g1 g2
 cases z<;>cases z'<;>first|rfl|cases h3
theorem Cej{base:Nat→Prop}{ρ:Ren}{T:TypeId}{a:Addr}{H H':CH}{W:World}{u:Unit}(hr:HR base ρ H W)(e:Cjb T a H=some (u,H')) :
  H'=H∧a.off=0∧a.spot=none∧∃cs d p c,H.m.get a.block=some (.cells 2 cs d T true)∧ρ a.block=some p∧p.d=0∧W.heap[p.b]? = some (.cells c T (0,0))∧c.size=2∧∀k v,at? 2 cs d k=some v→∃v',c[k]? = some v'∧VR ρ v v':=by
 unfold Cjb at e
 cases hm:H.m.get a.block with
 |none=>simp only[hm]at e;cases e
 |some cb=>
 cases cb with
 |cells n cs d T' x=>
  cases x with
  |false=>simp only[hm]at e;cases e
  |true=>
  cases ho:Nat.beq a.off 0 with
  |false=>simp only[hm,ho]at e;cases e
  |true=>
  cases hsp:a.spot with
  |some s=>simp only[hm,ho,hsp]at e;cases e
  |none=>
  simp only[hm,ho,hsp]at e
  cases h2:Nat.beq n 2 with
  |false=>simp only[h2]at e;cases e
  |true=>
  cases hT:Nat.beq T' T with
  |false=>simp only[h2,hT]at e;cases e
  |true=>
  simp only[h2,hT]at e
  cases e
  have h2:=Nat.eq_of_beq_eq_true h2
  have hT:=Nat.eq_of_beq_eq_true hT
  subst h2 hT
  obtain⟨p,hp,hB⟩:=hr.blk _ _ hm rfl
  obtain⟨c,q1,q2,q3,q4,q5⟩:=hB
  have q3:=q3 rfl
  refine⟨rfl,Nat.eq_of_beq_eq_true ho,rfl,cs,d,p,c,rfl,hp,hr.zero _ _ hp,q1,by rw[q2];exact q3.1.symm,fun k v hv=>?_⟩
  have:=q5 k v hv
  rw[q3.2,Nat.zero_add]at this
  exact this
 |map _ _=>simp only[hm]at e;cases e
 |dead=>simp only[hm]at e;cases e
theorem Cjd{a:Addr}{v:Value}{H H':CH}{n:Nat}{cs:T Value}{d:Value}{t:TypeId}{x:Bool}(hm:H.m.get a.block=some (.cells n cs d t x))(hs:a.spot=none)(e:A7a a H=some (v,H')):H'=H∧at? n cs d a.off=some v:=by
 unfold A7a at e
 simp only[hm,hs]at e
 cases ha:at? n cs d a.off with
 |none=>simp only[ha]at e;cases e
 |some w=>simp only[ha]at e;cases e;exact⟨rfl,rfl⟩
theorem Cqi{P:PT}{f:FuncId}{T:TypeId}(hu:∀(b:Nat) (w:World),w.cell? ⟨b,0,none⟩=some (.pointer (some ⟨b,0,none⟩))→Calls P.P f #[.pointer (some ⟨b,0,none⟩)] w fun e w'=>e = .returned (.tuple #[])∧w'=w)(hf:∀(b:Nat) (w:World),w.cell? ⟨b,0,none⟩=some (.pointer none)→w.shape? b=some (T,2)→w.frozen? ⟨b,0,none⟩=false→Calls P.P f #[.pointer (some ⟨b,0,none⟩)] w fun e w'=>e = .returned (.tuple #[])∧w'=w.setCell ⟨b,0,none⟩ (.pointer (some ⟨b,0,none⟩))){base:Nat→Prop}{args args':List Value}{ρ:Ren}{H:CH}{W:World}(hr:HR base ρ H W)(hv:VRs ρ args args'){v:Value}{H':CH}(e:B00 T args H=some (v,H')) :
  Calls P.P f ⟨args'⟩ W fun e W'=>∃v' ρ',e = .returned v'∧ρ.le ρ'∧HR base ρ' H' W'∧Ext base W W'∧VR ρ' v v':=by
 unfold B00 at e
 split at e
 case h_2=>cases e
 rename_i a
 cases hv with
 |cons hv1 hv2=>
 cases hv2
 cases hv1 with
 |ptr hA=>
 rename_i a'
 obtain⟨u,H1,e1,f1⟩:=bind_some e
 obtain⟨rfl,ho,hsp,cs,d,p,c,hm,hp,hpd,hw,hsz,hcells⟩:=Cej hr e1
 have ha':a'=⟨p.b,0,none⟩:=by
  obtain⟨q,hq,rfl⟩:=hA
  rw[hp]at hq;cases hq
  rw[ho,hsp,hpd]
 subst ha'
 obtain⟨w,H2,e2,f2⟩:=bind_some f1
 obtain⟨rfl,hat⟩:=Cjd hm hsp e2
 rw[ho]at hat
 obtain⟨w',hw',hvr⟩:=hcells 0 w hat
 have hcell:W.cell? ⟨p.b,0,none⟩=some w':=by simp[World.cell?,hw,hw']
 cases hvr with
 |pnil=>
  simp only at f2
  obtain⟨u2,H3,e3,f3⟩:=bind_some f2
  obtain⟨rfl,rfl⟩:=Abt f3
  have hfz:W.frozen? ⟨p.b,0,none⟩=false:=by simp[World.frozen?,hw]
  obtain⟨ρ1,b1,W1,k1,k2,k3,k4,_⟩:=Cpq (P:=P.P) (base:=base) hA (.ptr hA) .plain _ W hr u2 _ e3
  have hW1:W1=W.setCell ⟨p.b,0,none⟩ (.pointer (some ⟨p.b,0,none⟩)):=by
   have:(Go.store ⟨p.b,0,none⟩ (.pointer (some ⟨p.b,0,none⟩)) .plain).run P.P W = .ok () (W.setCell ⟨p.b,0,none⟩ (.pointer (some ⟨p.b,0,none⟩))):=by
    unfold Go.store
    simp only[Sem.run,hcell,hfz,Bool.false_eq_true,if_false]
   rw[this]at k2
   cases k2;rfl
  subst hW1
  refine (hf p.b W hcell (by simp[World.shape?,hw,hsz]) hfz).mono ?_
  rintro e w' ⟨rfl,rfl⟩
  exact⟨_,ρ1,rfl,k1,k3,k4,.tuple .nil⟩
 |ptr hc=>
  rename_i cc cc'
  simp only at f2
  cases hq:Cjc cc a with
  |false=>simp only[hq]at f2;cases f2
  |true=>
  simp only[hq]at f2
  obtain⟨rfl,rfl⟩:=Abt f2
  have:=C43 hq
  subst this
  have:cc'=⟨p.b,0,none⟩:=by
   obtain⟨q,hq,rfl⟩:=hc
   rw[hp]at hq;cases hq
   rw[ho,hsp,hpd]
  subst this
  refine (hu p.b W hcell).mono ?_
  rintro e w' ⟨rfl,rfl⟩
  exact⟨_,ρ,rfl,.refl _,hr,.refl _ _,.tuple .nil⟩
 | _=>cases f2
theorem Cje:∀{l:List Value} {bs:List UInt8},B62 l=some bs→l.length=bs.length∧∀(j:Nat) (x:UInt8),bs[j]? = some x→l[j]? = some (.int .u8 x.toNat)
 |[],bs,h=>by cases h;exact⟨rfl,fun j x h=>by simp at h⟩
 |v::l,bs,h=>by
  unfold B62 at h
  split at h
  ·rename_i e;cases e
  ·rename_i n l' e
   cases e
   split at h
   ·rename_i bs' h1 h2 h3
    cases h
    have h1:=of_decide_eq_true h1
    have h2:=of_decide_eq_true h2
    obtain⟨q1,q2⟩:=Cje h3
    refine⟨by simp[q1],fun j x hx=>?_⟩
    cases j with
    |zero=>
     simp only[List.getElem?_cons_zero,Option.some.injEq]at hx ⊢
     subst hx
     congr 1
     rw[UInt8.toNat_ofNat',Nat.mod_eq_of_lt (by omega)]
     omega
    |succ j=>simpa using q2 j x (by simpa using hx)
   ·cases h
  ·cases h
theorem C11{P:PT}{r:Go.Shelf.Ren}(L:Lays.n169 P.P r)(X:Builder.Extra P.P r){base:Nat→Prop}{args args':List Value}{ρ:Ren}{H:CH}{W:World}(hr:HR base ρ H W)(hv:VRs ρ args args'){v:Value}{H':CH}(e:Cl7 (r.t 72) (r.t 5) args H=some (v,H')) :
  Calls P.P (r.f 169) ⟨args'⟩ W fun e W'=>∃v' ρ',e = .returned v'∧ρ.le ρ'∧HR base ρ' H' W'∧Ext base W W'∧VR ρ' v v':=by
 unfold Cl7 at e
 split at e
 case h_2=>cases e
 rename_i a
 cases hv with
 |cons hv1 hv2=>
 cases hv2
 cases hv1 with
 |ptr hA=>
 rename_i a'
 obtain⟨u,H1,e1,f1⟩:=bind_some e
 obtain⟨rfl,ho,hsp,cs,d,p,c,hm,hp,hpd,hw,hsz,hcells⟩:=Cej hr e1
 have ha':a'=⟨p.b,0,none⟩:=by
  obtain⟨q,hq,rfl⟩:=hA
  rw[hp]at hq;cases hq
  rw[ho,hsp,hpd]
 subst ha'
 obtain⟨w,H2,e2,f2⟩:=bind_some f1
 have hadd:a.add 1=⟨a.block,1,none⟩:=by
  simp[Addr.add,ho]
 rw[hadd]at e2
 obtain⟨rfl,hat⟩:=Cjd (a:=⟨a.block,1,none⟩) hm rfl e2
 obtain⟨w',hw',hvr⟩:=hcells 1 w hat
 obtain⟨c0,hc0⟩:∃c0,c = #[c0,w']:=by
  obtain⟨l⟩:=c
  match l,hsz,hw' with
  |[x,y],_,h=>exact⟨x,by simp at h;rw[h]⟩
 subst hc0
 have fin:∀{g g':Addr} {n cc cc':Nat},AR ρ g g'→(Nat.ble n cc=true→n≤cc')→w' = .slice (some g') n cc'→(match Nat.beq n 0,Nat.beq g.off 0,g.spot,Nat.ble n cc,Nat.ble n 1000000000 with
   |false,true,none,true,true=>(do
    let l ←Aws g 0 n
    let bs ←CM.opt (B62 l)
    Buc g.block (r.t 5)
    CM.ret (.string ⟨⟨bs⟩⟩):CM Value)
   | _,_,_,_,_=>CM.fail) H2=some (v,H')→Calls P.P (r.f 169) #[.pointer (some ⟨p.b,0,none⟩)] W fun e W'=>∃v' ρ',e = .returned v'∧ρ.le ρ'∧HR base ρ' H' W'∧Ext base W W'∧VR ρ' v v':=by
  intro g g' n cc cc' hG hncc0 hw'e f2
  cases hn0:Nat.beq n 0 with
  |true=>simp only[hn0]at f2;cases f2
  |false=>
  cases hgo:Nat.beq g.off 0 with
  |false=>simp only[hn0,hgo]at f2;cases f2
  |true=>
  cases hgs:g.spot with
  |some s=>simp only[hn0,hgo,hgs]at f2;cases f2
  |none=>
  cases hb1:Nat.ble n cc with
  |false=>simp only[hn0,hgo,hgs,hb1]at f2;cases f2
  |true=>
  cases hb2:Nat.ble n 1000000000 with
  |false=>simp only[hn0,hgo,hgs,hb1,hb2]at f2;cases f2
  |true=>
  simp only[hn0,hgo,hgs,hb1,hb2]at f2
  have hncc:=hncc0 hb1
  have hgo:=Nat.eq_of_beq_eq_true hgo
  have hb2:=Nat.le_of_ble_eq_true hb2
  obtain⟨l,H3,e3,f3⟩:=bind_some f2
  obtain⟨bs,H4,e4,f4⟩:=bind_some f3
  obtain⟨hbs,rfl⟩:=Ahv e4
  obtain⟨u5,H5,e5,f5⟩:=bind_some f4
  obtain⟨rfl,rfl⟩:=Abt f5
  obtain⟨hH3,hll,hlc⟩:=B6t (a:=g) (i:=0) (m:=n) e3
  subst hH3
  obtain⟨m,cs2,d2,x2,hm2,rfl⟩:=B0u e5
  obtain⟨pg,hpg,hB⟩:=hr.blk _ _ hm2 rfl
  obtain⟨cur,q1,q2,_,q4,q5⟩:=hB
  have hpgd:=hr.zero _ _ hpg
  have hg':g'=⟨pg.b,0,none⟩:=by
   obtain⟨q,hq,rfl⟩:=hG
   rw[hpg]at hq;cases hq
   rw[hgo,hgs,hpgd]
  subst hg'
  obtain⟨z1,z2⟩:=Cje hbs
  have hnl:bs.length=n:=by rw[←z1];exact hll
  have hn:n≠0:=fun e=>by rw[e]at hn0;cases hn0
  obtain⟨m',cs',d',t',x',hm3,hat3⟩:=hlc.resolve_left hn
  rw[hm2]at hm3
  cases hm3
  have hcell:∀(j:Nat) (x:UInt8),bs[j]? = some x→cur[j]? = some (Value.int .u8 x.toNat):=by
   intro j x hx
   have h1:=hat3 j _ (z2 j x hx)
   rw[hgo,Nat.zero_add,Nat.zero_add]at h1
   obtain⟨v',h2,h3⟩:=q5 j _ h1
   rw[hpgd,Nat.zero_add]at h2
   have:=VR.still_eq h3 rfl
   rw[h2,this]
  have hown:∀(j:Nat) (x:UInt8),bs[j]? = some x→W.cell? ((⟨pg.b,0,none⟩:Addr).add j)=some (.int .u8 x.toNat):=by
   intro j x hx
   have:(⟨pg.b,0,none⟩:Addr).add j=⟨pg.b,j,none⟩:=by
    unfold Addr.add
    split
    ·rename_i h;rw[h]
    ·simp
   rw[this]
   simp[World.cell?,q1,hcell j x hx]
  have hcs:bs.length≤cur.size:=by
   rcases Nat.lt_or_ge cur.size bs.length with h|h
   ·have:=hcell cur.size bs[cur.size] (by simp[h])
    simp at this
   ·exact h
  have hWb:W.heap[p.b]? = some (.cells #[c0,.slice (some ⟨pg.b,0,none⟩) bs.length cc'] (r.t 72) (0,0)):=by rw[hw,hw'e,hnl]
  refine (Go.AX.Cef L X p.b pg.b cc' cur c0 (0,0) (0,0) bs W hWb q1 (by omega) (by omega) hcs hown (fun h=>by rw[h]at hnl;simp at hnl;omega)).mono ?_
  rintro e w1 ⟨rfl,hk⟩
  refine⟨_,ρ,rfl,.refl _,hr.killW hm2 rfl hpg hk.size hk.ne,⟨hk.os,hk.tape,hk.output,hk.size,fun b hb=>hk.ne b (hr.base b hb) fun e=>?_⟩,.string _⟩
  exact (hr.dom _ _ hpg).2.1 (by rw[←e];exact hb)
 cases hvr with
 |snil l cc=>
  cases l with
  |succ l=>cases f2
  |zero=>
   cases cc with
   |succ cc=>cases f2
   |zero=>
    obtain⟨rfl,rfl⟩:=Abt f2
    refine (Any.Builder_String_nil L X W.heap.size p.b c0 W hw).mono ?_
    rintro e w1 ⟨rfl,hk⟩
    exact⟨_,ρ,rfl,.refl _,hr.later hk.size hk.block,⟨hk.os,hk.tape,hk.output,hk.size,fun b hb=>hk.block b (hr.base b hb)⟩,.string _⟩
 |sl hG hlt=>exact fin hG (fun h=>Nat.le_of_ble_eq_true h) rfl f2
 |slu q1 q2 q3 q4=>exact fin ⟨_,q1,q2⟩ (fun _=>q3) rfl f2
 | _=>cases f2
theorem Cu1{P:PT}{r:Go.Shelf.Ren}(L:Lays.n169 P.P r)(X:Builder.Extra P.P r){fc:FuncId}(h1:∃fn,P.P.funcs[fc]? = some fn∧fn.body.isSome∧(fn.name == "runtime.NumGoroutine")=false)(h2:∃fn,P.P.funcs[r.f 169]? = some fn∧fn.body.isSome∧(fn.name == "runtime.NumGoroutine")=false)(hu:∀(b:Nat) (w:World),w.cell? ⟨b,0,none⟩=some (.pointer (some ⟨b,0,none⟩))→Calls P.P fc #[.pointer (some ⟨b,0,none⟩)] w fun e w'=>e = .returned (.tuple #[])∧w'=w)(hf:∀(b:Nat) (w:World),w.cell? ⟨b,0,none⟩=some (.pointer none)→w.shape? b=some (r.t 72,2)→w.frozen? ⟨b,0,none⟩=false→Calls P.P fc #[.pointer (some ⟨b,0,none⟩)] w fun e w'=>e = .returned (.tuple #[])∧w'=w.setCell ⟨b,0,none⟩ (.pointer (some ⟨b,0,none⟩)))(base:Nat→Prop):C1s P base (Buk fc (r.f 169) (r.t 72) (r.t 5)):=by
 intro f g hg f' vs vs' ρ H W hr hv v H' e
 by_cases hff:f'=f
 ·subst hff
  simp only[if_true]at e
  unfold Buk at hg
  cases hq:Nat.beq f' fc with
  |true=>
   simp only[hq]at hg
   cases hg
   have:=Nat.eq_of_beq_eq_true hq
   subst this
   exact⟨h1,Cqi hu hf hr hv e⟩
  |false=>
   simp only[hq]at hg
   cases hq2:Nat.beq f' (r.f 169) with
   |false=>simp only[hq2]at hg;cases hg
   |true=>
    simp only[hq2]at hg
    cases hg
    have:=Nat.eq_of_beq_eq_true hq2
    subst this
    exact⟨h2,C11 L X hr hv e⟩
 ·simp only[hff,if_false]at e;cases e
end
end Go.CE
namespace Go.CE
noncomputable section
def ofL{α:Type}:List α→Nat→T α→T α
 |[],_,t=>t
 |v::l,i,t=>ofL l (i+1) (T.set v 60 t i)
theorem Cu2{α:Type}:∀(l:List α) (i:Nat) (t:T α) (k:Nat) (v:α),i+l.length<BIG→(ofL l i t).get k=some v→(i≤k∧l[k-i]? = some v)∨t.get k=some v
 |[],_,_,_,_,_,h=>.inr h
 |x::l,i,t,k,v,hb,h=>by
  simp only[ofL]at h
  rcases Cu2 l (i+1) _ k v (by simp at hb;omega) h with ⟨h1,h2⟩|h
  ·refine .inl ⟨by omega,?_⟩
   rw[show k-i=(k-(i+1))+1 by omega,List.getElem?_cons_succ];exact h2
  ·by_cases e:k=i
   ·subst e
    rw[T.get_set _ _ _ _ (by simp at hb;unfold BIG at hb;omega)]at h
    cases h
    exact .inl ⟨Nat.le_refl _,by simp⟩
   ·rw[T.get_set_ne _ _ _ _ _ e]at h;exact .inr h
theorem Dco{P:PT}(hm:P.P.follows .mixedOrders=true){sp:Ci6}(hsp:∀base,C1s P base sp){F k:Nat}{f:FuncId}{b:Bool}{H':CH}(h:Cl3 P sp (Cst P) F k f [] ⟨0,.e⟩=some (.bool b,H'))(W:World) :
  Calls P f #[] W fun e W'=>e = .returned (.bool b)∧W'.os=W.os∧W'.tape=W.tape∧W'.output=W.output∧W.heap.size≤W'.heap.size∧∀b,b<W.heap.size→W'.heap[b]? = W.heap[b]?:=by
 have hok:=C0b (F:=F) hsp (fun call n hc base=>C7s hm hc) k (fun b=>b<W.heap.size)
 have hr:HR (fun b=>b<W.heap.size) (fun _=>none) ⟨0,.e⟩ W:=by
  refine⟨fun i p h=>(by cases h),by show 0≤BIG;unfold BIG;decide,fun i cb h=>?_,fun i j ci cj p q h=>?_,fun b h=>h,fun i p h=>(by cases h)⟩
  ·rw[T.get_e]at h;cases h
  ·rw[T.get_e]at h;cases h
 refine (hok f [] [] (fun _=>none) ⟨0,.e⟩ W hr .nil (.bool b) H' h).2.mono ?_
 rintro e W' ⟨v',ρ',rfl,_,_,hx,hv⟩
 have:v' = .bool b:=VR.still_eq hv rfl
 subst this
 exact⟨rfl,hx.os,hx.tape,hx.output,hx.size,fun b hb=>hx.frame b hb⟩
def isTrue(r:Option (Value×CH)):Bool:=match r with
 |some (.bool true,_)=>true
 | _=>false
theorem Cyb{r:Option (Value×CH)}(h:isTrue r=true):∃H',r=some (.bool true,H'):=by
 unfold isTrue at h
 split at h
 ·exact⟨_,rfl⟩
 ·cases h
end
end Go.CE

/- A reading of the model's code over typed data,proved sound: values,states,operations. -/
import GoSem.Dispatch
import Derived.KernelRfl
import Derived.Control
import Derived.Calls
import Derived.Laws.Sem
import Derived.Lib.ItoaNum
import Derived.Laws.World
namespace Go.AX
noncomputable section
inductive Ty where
 |bool|int (k:IntKind)|str|list (t:Ty)|pair (a b:Ty)
 deriving DecidableEq
@[reducible] def Ty.den:Ty→Type
 | .bool=>Bool
 | .int _=>Int
 | .str=>List UInt8
 | .list t=>List t.den
 | .pair a b=>a.den×b.den
def Ty.size:Ty→Nat
 | .pair a b=>a.size+b.size
 | _=>1
def Ty.dflt:(t:Ty)→t.den
 | .bool=>false
 | .int _=>(0:Int)
 | .str=>([]:List UInt8)
 | .list t=>([]:List t.den)
 | .pair a b=>(a.dflt,b.dflt)
def Ty.flat:Ty→Bool
 | .list _=>false
 | .pair a b=>a.flat&&b.flat
 | _=>true
def Ty.beq:(t:Ty)→t.den→t.den→Bool
 | .bool,a,b=>(a:Bool)==b
 | .int _,a,b=>(a:Int)==b
 | .str,a,b=>(a:List UInt8)==b
 | .list _,_,_=>false
 | .pair s t,a,b=>s.beq a.1 b.1&&t.beq a.2 b.2
inductive Asf where
 |undef
 |val (t:Ty) (v:t.den)
 |nilsl|nilptr|nilmap|nilfn|nilif
 |ecap
 |nvl (t:Ty) (xs:List t.den)
 |slf (id ver:Nat)
 |sl (id ver off len:Nat)
 |ptr (id ver idx fld:Nat)
 |fptr (t:Ty) (xs:List t.den) (idx fld:Nat)
 |mp (id:Nat)
 |vs (id n:Nat)
inductive Acw where
 |a (x:Asf)
 |func (f:FuncId) (caps:List Asf)
 |iface (T:TypeId) (cs:List Asf)
inductive V1 where
 |one (c:Acw)
 |agg (cs:List Acw)
inductive AV where
 |v (x:V1)
 |tup (xs:List V1)
inductive Aa1 where
 |cells (T:TypeId) (cs:List Acw)
 |row (E:TypeId) (t:Ty) (ver:Nat) (fz:Bool) (xs:List t.den)
 |amap (T:TypeId) (kt et:Ty) (m:List (kt.den×et.den))
 |fmap (T:TypeId) (k:IntKind) (m:List (Int×Acw))
abbrev Aaq:=Nat→Option Aa1
abbrev Env:=Nat→AV
structure ASt where
 env:Env
 hp:Aaq
@[reducible] def AV.at(x:Asf):AV:=.v (.one (.a x))
@[reducible] def vI(k:IntKind)(n:Int):AV:=.at (.val (.int k) n)
@[reducible] def vi(n:Int):AV:=.at (.val (.int .i64) n)
@[reducible] def vb(b:Bool):AV:=.at (.val .bool b)
def ASt.set(st:ASt)(d:Option Tmp)(v:AV):ASt :=
 match d with
 |some d=>{st with env:=fun s=>match Nat.beq s d with|true=>v|false=>st.env s}
 |none=>st
def Am8(hp:Aaq)(id:Nat)(b:Aa1):Aaq:=fun s=>match Nat.beq s id with|true=>some b|false=>hp s
def Ab3(hp:Aaq):List (Nat×Aa1)→Aaq
 |[]=>hp
 |(id,b)::r=>Ab3 (Am8 hp id b) r
def ASt.upd(st:ASt)(d:Option Tmp)(l:List (Nat×Aa1))(v:AV):ASt :=
 ASt.set ⟨st.env,Ab3 st.hp l⟩ d v
def Asf.get(t:Ty):Asf→Option t.den
 | .val t' v=>if h:t'=t then some (h▸v) else none
 | .nilsl=>match t with
  | .list _=>some ([]:List _)
  | _=>none
 | .ecap=>match t with
  | .list _=>some ([]:List _)
  | _=>none
 | .nvl t' xs=>if h:Ty.list t'=t then some (h▸xs) else none
 | _=>none
def Acw.get(t:Ty):Acw→Option t.den
 | .a x=>x.get t
 | _=>none
def AV.get(t:Ty):AV→Option t.den
 | .v (.one c)=>c.get t
 | _=>none
def cellsOf:(t:Ty)→t.den→List Acw
 | .pair a b,v=>cellsOf a v.1++cellsOf b v.2
 | .bool,v=>[.a (.val .bool v)]
 | .int k,v=>[.a (.val (.int k) v)]
 | .str,v=>[.a (.val .str v)]
 | .list t,v=>[.a (.val (.list t) v)]
def Bo4:(t:Ty)→List Acw→Option t.den
 | .pair a b,l=>match Bo4 a (l.take a.size),Bo4 b (l.drop a.size) with
  |some x,some y=>some (x,y)
  | _,_=>none
 | .bool,l=>match l with|[c]=>c.get .bool | _=>none
 | .int k,l=>match l with|[c]=>c.get (.int k) | _=>none
 | .str,l=>match l with|[c]=>c.get .str | _=>none
 | .list t,l=>match l with|[c]=>c.get (.list t) | _=>none
def Bmx(t:Ty):Nat→List Acw→Option (List t.den)
 |0,l=>match l with|[]=>some [] | _=>none
 |n+1,l=>match Bo4 t (l.take t.size),Bmx t n (l.drop t.size) with
  |some x,some r=>some (x::r)
  | _,_=>none
def A7v:Value→Acw
 | .bool b=>.a (.val .bool b)
 | .int k n=>.a (.val (.int k) n)
 | .string s=>.a (.val .str s.data.toList)
 | .pointer none=>.a .nilptr
 | .slice none 0 0=>.a .nilsl
 | .map none=>.a .nilmap
 | .nilFunc=>.a .nilfn
 | .nilIface=>.a .nilif
 | _=>.a .undef
def C5w:Value→AV
 | .agg cs=>.v (.agg (cs.toList.map A7v))
 | .tuple _=>.at .undef
 |v=>.v (.one (A7v v))
def evs(env:Env):Operand→AV
 | .tmp t=>env t
 | .const v=>C5w v
 | .global _=>.at .undef
 | .func f=>.v (.one (.func f []))
def Avo(cs:List Acw)(off:Nat)(new:List Acw):List Acw:=cs.take off++new++cs.drop (off+new.length)
inductive TD where
 |bool|int (k:IntKind)|str|ptr (e:TypeId)|slice (e:TypeId)|arr (n:Nat) (e:TypeId)|map (k e:TypeId)
 |struct (fs:List (Nat×Nat×TypeId))|func|iface|other
structure TI where
 d:TD
 size:Nat
 bytes:Nat
 zero:Option (List Acw)
 eqok:Bool
abbrev TT:=List (TypeId×TI)
def TT.get:TT→TypeId→Option TI
 |[],_=>none
 |(k,i)::r,T=>match Nat.beq T k with|true=>some i|false=>TT.get r T
def TD.agg:TD→Bool
 | .struct _ | .arr _ _=>true
 | _=>false
def Djw(f:TypeId→Option Ty):List (Nat×Nat×TypeId)→Option Ty
 |[]=>none
 |[x]=>f x.2.2
 |x::r=>match f x.2.2,Djw f r with
  |some a,some b=>some (.pair a b)
  | _,_=>none
def B29(tt:TT):Nat→TypeId→Option Ty
 |0,_=>none
 |n+1,T=>match tt.get T with
  |some i=>match i.d with
   | .bool=>some .bool
   | .int k=>some (.int k)
   | .str=>some .str
   | .slice e=>match B29 tt n e with|some t=>some (.list t)|none=>none
   | .struct fs=>Djw (B29 tt n) fs
   | _=>none
  |none=>none
def Chs(agg:Bool)(cs:List Acw):Option AV :=
 match agg with
 |true=>some (.v (.agg cs))
 |false=>match cs with
  |[c]=>some (.v (.one c))
  | _=>none
def Ab1(d j:Nat):Nat:=64+16*d+j
def Asf.refs:Asf→List Nat
 | .slf id _ | .sl id _ _ _ | .ptr id _ _ _ | .mp id | .vs id _=>[id]
 | _=>[]
def Acw.refs:Acw→List Nat
 | .a x=>x.refs
 | .func _ caps=>caps.flatMap Asf.refs
 | .iface _ cs=>cs.flatMap Asf.refs
def V1.refs:V1→List Nat
 | .one c=>c.refs
 | .agg cs=>cs.flatMap Acw.refs
def AV.refs:AV→List Nat
 | .v x=>x.refs
 | .tup xs=>xs.flatMap V1.refs
def Aa1.refs:Aa1→List Nat
 | .cells _ cs=>cs.flatMap Acw.refs
 | .fmap _ _ m=>m.flatMap fun p=>p.2.refs
 | _=>[]
def Arg(x:Nat):List Nat→Bool
 |[]=>false
 |y::r=>match Nat.beq x y with|true=>true|false=>Arg x r
def A4z(hp:Aaq):Nat→List Nat→List Nat→List Nat
 |0,_,acc=>acc
 | _+1,[],acc=>acc
 |n+1,id::r,acc=>match Arg id acc with
  |true=>A4z hp n r acc
  |false=>match hp id with
   |some b=>A4z hp n (b.refs++r) (acc++[id])
   |none=>A4z hp n r acc
abbrev Ren:=Nat→Option (Nat×(Nat→Option Nat))   -- the new id,and the new version for an old one
def Asf.ren(σ:Ren):Asf→Asf
 | .slf id ver=>match σ id with
  |some (id',vr)=>match vr ver with|some v=>.slf id' v|none=>.undef
  |none=>.undef
 | .sl id ver off len=>match σ id with
  |some (id',vr)=>match vr ver with|some v=>.sl id' v off len|none=>.undef
  |none=>.undef
 | .ptr id ver idx fld=>match σ id with
  |some (id',vr)=>match vr ver with|some v=>.ptr id' v idx fld|none=>.undef
  |none=>.undef
 | .mp id=>match σ id with
  |some (id',_)=>.mp id'
  |none=>.undef
 | .vs id n=>match σ id with
  |some (id',vr)=>match vr 0 with|some _=>.vs id' n|none=>.undef
  |none=>.undef
 |x=>x
def Acw.ren(σ:Ren):Acw→Acw
 | .a x=>.a (x.ren σ)
 | .func f caps=>.func f (caps.map (Asf.ren σ))
 | .iface T cs=>.iface T (cs.map (Asf.ren σ))
def V1.ren(σ:Ren):V1→V1
 | .one c=>.one (c.ren σ)
 | .agg cs=>.agg (cs.map (Acw.ren σ))
def AV.ren(σ:Ren):AV→AV
 | .v x=>.v (x.ren σ)
 | .tup xs=>.tup (xs.map (V1.ren σ))
def Aa1.ren(σ:Ren):Aa1→Aa1
 | .cells T cs=>.cells T (cs.map (Acw.ren σ))
 | .fmap T k m=>.fmap T k (m.map fun p=>(p.1,p.2.ren σ))
 |b=>b
end
end Go.AX
namespace Go.AX
noncomputable section
structure Aae where
 pure:List Bool
 grow:List Bool
 mat:Bool
 run:(R:Type)→List AV→List Aa1→(AV→List Aa1→List Aa1→Option R)→Option R
def B06:List AV→Option (List Asf)
 |[]=>some []
 | .v (.one (.a x))::l=>match B06 l with
  |some r=>some (x::r)
  |none=>none
 | _=>none
section ops
variable {R:Type}
abbrev KD(R:Type):=List (Nat×Aa1)→AV→Option R
def LIM:Nat:=70368744177664
def Bgv(k:IntKind)(x y:Int):Int:=k.wrap (x*2^(min y.toNat k.bits))
def Crf(k:IntKind)(x y:Int):Int:=x.fdiv (2^(min y.toNat k.bits))
def Bk7(k:IntKind)(x y:Int):Int:=k.wrap (BitVec.ofInt k.bits x &&&BitVec.ofInt k.bits y).toNat
def orI(k:IntKind)(x y:Int):Int:=k.wrap (BitVec.ofInt k.bits x ||| BitVec.ofInt k.bits y).toNat
def Bbt(k:IntKind)(x y:Int):Int:=k.wrap (BitVec.ofInt k.bits x ^^^ BitVec.ofInt k.bits y).toNat
def C5x(k:IntKind)(x y:Int):Int:=k.wrap (BitVec.ofInt k.bits x &&&~~~BitVec.ofInt k.bits y).toNat
def B8e(op:BinOp)(k:IntKind)(x y:Int)(K:AV→Option R):Option R :=
 match op with
 | .add=>K (vI k (k.wrap (x+y)))
 | .sub=>K (vI k (k.wrap (x-y)))
 | .mul=>K (vI k (k.wrap (x*y)))
 | .quo=>if y=0 then none else K (vI k (k.wrap (x.tdiv y)))
 | .rem=>if y=0 then none else K (vI k (x.tmod y))
 | .and=>K (vI k (Bk7 k x y))
 | .or=>K (vI k (orI k x y))
 | .xor=>K (vI k (Bbt k x y))
 | .andNot=>K (vI k (C5x k x y))
 | .eql=>K (vb (x==y))
 | .neq=>K (vb (x != y))
 | .lss=>K (vb (decide (x<y)))
 | .leq=>K (vb (decide (x≤y)))
 | .gtr=>K (vb (decide (x > y)))
 | .geq=>K (vb (decide (x≥y)))
 | .shl=>if y<0 then none else K (vI k (Bgv k x y))
 | .shr=>if y<0 then none else K (vI k (Crf k x y))
def C0b(op:BinOp)(x y:List UInt8)(K:AV→Option R):Option R :=
 match op with
 | .add=>if x.length+y.length≤LIM then K (.at (.val .str ((x++y:List UInt8)))) else none
 | .eql=>K (vb (x==y))
 | .neq=>K (vb (!(x==y)))
 | .lss=>K (vb (Op.bytesLess x y))
 | .leq=>K (vb (Op.bytesLess x y||x==y))
 | .gtr=>K (vb (!(Op.bytesLess x y||x==y)))
 | .geq=>K (vb (!(Op.bytesLess x y)))
 | _=>none
def Crg(tt:TT)(T:TypeId)(t:Ty):Bool:=match tt.get T with
 |some i=>match i.d,t with
  | .bool,.bool=>true
  | .int _,.int _=>true
  | .str,.str=>true
  | _,_=>false
 |none=>false
def Bs8(tt:TT):List (Nat×Nat×TypeId)→Nat→List Acw→List Acw→Option Bool
 |[],_,[],[]=>some true
 |f::fs,o,.a (.val t v)::r,.a (.val t' v')::r'=>
  if h:t'=t then
   match Crg tt f.2.2 t&&Nat.beq f.1 o,Bs8 tt fs (o+1) r r' with
   |true,some b=>some (t.beq v (h▸v')&&b)
   | _,_=>none
  else none
 | _,_,_,_=>none
def Cmr:AV→Option (Nat×Bool)
 | .v (.one (.a .nilsl))=>some (0,true)
 | .v (.one (.a (.nvl _ _)))=>some (0,false)
 | .v (.one (.a .nilptr))=>some (1,true)
 | .v (.one (.a (.ptr _ _ _ _)))=>some (1,false)
 | .v (.one (.a .nilmap))=>some (2,true)
 | .v (.one (.a (.mp _)))=>some (2,false)
 | .v (.one (.a .nilfn))=>some (3,true)
 | .v (.one (.func _ _))=>some (3,false)
 | _=>none
def C0c:Operand→Option Nat
 | .const (.slice none 0 0)=>some 0
 | .const (.pointer none)=>some 1
 | .const (.map none)=>some 2
 | .const .nilFunc=>some 3
 | _=>none
def Cms:TD→Option Nat
 | .slice _=>some 0
 | .ptr _=>some 1
 | .map _ _=>some 2
 | .func=>some 3
 | _=>none
def Dc7(tt:TT)(op:BinOp)(T:TypeId)(x y:Operand)(a b:AV)(K:AV→Option R):Option R :=
 match a,b with
 | .v (.one (.a (.val (.int k) m))),.v (.one (.a (.val (.int k') n)))=>
  match op with
  | .shl | .shr=>B8e op k m n K
  | _=>if k=k' then B8e op k m n K else none
 | .v (.one (.a (.val .str m))),.v (.one (.a (.val .str n)))=>C0b op m n K
 | .v (.one (.a (.val .bool m))),.v (.one (.a (.val .bool n)))=>
  match tt.get T with
  |some i=>match i.d,op with
   | .bool,.eql=>K (vb ((m:Bool)==n))
   | .bool,.neq=>K (vb (!((m:Bool)==n)))
   | _,_=>none
  |none=>none
 | .v (.agg cs),.v (.agg ds)=>match tt.get T with
  |some i=>match i.eqok,(match i.d with | .struct fs=>Bs8 tt fs 0 cs ds | _=>none) with
   |true,some e=>match op with
    | .eql=>K (vb e)
    | .neq=>K (vb (!e))
    | _=>none
   | _,_=>none
  |none=>none
 |a,_=>match tt.get T with
  |some i=>match Cms i.d,C0c y,Cmr a with
   |some p,some q,some (r,e)=>match Nat.beq p q&&Nat.beq p r with
    |true=>match op with
     | .eql=>K (vb e)
     | .neq=>K (vb (!e))
     | _=>none
    |false=>none
   | _,_,_=>none
  |none=>none
def Czj(tt:TT)(hp:Aaq)(T:TypeId)(x:AV)(K:AV→Option R):Option R :=
 match tt.get T with
 |none=>none
 |some i=>
  let out (cs:List Acw) (fld:Nat):Option R:=match Nat.ble (fld+i.size) cs.length with
   |true=>match Chs i.d.agg ((cs.drop fld).take i.size) with
    |some v=>K v
    |none=>none
   |false=>none
  match x with
  | .v (.one (.a (.ptr id ver idx fld)))=>match hp id with
   |some (.cells _ cs)=>out cs fld
   |some (.row _ t ver' _ xs)=>match Nat.beq ver ver' with
    |true=>out (cellsOf t (xs.getD idx t.dflt)) fld
    |false=>none
   | _=>none
  | .v (.one (.a (.fptr t xs idx fld)))=>out (cellsOf t (xs.getD idx t.dflt)) fld
  | _=>none
def Asf.frz(hp:Aaq):Asf→Option (Asf×List Nat)
 | .slf id ver=>match hp id with
  |some (.row _ t ver' _ xs)=>match Nat.beq ver ver' with
   |true=>some (.val (.list t) xs,[id])
   |false=>none
  | _=>none
 | .sl id ver off len=>match hp id with
  |some (.row _ t ver' _ xs)=>match Nat.beq ver ver' with
   |true=>some (.val (.list t) ((xs.drop off).take len),[id])
   |false=>none
  | _=>none
 |x=>some (x,[])
def Acw.frz(hp:Aaq):Acw→Option (Acw×List Nat)
 | .a x=>match x.frz hp with
  |some (y,l)=>some (.a y,l)
  |none=>none
 |c=>some (c,[])
def Asg(hp:Aaq):List Acw→Option (List Acw×List Nat)
 |[]=>some ([],[])
 |c::r=>match c.frz hp,Asg hp r with
  |some (d,l),some (s,m)=>some (d::s,l++m)
  | _,_=>none
def AV.frz(hp:Aaq):AV→Option (AV×List Nat)
 | .v (.one c)=>match c.frz hp with
  |some (d,l)=>some (.v (.one d),l)
  |none=>none
 | .v (.agg cs)=>match Asg hp cs with
  |some (ds,l)=>some (.v (.agg ds),l)
  |none=>none
 | .tup _=>none
def Ah6(hp:Aaq):List Nat→List (Nat×Aa1)
 |[]=>[]
 |id::r=>match hp id with
  |some (.row E t ver false xs)=>(id,.row E t ver true xs)::Ah6 hp r
  | _=>Ah6 hp r
def Acw.ok:Acw→Bool
 | .a .undef=>false
 | _=>true
def Bk8:AV→Option (List Acw)
 | .v (.one c)=>match c.ok with|true=>some [c]|false=>none
 | .v (.agg cs)=>match cs.all Acw.ok with|true=>some cs|false=>none
 | .tup _=>none
def C0d(tt:TT)(hp:Aaq)(T:TypeId)(x v:AV)(K:KD R):Option R :=
 match tt.get T,Bk8 v with
 |some i,some new=>match Nat.beq new.length i.size with
  |false=>none
  |true=>match x with
   | .v (.one (.a (.ptr id ver idx fld)))=>match hp id with
    |some (.cells T' cs)=>match Nat.ble (fld+new.length) cs.length with
     |true=>K [(id,.cells T' (Avo cs fld new))] (.at .undef)
     |false=>none
    |some (.row E t ver' false xs)=>match Nat.beq ver ver',Asg hp new with
     |true,some (new',fr)=>match Arg id fr,Nat.ble (fld+new.length) t.size with
      |false,true=>match Bo4 t (Avo (cellsOf t (xs.getD idx t.dflt)) fld new') with
       |some y=>K (Ah6 hp fr++[(id,.row E t ver' false (xs.set idx y))]) (.at .undef)
       |none=>none
      | _,_=>none
     | _,_=>none
    | _=>none
   | _=>none
 | _,_=>none
def Dc8(tt:TT)(hp:Aaq)(T:TypeId)(x:AV)(K:AV→Option R):Option R :=
 match tt.get T with
 |none=>none
 |some i=>match i.d with
  | .slice _=>match x with
   | .v (.one (.a .nilsl))=>K (vi 0)
   | .v (.one (.a .ecap))=>K (vi 0)
   | .v (.one (.a (.val (.list _) xs)))=>K (vi (List.length xs))
   | .v (.one (.a (.nvl _ xs)))=>K (vi (List.length xs))
   | .v (.one (.a (.slf id ver)))=>match hp id with
    |some (.row _ _ ver' _ xs)=>match Nat.beq ver ver' with|true=>K (vi xs.length)|false=>none
    | _=>none
   | .v (.one (.a (.sl id ver _ len)))=>match hp id with
    |some (.row _ _ ver' _ _)=>match Nat.beq ver ver' with|true=>K (vi len)|false=>none
    | _=>none
   | .v (.one (.a (.vs id n)))=>match hp id with
    |some (.cells _ _)=>K (vi n)
    | _=>none
   | _=>none
  | .str=>match x with
   | .v (.one (.a (.val .str xs)))=>K (vi (List.length (α:=UInt8) xs))
   | _=>none
  | .map _ _=>match x with
   | .v (.one (.a .nilmap))=>K (vi 0)
   | .v (.one (.a (.mp id)))=>match hp id with
    |some (.amap _ _ _ m)=>K (vi m.length)
    | _=>none
   | _=>none
  | .arr n _=>K (vi n)
  | _=>none
def Bgw:AV→Option Int
 | .v (.one (.a (.val (.int _) n)))=>some n
 | _=>none
def Czk(i:Int)(K:Nat→Option R):Nat→Nat→Option R
 |0,_=>none
 |m+1,k=>if i=(k:Int) then K k else Czk i K m (k+1)
def B3a(tt:TT)(hp:Aaq)(T:TypeId)(x:AV)(i:Int)(K:KD R):Option R :=
 match tt.get T with
 |none=>none
 |some ti=>match ti.d with
  | .slice E=>match tt.get E with
   |none=>none
   |some ei=>match x with
    | .v (.one (.a (.val (.list t) xs)))=>match Nat.beq ei.size t.size with
     |true=>if 0≤i∧i<(List.length xs:Int) then K [] (.at (.fptr t xs i.toNat 0)) else none
     |false=>none
    | .v (.one (.a (.nvl t xs)))=>match Nat.beq ei.size t.size with
     |true=>if 0≤i∧i<(List.length xs:Int) then K [] (.at (.fptr t xs i.toNat 0)) else none
     |false=>none
    | .v (.one (.a (.slf id ver)))=>match hp id with
     |some (.row _ t ver' _ xs)=>match Nat.beq ver ver',Nat.beq ei.size t.size with
      |true,true=>if 0≤i∧i<(xs.length:Int) then K [] (.at (.ptr id ver i.toNat 0)) else none
      | _,_=>none
     | _=>none
    | .v (.one (.a (.sl id ver off len)))=>match hp id with
     |some (.row _ t ver' _ _)=>match Nat.beq ver ver',Nat.beq ei.size t.size with
      |true,true=>if 0≤i∧i<(len:Int) then K [] (.at (.ptr id ver (off+i.toNat) 0)) else none
      | _,_=>none
     | _=>none
    | .v (.one (.a (.vs id n)))=>match hp id with
     |some (.cells _ _)=>Czk i (fun k=>K [] (.at (.ptr id 0 0 (k*ei.size)))) n 0
     | _=>none
    | _=>none
  | .arr n E=>match tt.get E,Nat.ble 2 n with
   |some ei,true=>match x with
    | .v (.one (.a (.ptr id ver 0 0)))=>match hp id with
     |some (.row _ t ver' _ xs)=>match Nat.beq ver ver',Nat.beq ei.size t.size with
      |true,true=>if 0≤i∧i<(n:Int) then (if i<(xs.length:Int) then K [] (.at (.ptr id ver i.toNat 0)) else none) else none
      | _,_=>none
     |some (.cells T' cs)=>match B29 tt 10 E with
      |some t=>match Bmx t n cs,Nat.beq ver 0,Nat.beq ei.size t.size with
       |some xs,true,true=>if 0≤i∧i<(n:Int) then K [(id,.row T' t 0 false xs)] (.at (.ptr id 0 i.toNat 0)) else none
       | _,_,_=>none
      |none=>none
     | _=>none
    | _=>none
   | _,_=>none
  | _=>none
def Axa(o:Option AV)(d:Int):Option Int :=
 match o with
 |none=>some d
 |some v=>Bgw v
def C0e(tt:TT)(hp:Aaq)(T:TypeId)(x:AV)(lo hi mx:Option AV)(K:AV→Option R):Option R :=
 match tt.get T with
 |none=>none
 |some ti=>match mx with
  |some m=>match ti.d,lo,(match hi with|some h=>Bgw h|none=>none),Bgw m with
   | .slice E,none,some 0,some 0=>match tt.get E,x with
    |some _,.v (.one (.a (.nvl _ _)))=>K (.at .ecap)
    |some _,.v (.one (.a (.val (.list _) _)))=>K (.at .ecap)
    |some _,.v (.one (.a .nilsl))=>K (.at .ecap)
    | _,_=>none
   | _,_,_,_=>none
  |none=>match ti.d with
   | .str=>match x with
    | .v (.one (.a (.val .str s)))=>match Axa lo 0,Axa hi (List.length (α:=UInt8) s) with
     |some l,some h=>if 0≤h∧h≤(List.length (α:=UInt8) s:Int) then (if 0≤l∧l≤h then K (.at (.val .str (((s:List UInt8).take h.toNat).drop l.toNat))) else none) else none
     | _,_=>none
    | _=>none
   | .slice E=>match tt.get E with
    |none=>none
    |some ei=>match x with
     | .v (.one (.a (.val (.list t) xs)))=>match Axa lo 0,Axa hi (List.length xs),Nat.beq ei.size t.size with
      |some l,some h,true=>if 0≤h∧h≤(List.length xs:Int) then (if 0≤l∧l≤h then K (.at (.val (.list t) ((List.take h.toNat xs).drop l.toNat))) else none) else none
      | _,_,_=>none
     | .v (.one (.a (.slf id ver)))=>match hp id with
      |some (.row _ t ver' _ xs)=>match Nat.beq ver ver',lo,hi with
       |true,none,none=>K (.at (.slf id ver))
       |true,lo,hi=>match Axa lo 0,Axa hi (xs.length),Nat.beq ei.size t.size with
        |some l,some h,true=>if 0≤h∧h≤(xs.length:Int) then (if 0≤l∧l≤h then K (.at (.sl id ver l.toNat (h.toNat-l.toNat))) else none) else none
        | _,_,_=>none
       |false,_,_=>none
      | _=>none
     | .v (.one (.a (.sl id ver off len)))=>match hp id with
      |some (.row _ t ver' _ _)=>match Nat.beq ver ver',Axa lo 0,Axa hi len,Nat.beq ei.size t.size with
       |true,some l,some h,true=>if 0≤h∧h≤(len:Int) then (if 0≤l∧l≤h then K (.at (.sl id ver (off+l.toNat) (h.toNat-l.toNat))) else none) else none
       | _,_,_,_=>none
      | _=>none
     | _=>none
   | _=>none
def Bxo(hp:Aaq)(t:Ty):AV→Option (List t.den)
 | .v (.one (.a x))=>match x.frz hp with
  |some (y,_)=>match y with
   | .val .str s=>if h:t = .int .u8 then some (h▸((s:List UInt8).map fun b=>(b.toNat:Int))) else none
   |y=>y.get (.list t)
  |none=>none
 | _=>none
def Crh(tt:TT)(hp:Aaq)(T:TypeId)(Tx:TypeId)(s x:AV)(dst:Nat)(K:KD R):Option R :=
 match tt.get T,tt.get Tx with
 |some ti,some xi=>match ti.d,(match xi.d with | .slice _=>true | .str=>true | _=>false) with
  | .slice E,true=>match tt.get E,B29 tt 10 E with
   |some ei,some t=>match ei.zero,Nat.beq ei.size t.size&&Nat.blt 0 ei.bytes with
    |some zs,true=>match (match Nat.beq zs.length ei.size with|true=>Bxo hp t x|false=>none) with
     |none=>none
     |some ys=>match s with
      | .v (.one (.a .nilsl)) | .v (.one (.a .ecap))=>match hp (Ab1 dst 0) with
       |none=>if ys.length*ei.bytes≤LIM then K [(Ab1 dst 0,.row E t 1 false ys)] (.at (.slf (Ab1 dst 0) 1)) else none
       |some _=>none
      | .v (.one (.a (.slf id ver)))=>match hp id with
       |some (.row E' t' ver' false xs)=>match Nat.beq ver ver',Nat.beq E E' with
        |true,true=>if h:t'=t then (if (xs.length+ys.length)*ei.bytes≤LIM then K [(id,.row E t (ver+1) false ((h▸xs:List t.den)++ys))] (.at (.slf id (ver+1))) else none) else none
        | _,_=>none
       | _=>none
      | .v (.one (.a (.sl id ver off len)))=>match hp id with
       |some (.row E' t' ver' false xs)=>match Nat.beq ver ver' with
        |true=>if h:t'=t then (if off+len+ys.length≤xs.length then K [(id,.row E' t ver false ((h▸xs:List t.den).take (off+len)++ys++(h▸xs:List t.den).drop (off+len+ys.length)))] (.at (.sl id ver off (len+ys.length))) else none) else none
        |false=>none
       | _=>none
      | _=>none
    | _,_=>none
   | _,_=>none
  | _,_=>none
 | _,_=>none
def C6x(tt:TT)(hp:Aaq)(T:TypeId)(d x:AV)(K:KD R):Option R :=
 match tt.get T with
 |some ti=>match ti.d with
  | .slice E=>match tt.get E with
   |some ei=>
    let out (id ver off len:Nat):Option R:=match hp id with
     |some (.row E' t ver' false xs)=>match Nat.beq ver ver',Nat.beq ei.size t.size,Bxo hp t x with
      |true,true,some ys=>K [(id,.row E' t ver false (xs.take off++ys.take (min ys.length len)++xs.drop (off+min ys.length len)))] (vi (min ys.length len:Nat))
      | _,_,_=>none
     | _=>none
    match d with
    | .v (.one (.a (.slf id ver)))=>match hp id with
     |some (.row _ _ _ _ xs)=>out id ver 0 xs.length
     | _=>none
    | .v (.one (.a (.sl id ver off len)))=>out id ver off len
    | _=>none
   |none=>none
  | _=>none
 |none=>none
def Ash{kt et:Ty}(k:kt.den):List (kt.den×et.den)→Option et.den
 |[]=>none
 |(k',v)::r=>match kt.beq k k' with|true=>some v|false=>Ash k r
def Az9{kt et:Ty}(k:kt.den)(v:et.den):List (kt.den×et.den)→List (kt.den×et.den)
 |[]=>[(k,v)]
 |(k',v')::r=>match kt.beq k k' with|true=>(k,v)::r|false=>(k',v')::Az9 k v r
def Cri{kt et:Ty}(k:kt.den):List (kt.den×et.den)→List (kt.den×et.den)
 |[]=>[]
 |(k',v')::r=>match kt.beq k k' with|true=>r|false=>(k',v')::Cri k r
def Cmt(tt:TT)(T:TypeId):Option Ty :=
 match tt.get T with
 |some i=>match i.d with
  | .map k _=>match tt.get k with
   |some ki=>match ki.d with
    | .bool=>some .bool
    | .int k=>some (.int k)
    | .str=>some .str
    | _=>none
   |none=>none
  | _=>none
 |none=>none
def C6y(k:Int)(K0:Option R)(K:Acw→Option R):List (Int×Acw)→Option R
 |[]=>K0
 |(k',c)::r=>if k=k' then K c else C6y k K0 K r
def C6z(k:Int)(c:Acw)(K:List (Int×Acw)→Option R):List (Int×Acw)→List (Int×Acw)→Option R
 |pre,[]=>K (pre++[(k,c)])
 |pre,(k',c')::r=>if k=k' then K (pre++(k,c)::r) else C6z k c K (pre++[(k',c')]) r
def Crj(tt:TT)(hp:Aaq)(T:TypeId)(m k v:AV)(K:KD R):Option R :=
 match m with
 | .v (.one (.a (.mp id)))=>match hp id,Cmt tt T with
  |some (.amap T' kt et f),some kt'=>match k.get kt,v.get et,decide (kt'=kt) with
   |some k,some v,true=>K [(id,.amap T' kt et (Az9 k v f))] (.at .undef)
   | _,_,_=>none
  |some (.fmap T' ki f),some kt'=>match k.get (.int ki),v,decide (kt' = .int ki) with
   |some k,.v (.one c),true=>C6z k c (fun f'=>K [(id,.fmap T' ki f')] (.at .undef)) [] f
   | _,_,_=>none
  | _,_=>none
 | _=>none
def B8f(tt:TT)(t:Ty)(E:TypeId):Option t.den :=
 match tt.get E with
 |some i=>match i.zero with
  |some zs=>Bo4 t zs
  |none=>none
 |none=>none
def Crk(tt:TT)(hp:Aaq)(T:TypeId)(m k:AV)(ok:Bool)(K:AV→Option R):Option R :=
 match tt.get T with
 |some ti=>match ti.d,m with
  | .map _ E,.v (.one (.a (.mp id)))=>match hp id with
   |some (.amap _ kt et f)=>match Cmt tt T with
    |some kt'=>match k.get kt,decide (kt'=kt)&&Nat.beq et.size 1,B8f tt et E with
     |some k,true,some z=>match (match tt.get E with|some ei => !ei.d.agg|none=>false),ok with
      |false,_=>none
      |true,false=>K (.at (.val et ((Ash k f).getD z)))
      |true,true=>K (.tup [.one (.a (.val et ((Ash k f).getD z))),.one (.a (.val .bool (Ash k f).isSome))])
     | _,_,_=>none
    |none=>none
   |some (.fmap _ ki f)=>match Cmt tt T,tt.get E with
    |some kt',some ei=>match k.get (.int ki),ei.zero,decide (kt' = .int ki)&&(!ei.d.agg && !ok) with
     |some k,some [z],true=>C6y k (K (.v (.one z))) (fun c=>K (.v (.one c))) f
     | _,_,_=>none
    | _,_=>none
   | _=>none
  | _,_=>none
 |none=>none
def B3b(place:Nat→Option (Nat×Nat))(cs:List Acw):List (Nat×AV)→Option (List Acw)
 |[]=>some cs
 |(i,v)::r=>match place i,Bk8 v with
  |some (off,size),some new=>match Nat.beq new.length size,Nat.ble (off+new.length) cs.length with
   |true,true=>B3b place (Avo cs off new) r
   | _,_=>none
  | _,_=>none
def C0f(tt:TT)(T:TypeId)(parts:List (Nat×AV))(K:AV→Option R):Option R :=
 match tt.get T with
 |some i=>match i.zero,i.d with
  |some zs,.struct fs=>match B3b (fun j=>match fs[j]? with|some f=>some (f.1,f.2.1)|none=>none) zs parts with
   |some cs=>K (.v (.agg cs))
   |none=>none
  |some zs,.arr _ E=>match tt.get E with
   |some ei=>match B3b (fun j=>some (j*ei.size,ei.size)) zs parts with
    |some cs=>K (.v (.agg cs))
    |none=>none
   |none=>none
  | _,_=>none
 |none=>none
def B0e(n:Nat)(zs:List Acw):List Acw:=match n with
 |0=>[]
 |n+1=>zs++B0e n zs
def B0f(tt:TT)(hp:Aaq)(T:TypeId)(len:Nat)(parts:List (Nat×AV))(dst:Nat)(K:KD R):Option R :=
 match tt.get T with
 |some i=>match i.d with
  | .slice E=>match tt.get E,B29 tt 10 E,hp (Ab1 dst 0) with
   |some ei,some t,none=>match ei.zero,Nat.beq ei.size t.size,Nat.ble len 4096,Nat.ble ei.size 4096 with
    |some zs,true,true,true=>match Nat.beq zs.length ei.size,B3b (fun j=>some (j*ei.size,ei.size)) (B0e len zs) parts with
     |true,some cs=>match Asg hp cs with
      |some (cs',fr)=>match Bmx t len cs' with
       |some xs=>K (Ah6 hp fr++[(Ab1 dst 0,.row E t 0 false xs)]) (.at (.slf (Ab1 dst 0) 0))
       |none=>none
      |none=>none
     | _,_=>none
    | _,_,_,_=>none
   |some ei,none,none=>match ei.zero,Nat.ble 1 len&&Nat.ble len 64,Nat.ble 1 ei.size&&Nat.ble ei.size 64 with
    |some zs,true,true=>match Nat.beq zs.length ei.size,B3b (fun j=>some (j*ei.size,ei.size)) (B0e len zs) parts with
     |true,some cs=>K [(Ab1 dst 0,.cells E cs)] (.at (.vs (Ab1 dst 0) len))
     | _,_=>none
    | _,_,_=>none
   | _,_,_=>none
  | _=>none
 |none=>none
def Amw(hp:Aaq):List Bool→List AV→Option (List AV×List Nat)
 | _,[]=>some ([],[])
 |[],a::r=>match Amw hp [] r with
  |some (s,m)=>some (a::s,m)
  |none=>none
 |true::f,a::r=>match a.frz hp,Amw hp f r with
  |some (b,l),some (s,m)=>some (b::s,l++m)
  | _,_=>none
 |false::f,a::r=>match Amw hp f r with
  |some (s,m)=>some (a::s,m)
  |none=>none
def Asf.flat:Asf→Bool
 | .val t _=>t.flat
 | .nvl _ _ | .fptr _ _ _ _=>false
 | _=>true
def Acw.flat:Acw→Bool
 | .a x=>x.flat
 | .func _ caps=>caps.all Asf.flat
 | .iface _ cs=>cs.all Asf.flat
def V1.flat:V1→Bool
 | .one c=>c.flat
 | .agg cs=>cs.all Acw.flat
def AV.flat:AV→Bool
 | .v x=>x.flat
 | .tup xs=>xs.all V1.flat
def Aa1.flat:Aa1→Bool
 | .cells _ cs=>cs.all Acw.flat
 | .row _ t _ fz _=>t.flat && !fz
 | .amap _ kt et _=>kt.flat&&et.flat
 | .fmap _ _ m=>m.all fun p=>p.2.flat
def A2n(x:Nat):List Nat→Nat→Option Nat
 |[],_=>none
 |y::r,i=>match Nat.beq x y with|true=>some i|false=>A2n x r (i+1)
def Aa1.ver:Aa1→Nat
 | .row _ _ ver _ _=>ver
 | _=>0
def Bsq(hp:Aaq)(ids:List Nat):Ren:=fun id=>match A2n id ids 0 with
 |some i=>match hp id with
  |some b=>some (i,fun v=>match Nat.beq v b.ver with|true=>some 0|false=>none)
  |none=>none
 |none=>none
def Ap9(v:Nat):Aa1→Aa1
 | .row E t _ fz xs=>.row E t v fz xs
 |b=>b
def A2o(hp:Aaq)(σ:Ren):List Nat→Option (List Aa1)
 |[]=>some []
 |id::r=>match hp id,A2o hp σ r with
  |some (.row _ _ _ true _),_=>none
  |some b,some s=>some (Ap9 0 (b.ren σ)::s)
  | _,_=>none
def Ax8(hp:Aaq)(grow:List Bool)(ids:List Nat)(i:Nat):Nat:=match ids[i]? with
 |some id=>match hp id with
  |some (.row _ _ ver _ _)=>match grow.getD i false with|true=>ver+1|false=>ver
  | _=>0
 |none=>0
def Apt(hp:Aaq)(grow:List Bool)(ids:List Nat)(dst:Nat):Ren:=fun i=>match Nat.ble 32 i with
 |true=>some (Ab1 dst (i-32),fun v=>some v)
 |false=>match ids[i]? with
  |some id=>some (id,fun v=>match Nat.beq v 0 with|true=>some (Ax8 hp grow ids i)|false=>none)
  |none=>none
def Bth(a b:Aa1):Bool:=match a with
 | .cells T cs=>(match b with | .cells T' cs'=>Nat.beq T T'&&Nat.beq cs.length cs'.length | _=>false)
 | .row E t _ fz _=>(match b with | .row E' t' v fz' _ => !fz&&(!fz'&&(Nat.beq E E'&&decide (t=t')&&Nat.beq v 0)) | _=>false)
 | .amap T kt et _=>(match b with | .amap T' kt' et' _=>Nat.beq T T'&&decide (kt=kt')&&decide (et=et') | _=>false)
 | .fmap T k _=>(match b with | .fmap T' k' _=>Nat.beq T T'&&decide (k=k') | _=>false)
def Bnf(hp:Aaq)(grow:List Bool)(ids:List Nat)(τ:Ren):List Nat→Nat→List Aa1→Option (List (Nat×Aa1))
 |[],_,[]=>some []
 |id::r,i,b::s=>match hp id,Bnf hp grow ids τ r (i+1) s with
  |some b0,some l=>match Bth b0 b with
   |true=>some ((id,Ap9 (Ax8 hp grow ids i) (b.ren τ))::l)
   |false=>none
  | _,_=>none
 | _,_,_=>none
def Bti(hp:Aaq)(dst:Nat)(τ:Ren):Nat→List Aa1→Option (List (Nat×Aa1))
 | _,[]=>some []
 |j,b::r=>match Nat.blt j 8 && !(match b with | .row _ _ _ fz _=>fz | _=>false),hp (Ab1 dst j),Bti hp dst τ (j+1) r with
  |true,none,some l=>some ((Ab1 dst j,b.ren τ)::l)
  | _,_,_=>none
def Btj(tt:TT)(dst:Nat):List (Nat×Nat×TypeId)→List Acw→Nat→Option (List Acw×List (Nat×Aa1))
 |[],[],_=>some ([],[])
 |f::fs,c::cs,j=>match Nat.beq f.2.1 1 with
  |false=>none
  |true=>match c with
   | .a .nilsl=>match tt.get f.2.2,Btj tt dst fs cs (j+1) with
    |some i,some (ds,l)=>match i.d with
     | .slice E=>match B29 tt 10 E,Nat.blt j 16 with
      |some t,true=>some (.a (.slf (Ab1 dst j) 0)::ds,(Ab1 dst j,.row E t 0 false [])::l)
      | _,_=>none
     | _=>none
    | _,_=>none
   |c=>match Btj tt dst fs cs j with
    |some (ds,l)=>some (c::ds,l)
    |none=>none
 | _,_,_=>none
def Bxp(tt:TT)(hp:Aaq)(dst:Nat):List Nat→Option (List (Nat×Aa1))
 |[]=>some []
 |id::r=>match hp id,Bxp tt hp dst r with
  |some b,some l=>(match b with
   | .cells T cs=>match cs.any fun c=>match c with | .a .nilsl=>true | _=>false with
    |false=>some l
    |true=>match l,tt.get T with
     |[],some i=>match i.d with
      | .struct fs=>match Btj tt dst fs cs 8 with
       |some (ds,m)=>match m.all fun p=>match hp p.1 with|none=>true|some _=>false with
        |true=>some ((id,.cells T ds)::m)
        |false=>none
       |none=>none
      | _=>none
     | _,_=>none
   | _=>some l)
  | _,_=>none
def Dmg(l m:List Nat):Bool:=l.all fun x => !Arg x m
def Cdv(s:Aae)(hp:Aaq)(args':List AV)(fr:List Nat)(pre:List (Nat×Aa1))(dst:Nat)(K:KD R):Option R :=
 let ids:=A4z hp 400 (args'.flatMap AV.refs) []
 match Dmg fr ids,Nat.blt ids.length 32,A2o hp (Bsq hp ids) ids with
 |true,true,some bl=>s.run R (args'.map (AV.ren (Bsq hp ids))) bl fun v bl' nw=>
  match Bnf hp s.grow ids (Apt hp s.grow ids dst) ids 0 bl',Bti hp dst (Apt hp s.grow ids dst) 0 nw with
  |some l,some l'=>match fr,v.flat&&bl'.all Aa1.flat&&nw.all Aa1.flat with
   |[],_=>K (pre++(l++l')) (v.ren (Apt hp s.grow ids dst))
   | _,true=>K (pre++(l++l')) (v.ren (Apt hp s.grow ids dst))
   |fr,false=>K (pre++(Ah6 hp fr++(l++l'))) (v.ren (Apt hp s.grow ids dst))
  | _,_=>none
 | _,_,_=>none
def C60(tt:TT)(Γ:FuncId→Option Aae)(hp:Aaq)(f:FuncId)(args:List AV)(dst:Nat)(K:KD R):Option R :=
 match Γ f with
 |none=>none
 |some s=>match Amw hp s.pure args with
  |none=>none
  |some (args',fr)=>match s.mat with
   |false=>Cdv s hp args' fr [] dst K
   |true=>match Bxp tt hp dst (A4z hp 400 (args'.flatMap AV.refs) []) with
    |none=>none
    |some pre=>Cdv s (Ab3 hp pre) args' fr pre dst K
def Bdy(mx:Bool):Nat→List AV→Option AV
 |0,_=>none
 |c+1,l=>match l with
  |[]=>none
  |[x]=>some x
  | .v (.one (.a (.val (.int k) m)))::.v (.one (.a (.val (.int k') n)))::r=>
   if k=k' then Bdy mx c (vI k (match mx with|true=>if (n:Int) > m then n else m|false=>if (n:Int)<m then n else m)::r) else none
  | _=>none
def B07(mx:Bool)(l:List AV):Option AV:=Bdy mx 9 l
def Cmu(tt:TT)(Γ:FuncId→Option Aae)(o:Oper)(ev:Operand→AV)(hp:Aaq)(K:KD R):Option R :=
 let dst:=o.dst.getD 0
 match o.op with
 | .move x | .assign x=>K [] (ev x)
 | .pick c a b=>match (ev c).get .bool with
  |some t=>if t=true then K [] (ev a) else K [] (ev b)
  |none=>none
 | .alloc T=>match hp (Ab1 dst 0),tt.get T with
  |none,some i=>match i.zero with
   |some zs=>K [(Ab1 dst 0,.cells T zs)] (.at (.ptr (Ab1 dst 0) 0 0 0))
   |none=>none
  | _,_=>none
 | .box T x=>match hp (Ab1 dst 0),Bk8 (ev x) with
  |none,some cs=>K [(Ab1 dst 0,.cells T cs)] (.at (.ptr (Ab1 dst 0) 0 0 0))
  | _,_=>none
 | .build T parts=>C0f tt T (parts.toList.map fun p=>(p.1,ev p.2)) (K [])
 | .buildSlice T len parts=>B0f tt hp T len (parts.toList.map fun p=>(p.1,ev p.2)) dst K
 | .load T x=>Czj tt hp T (ev x) (K [])
 | .store T x v=>C0d tt hp T (ev x) (ev v) K
 | .nilCheck x=>match ev x with
  | .v (.one (.a (.ptr id ver idx fld)))=>K [] (.at (.ptr id ver idx fld))
  | _=>none
 | .fieldAddr T x f=>match tt.get T with
  |some i=>match i.d with
   | .struct fs=>match fs[f]? with
    |some fd=>match Nat.beq fd.2.1 0,ev x with
     |false,.v (.one (.a (.ptr id ver idx fld)))=>K [] (.at (.ptr id ver idx (fld+fd.1)))
     |false,.v (.one (.a (.fptr t xs idx fld)))=>K [] (.at (.fptr t xs idx (fld+fd.1)))
     | _,_=>none
    |none=>none
   | _=>none
  |none=>none
 | .field T x f=>match tt.get T with
  |some i=>match i.d with
   | .struct fs=>match fs[f]?,ev x with
    |some fd,.v (.agg cs)=>match tt.get fd.2.2 with
     |some fi=>match Nat.ble (fd.1+fi.size) cs.length,Chs fi.d.agg ((cs.drop fd.1).take fi.size) with
      |true,some v=>K [] v
      | _,_=>none
     |none=>none
    | _,_=>none
   | _=>none
  |none=>none
 | .indexAddr T x i=>match Bgw (ev i) with
  |some i=>B3a tt hp T (ev x) i K
  |none=>none
 | .index T x i=>match (match tt.get T with|some i=>i.d|none=>.other),ev x,Bgw (ev i) with
  | .str,.v (.one (.a (.val .str s))),some i=>if 0≤i∧i<(List.length (α:=UInt8) s:Int) then K [] (vI .u8 (((s:List UInt8).getD i.toNat 0).toNat:Int)) else none
  | _,_,_=>none
 | .binOp op T x y _=>Dc7 tt op T x y (ev x) (ev y) (K [])
 | .unOp op _ x=>match op,ev x with
  | .not,.v (.one (.a (.val .bool b)))=>K [] (vb (!b))
  | .neg,.v (.one (.a (.val (.int k) n)))=>K [] (vI k (k.wrap (0-n)))
  | .xor,.v (.one (.a (.val (.int k) n)))=>match k.signed with|true=>K [] (vI k (Bbt k (-1) n))|false=>none
  | _,_=>none
 | .convert S T x=>match tt.get S,tt.get T with
  |some si,some ti=>match si.d,ti.d,ev x with
   | _,.int k,.v (.one (.a (.val (.int _) n)))=>K [] (vI k (k.wrap n))
   | .str,.str,.v (.one (.a (.val .str s)))=>K [] (.at (.val .str s))
   | .str,.slice E,.v (.one (.a (.val .str s)))=>match tt.get E,hp (Ab1 dst 0) with
    |some ei,none=>match ei.d with
     | .int .u8=>if (s:List UInt8).length≤LIM then K [(Ab1 dst 0,.row E (.int .u8) 0 false ((s:List UInt8).map fun b=>(b.toNat:Int)))] (.at (.slf (Ab1 dst 0) 0)) else none
     | _=>none
    | _,_=>none
   | .slice E,.str,.v (.one (.a x))=>match tt.get E with
    |some ei=>match ei.d with
     | .int .u8=>match x.frz hp with
      |some (y,_)=>match y.get (.list (.int .u8)) with
       |some ys=>K [] (.at (.val .str ((ys:List Int).map fun n=>UInt8.ofNat n.toNat)))
       |none=>none
      |none=>none
     | _=>none
    |none=>none
   | _,_,_=>none
  | _,_=>none
 | .slice T x lo hi mx=>C0e tt hp T (ev x) (lo.map ev) (hi.map ev) (mx.map ev) (K [])
 | .makeFunc (.func f) first captured=>match first.toList,B06 (captured.toList.map ev) with
  |[],some caps=>K [] (.v (.one (.func f caps)))
  | _,_=>none
 | .makeMap T rsv=>match tt.get T,hp (Ab1 dst 0),rsv with
  |some i,none,none=>match i.d with
   | .map k e=>match B29 tt 10 k,B29 tt 10 e with
    |some kt,some et=>K [(Ab1 dst 0,.amap T kt et [])] (.at (.mp (Ab1 dst 0)))
    |some (.int ki),none=>K [(Ab1 dst 0,.fmap T ki [])] (.at (.mp (Ab1 dst 0)))
    | _,_=>none
   | _=>none
  | _,_,_=>none
 | .mapUpdate T m k v=>Crj tt hp T (ev m) (ev k) (ev v) K
 | .lookup T m k ok=>Crk tt hp T (ev m) (ev k) ok (K [])
 | .makeSlice T l c=>match tt.get T,Bgw (ev l),Bgw (ev c),hp (Ab1 dst 0) with
  |some i,some l,some c,none=>match i.d with
   | .slice E=>match tt.get E,B29 tt 10 E with
    |some ei,some t=>match Nat.beq ei.size t.size&&Nat.blt 0 ei.bytes,B8f tt t E with
     |true,some z=>if 0≤l∧l≤c∧c*(ei.bytes:Int)≤(LIM:Int) then K [(Ab1 dst 0,.row E t 0 false (List.replicate l.toNat z))] (.at (.slf (Ab1 dst 0) 0)) else none
     | _,_=>none
    | _,_=>none
   | _=>none
  | _,_,_,_=>none
 | .extract x i=>match ev x with
  | .tup vs=>match vs[i]? with|some v=>K [] (.v v)|none=>none
  | _=>none
 | .call c=>match c.callee,c.args.toList,c.argTypes.toList with
  | .builtin .len,[x],[T]=>Dc8 tt hp T (ev x) (K [])
  | .builtin .max,l,_=>match B07 true (l.map ev) with|some v=>K [] v|none=>none
  | .builtin .min,l,_=>match B07 false (l.map ev) with|some v=>K [] v|none=>none
  | .builtin .append,[s,x],[T,Tx]=>Crh tt hp T Tx (ev s) (ev x) dst K
  | .builtin .copy,[d,x],T::_=>C6x tt hp T (ev d) (ev x) K
  | .value f,l,_=>match ev f with
   | .v (.one (.func f caps))=>C60 tt Γ hp f (l.map ev++caps.map AV.at) dst K
   | _=>none
  | _,_,_=>none
 | _=>none
end ops
end
end Go.AX
namespace Go.AX
noncomputable section
inductive Ex where
 |normal|exit (id:Nat)|ret
def Ak3(ops:Array Oper)(o:Oper):List Nat :=
 (o.op.operands.toList.filterMap fun | .tmp t=>some t | _=>none) ++
 (match o.guard with
  |some (g,_)=>((ops[g]?).bind (·.dst)).toList
  |none=>[])
section
variable {R:Type}
def Bxq(ops:Array Oper)(o:Oper)(st:ASt)(Kyes Kno:ASt→Option R):Option R :=
 match o.guard with
 |none=>Kyes st
 |some (j,want)=>match (ops[j]?).bind (·.dst) with
  |none=>none
  |some d=>match st.env d with
   | .v (.one (.a (.val .bool b)))=>if (b:Bool)=true
    then (match want with|true=>Kyes (st.set (some d) (vb true))|false=>Kno (st.set (some d) (vb true)))
    else (match want with|true=>Kno (st.set (some d) (vb false))|false=>Kyes (st.set (some d) (vb false)))
   | .tup []=>Kno st
   | _=>none
variable (tt:TT) (Γ:FuncId→Option Aae)
def Ak4(g:List Bool)(hp:Aaq):List (Nat×Aa1)→Bool
 |[]=>true
 |(id,b)::r=>(match Nat.ble 32 id with
  |true=>true
  |false=>match hp id,b with
   |some (.cells _ _),.cells _ _=>true
   |some (.amap _ _ _ _),.amap _ _ _ _=>true
   |some (.fmap _ _ _),.fmap _ _ _=>true
   |some (.row _ _ v fz _),.row _ _ v' fz' _=>(fz==fz')&&(Nat.beq v v'||g.getD id false)
   | _,_=>false)&&Ak4 g hp r
variable (g:List Bool)
def C0g(ops:Array Oper):List Nat→ASt→(ASt→Option R)→Option R
 |[],st,K=>K st
 |i::rest,st,K=>match ops[i]? with
  |none=>none
  |some o=>Bxq ops o st
   (fun st=>Cmu tt Γ o (evs st.env) st.hp fun l v=>match Ak4 g st.hp l with
    |true=>C0g ops rest (st.upd o.dst l v) K
    |false=>none)
   (fun st=>C0g ops rest (st.set o.dst (.tup [])) K)
def Cht(uses:List Nat)(env:Env):Env:=fun s=>match Arg s uses with|true=>env s|false=>.at .undef
def hpR(ids:List Nat)(hp:Aaq):Aaq:=fun s=>match Arg s ids with|true=>hp s|false=>none
def Djx(o:Oper):Bool:=match o.op with
 | .call {callee:=.value _,..}=>true
 | _=>false
def looks(o:Oper)(env:Env)(hp:Aaq):List Nat :=
 let direct:=o.op.operands.toList.flatMap fun x=>(evs env x).refs
 (match Djx o with|true=>A4z hp 400 direct []|false=>direct)++(List.range 16).map (Ab1 (o.dst.getD 0))
structure Bsr where
 i:Nat
 looks:List Nat
 writes:List Nat
def Cmv(a b:List Nat):Bool:=a.any fun x=>Arg x b
def apart(ops:Array Oper)(a b:Bsr):Bool :=
 match ops[a.i]?,ops[b.i]? with
 |some x,some y=>
  !Cmv a.writes b.looks && !Cmv b.writes a.looks && !Cmv a.writes b.writes &&
  (match x.dst with|some d => !Arg d (Ak3 ops y)&&(match y.dst with|some e => !Nat.beq d e|none=>true)|none=>true) &&
  (match y.dst with|some d => !Arg d (Ak3 ops x)|none=>true)
 | _,_=>false
def Atr(ops:Array Oper):List (List Nat) :=
 ops.toList.foldl (fun acc o=>acc++[o.after.toList.flatMap fun e=>match Region.binds .any e with|true=>e.on::acc.getD e.on []|false=>[]]) []
def Bs9(ops:Array Oper)(bef:List (List Nat)):List Bsr→Bool
 |[]=>true
 |a::r=>(r.all fun b=>Arg a.i (bef.getD b.i [])||apart ops a b)&&Bs9 ops bef r
def A40(ops:Array Oper):Bool:=(List.range ops.size).all fun i=>match ops[i]? with
 |some o=>o.after.toList.all fun e => !Region.binds .any e||Nat.blt e.on i
 |none=>false
def Cdw(ops:Array Oper):List Nat→ASt→List Bsr→(ASt→List Bsr→Option R)→Option R
 |[],st,tr,K=>K st tr
 |i::rest,st,tr,K=>match ops[i]? with
  |none=>none
  |some o=>Bxq ops o st
   (fun st=>Cmu tt Γ o (evs (Cht (Ak3 ops o) st.env)) (hpR (looks o st.env st.hp) st.hp) fun l v=>match Ak4 g st.hp l with
    |true=>Cdw ops rest (st.upd o.dst l v) (tr++[⟨i,looks o st.env st.hp,l.map (·.1)⟩]) K
    |false=>none)
   (fun st=>Cdw ops rest (st.set o.dst (.tup [])) (tr++[⟨i,[],[]⟩]) K)
def Crl(ops:Array Oper)(draw:Bool)(st:ASt)(K:ASt→Option R):Option R :=
 match draw with
 |false=>C0g tt Γ g ops (List.range ops.size) st K
 |true=>match A40 ops with
  |true=>Cdw tt Γ g ops (List.range ops.size) st [] fun st tr=>match Bs9 ops (Atr ops) tr with
   |true=>K st
   |false=>none
  |false=>none
def Ahe:Code→Nat
 | .region id _ _=>id
 | .seq a _=>Ahe a
 | .block _ a=>Ahe a
 | .loop a=>Ahe a
 | .cond _ a _=>Ahe a
 | .scope a=>Ahe a
 | _=>0
abbrev Abu:=(R:Type)→ASt→(Ex→ASt→Option R)→Option R
def Cdx(step:ASt→(Ex→ASt→Option R)→Option R):Nat→ASt→(Ex→ASt→Option R)→Option R
 |0,_,_=>none
 |k+1,st,K=>step st fun e st=>match e with
  | .normal=>Cdx step k st K
  |e=>K e st
variable (Λ:Nat→Option Abu)
def Aal:Code→ASt→(Ex→ASt→Option R)→Option R
 | .skip,st,K=>K .normal st
 | .region _ ops draw,st,K=>Crl tt Γ g ops draw st (K .normal)
 | .seq a b,st,K=>Aal a st fun e st=>match e with
  | .normal=>match Λ (2*Ahe b) with
   |some F=>F R st K
   |none=>Aal b st K
  |e=>K e st
 | .cond c a b,st,K=>match evs st.env c with
  | .v (.one (.a (.val .bool t)))=>if (t:Bool)=true then Aal a st K else Aal b st K
  | _=>none
 | .block id a,st,K=>Aal a st fun e st=>match e with
  | .exit id'=>match Nat.beq id' id with|true=>K .normal st|false=>K (.exit id') st
  |e=>K e st
 | .loop a,st,K=>match Λ (2*Ahe a+1) with
  |some F=>F R st K
  |none=>Cdx (fun st K=>Aal a st K) 64 st K
 | .exit id,st,K=>K (.exit id) st
 | .scope a,st,K=>Aal a st K
 | .ret,st,K=>K .ret st
 | _,_,_=>none
end
inductive Are where
 |val (t:Ty)          -- data
 |slf (id:Nat)        -- a whole slice of the call's own
 |ptr (id:Nat)        -- the head of a block
 |mp (id:Nat)
 |same (x:Asf)       -- a fixed atom without a reference
 |fn (f:FuncId)
 |vs (id n:Nat)       -- a slice over a block of cells
 |fnp (f:FuncId) (ids:List Nat)   -- a A4z that captures the heads of blocks
 |any                   -- nothing is said
inductive Ac4 where
 |one (c:Are)
 |agg (cs:List Are)
inductive Afi where
 |cells (T:TypeId) (cs:List Are)
 |row (E:TypeId) (t:Ty)
 |amap (T:TypeId) (kt et:Ty)
 |fmap (T:TypeId) (k:IntKind) (ks:List Int) (cs:List Are)
structure Aac where
 env:List (Nat×Ac4)
 hp:List (Nat×Afi)
@[reducible] def Are.den:Are→Type
 | .val t=>t.den
 | _=>Unit
@[reducible] def Bmy:List Are→Type
 |[]=>Unit
 |c::r=>c.den×Bmy r
@[reducible] def Ac4.den:Ac4→Type
 | .one c=>c.den
 | .agg cs=>Bmy cs
@[reducible] def Btk:List (Nat×Ac4)→Type
 |[]=>Unit
 |(_,p)::r=>p.den×Btk r
@[reducible] def Afi.den:Afi→Type
 | .cells _ cs=>Bmy cs
 | .row _ t=>List t.den
 | .amap _ kt et=>List (kt.den×et.den)
 | .fmap _ _ _ cs=>Bmy cs
@[reducible] def Bmz:List (Nat×Afi)→Type
 |[]=>Unit
 |(_,p)::r=>p.den×Bmz r
@[reducible] def Aac.den(p:Aac):Type:=Btk p.env×Bmz p.hp
def B3c:(p:Are)→p.den→Acw
 | .val t,v=>.a (.val t v)
 | .slf id,_=>.a (.slf id 0)
 | .ptr id,_=>.a (.ptr id 0 0 0)
 | .mp id,_=>.a (.mp id)
 | .vs id n,_=>.a (.vs id n)
 | .same x,_=>.a x
 | .fn f,_=>.func f []
 | .fnp f ids,_=>.func f (ids.map fun id=>.ptr id 0 0 0)
 | .any,_=>.a .undef
def Bxr:(ps:List Are)→Bmy ps→List Acw
 |[],_=>[]
 |p::r,v=>B3c p v.1::Bxr r v.2
def C61:(p:Ac4)→p.den→AV
 | .one c,v=>.v (.one (B3c c v))
 | .agg cs,v=>.v (.agg (Bxr cs v))
def Dc9:List Int→List Acw→List (Int×Acw)
 |k::ks,c::cs=>(k,c)::Dc9 ks cs
 | _,_=>[]
def Crm:(p:Afi)→p.den→Aa1
 | .cells T cs,v=>.cells T (Bxr cs v)
 | .row E t,xs=>.row E t 0 false xs
 | .amap T kt et,m=>.amap T kt et m
 | .fmap T k ks cs,v=>.fmap T k (Dc9 ks (Bxr cs v))
def Bgx:(ps:List (Nat×Ac4))→Btk ps→Env
 |[],_=>fun _=>.at .undef
 |(s,p)::r,v=>fun t=>match Nat.beq t s with|true=>C61 p v.1|false=>Bgx r v.2 t
def Bde:(ps:List (Nat×Afi))→Bmz ps→Aaq
 |[],_=>fun _=>none
 |(id,p)::r,v=>fun t=>match Nat.beq t id with|true=>some (Crm p v.1)|false=>Bde r v.2 t
def Aab(p:Aac)(x:p.den):ASt:=⟨Bgx p.env x.1,Bde p.hp x.2⟩
abbrev Src:=List (Nat×Option Nat)
def Ahi:Src→Nat→Option (Option Nat)
 |[],_=>none
 |(k,o)::r,id=>match Nat.beq id k with|true=>some o|false=>Ahi r id
def Btl:Option Nat→Option Nat→Bool
 |none,none=>true
 |some a,some b=>Nat.beq a b
 | _,_=>false
def Bgy(σ:Src)(id:Nat)(o:Option Nat):Option Src :=
 match Ahi σ id with
 |some o'=>match Btl o o',o with
  |true,some _=>some σ
  | _,_=>none
 |none=>match o with
  |none=>match Nat.ble 32 id with|true=>some ((id,none)::σ)|false=>none
  |some old=>match (σ.any fun p=>Btl p.2 (some old))||(!Nat.ble 32 id && !Nat.beq id old)||(Nat.ble 32 id && !Nat.ble 32 old) with
   |true=>none
   |false=>some ((id,some old)::σ)
structure DSt where
 src:Src
 fz:List Nat
def Crn(hp:Aaq):List Nat→List Asf→DSt→Option DSt
 |[],[],σ=>some σ
 |id::r,.ptr old ver idx fld::cs,σ=>match Nat.beq ver 0,Nat.beq idx 0,Nat.beq fld 0,Bgy σ.src id (some old),hp old with
  |true,true,true,some s,some b=>match Nat.beq b.ver 0 with
   |true=>Crn hp r cs ⟨s,σ.fz⟩
   |false=>none
  | _,_,_,_,_=>none
 | _,_,_=>none
def Czl:List (Int×Acw)→List Int→Bool
 |[],[]=>true
 |p::r,k::s=>match decide (p.1=k) with|true=>Czl r s|false=>false
 | _,_=>false
def C62:List (Int×Acw)→List Acw
 |[]=>[]
 |p::r=>p.2::C62 r
def Cro(hp:Aaq):(p:Are)→Acw→DSt→Option (p.den×DSt)
 | .val t,.a x,σ=>match x.frz hp with
  |some (y,l)=>match y.get t with
   |some v=>some (v,⟨σ.src,l++σ.fz⟩)
   |none=>none
  |none=>none
 | .slf id,.a .nilsl,σ=>match Bgy σ.src id none with
  |some s=>some ((),⟨s,σ.fz⟩)
  |none=>none
 | .slf id,.a .ecap,σ=>match Bgy σ.src id none with
  |some s=>some ((),⟨s,σ.fz⟩)
  |none=>none
 | .slf id,.a (.slf old ver),σ=>match hp old with
  |some b=>match Nat.beq ver b.ver,Bgy σ.src id (some old) with
   |true,some s=>some ((),⟨s,σ.fz⟩)
   | _,_=>none
  |none=>none
 | .ptr id,.a (.ptr old ver idx fld),σ=>match Nat.beq ver 0,Nat.beq idx 0,Nat.beq fld 0,Bgy σ.src id (some old),hp old with
  |true,true,true,some s,some b=>match Nat.beq b.ver 0 with
   |true=>some ((),⟨s,σ.fz⟩)
   |false=>none
  | _,_,_,_,_=>none
 | .mp id,.a (.mp old),σ=>match Bgy σ.src id (some old) with
  |some s=>some ((),⟨s,σ.fz⟩)
  |none=>none
 | .vs id n,.a (.vs old n'),σ=>match hp old with
  |some (.cells _ _)=>match Nat.beq n n',Bgy σ.src id (some old) with
   |true,some s=>some ((),⟨s,σ.fz⟩)
   | _,_=>none
  | _=>none
 | .same .nilsl,.a .nilsl,σ=>some ((),σ)
 | .same .nilptr,.a .nilptr,σ=>some ((),σ)
 | .same .nilmap,.a .nilmap,σ=>some ((),σ)
 | .same .nilfn,.a .nilfn,σ=>some ((),σ)
 | .same .nilif,.a .nilif,σ=>some ((),σ)
 | .same .ecap,.a .ecap,σ=>some ((),σ)
 | .fn f,.func f' [],σ=>match Nat.beq f f' with|true=>some ((),σ)|false=>none
 | .any,_,σ=>some ((),σ)
 | .fnp f ids,.func f' caps,σ=>match Nat.beq f f',Crn hp ids caps σ with
  |true,some σ=>some ((),σ)
  | _,_=>none
 | _,_,_=>none
def Bm0(hp:Aaq):(ps:List Are)→List Acw→DSt→Option (Bmy ps×DSt)
 |[],[],σ=>some ((),σ)
 |p::r,c::cs,σ=>match Cro hp p c σ with
  |some (v,σ)=>match Bm0 hp r cs σ with
   |some (w,σ)=>some ((v,w),σ)
   |none=>none
  |none=>none
 | _,_,_=>none
def Crp(hp:Aaq):(p:Ac4)→AV→DSt→Option (p.den×DSt)
 | .one c,.v (.one x),σ=>Cro hp c x σ
 | .agg cs,.v (.agg xs),σ=>Bm0 hp cs xs σ
 | _,_,_=>none
def Cmw(env:Env)(hp:Aaq):(ps:List (Nat×Ac4))→DSt→Option (Btk ps×DSt)
 |[],σ=>some ((),σ)
 |(s,p)::r,σ=>match Crp hp p (env s) σ with
  |some (v,σ)=>match Cmw env hp r σ with
   |some (w,σ)=>some ((v,w),σ)
   |none=>none
  |none=>none
def Bo5(hp:Aaq)(id:Nat):(p:Afi)→DSt→Option (p.den×DSt)
 | .cells T cs,σ=>match Ahi σ.src id with
  |some (some old)=>match hp old with
   |some (.cells T' xs)=>match Nat.beq T T' with|true=>Bm0 hp cs xs σ|false=>none
   | _=>none
  | _=>none
 | .row E t,σ=>match Ahi σ.src id with
  |some none=>some (([]:List t.den),σ)
  |some (some old)=>match hp old with
   |some (.row E' t' _ false xs)=>match Nat.beq E E',Arg old σ.fz with
    |true,false=>if h:t'=t then some ((h▸xs:List t.den),σ) else none
    | _,_=>none
   | _=>none
  |none=>none
 | .amap T kt et,σ=>match Ahi σ.src id with
  |some (some old)=>match hp old with
   |some (.amap T' kt' et' m)=>match Nat.beq T T' with
    |true=>if h:kt'=kt then (if h':et'=et then some ((h▸h'▸m:List (kt.den×et.den)),σ) else none) else none
    |false=>none
   | _=>none
  | _=>none
 | .fmap T k ks cs,σ=>match Ahi σ.src id with
  |some (some old)=>match hp old with
   |some (.fmap T' k' m)=>match Nat.beq T T'&&decide (k=k'),Czl m ks&&Nat.beq ks.length cs.length with
    |true,true=>Bm0 hp cs (C62 m) σ
    | _,_=>none
   | _=>none
  | _=>none
def Czm(hp:Aaq):(ps:List (Nat×Afi))→DSt→Option (Bmz ps×DSt)
 |[],σ=>some ((),σ)
 |(id,p)::r,σ=>match Bo5 hp id p σ with
  |some (v,σ)=>match Czm hp r σ with
   |some (w,σ)=>some ((v,w),σ)
   |none=>none
  |none=>none
def C5y(σ:DSt)(ps:List (Nat×Afi)):Bool :=
 (σ.src.all fun p=>Arg p.1 (ps.map (·.1)))&&(σ.src.all fun p=>match p.2 with|some old => !Arg old σ.fz|none=>true)&&nodup (ps.map (·.1))
where
 nodup:List Nat→Bool
  |[]=>true
  |x::r => !Arg x r&&nodup r
def Bta:List (Nat×Afi)→Src
 |[]=>[]
 |(id,_)::r=>match Nat.ble 32 id with
  |true=>Bta r
  |false=>(id,some id)::Bta r
def Djy(p:Aac)(st:ASt):Option p.den :=
 match Cmw st.env st.hp p.env ⟨Bta p.hp,[]⟩ with
 |some (x,σ)=>match Czm st.hp p.hp σ with
  |some (y,σ)=>match C5y σ p.hp with
   |true=>some (x,y)
   |false=>none
  |none=>none
 |none=>none
inductive Ac8 where
 |nil
 |cons (e:Ex) (p:Aac) (r:Ac8)
def Dlq:Ex→Ex→Bool
 | .normal,.normal | .ret,.ret=>true
 | .exit a,.exit b=>Nat.beq a b
 | _,_=>false
def Ahb(bl nw:List Aa1):Aaq:=fun id=>match Nat.ble 32 id with|true=>nw[id-32]? |false=>bl[id]?
def Czn(args:List AV):Env:=fun s=>match args[s]? with|some v=>v|none=>.at .undef
def Cdy(args:List AV)(bl:List Aa1):ASt:=⟨Czn args,Ahb bl []⟩
def A7w(tt:TT)(st:ASt):List ResultVar→Option (List AV)
 |[]=>some []
 | .tmp t::r=>match A7w tt st r with
  |some l=>some (st.env t::l)
  |none=>none
 | .cell t T::r=>match Czj (R:=AV) tt st.hp T (st.env t) some,A7w tt st r with
  |some v,some l=>some (v::l)
  | _,_=>none
def Czo:List V1→AV
 |[v]=>.v v
 |l=>.tup l
end
end Go.AX
namespace Go.AX
noncomputable section
def Ac9{α β:Type}(R:α→β→Prop):List α→List β→Prop
 |[],[]=>True
 |a::as,b::bs=>R a b∧Ac9 R as bs
 | _,_=>False
section
variable {α β:Type} {R S:α→β→Prop}
theorem Ac9.mono(h:∀a b,R a b→S a b):∀{l:List α} {m:List β},Ac9 R l m→Ac9 S l m
 |[],[],_=>trivial
 | _::_,_::_,⟨x,y⟩=>⟨h _ _ x,Ac9.mono h y⟩
 |[],_::_,x=>x.elim
 | _::_,[],x=>x.elim
theorem Ac9.length:∀{l:List α} {m:List β},Ac9 R l m→l.length=m.length
 |[],[],_=>rfl
 | _::_,_::_,⟨_,y⟩=>by simp[Ac9.length y]
 |[],_::_,x=>x.elim
 | _::_,[],x=>x.elim
theorem Ac9.get:∀{l:List α} {m:List β},Ac9 R l m→∀(i:Nat) (a:α),l[i]? = some a→∃b,m[i]? = some b∧R a b
 |[],[],_,i,a,h=>by simp at h
 |x::l,y::m,⟨p,q⟩,0,a,h=>by simp at h;subst h;exact⟨y,by simp,p⟩
 |x::l,y::m,⟨p,q⟩,i+1,a,h=>by simp at h;simpa using Ac9.get q i a h
 |[],_::_,x,_,_,_=>x.elim
 | _::_,[],x,_,_,_=>x.elim
theorem Ac9.append:∀{l l':List α} {m m':List β},Ac9 R l m→Ac9 R l' m'→Ac9 R (l++l') (m++m')
 |[],_,[],_,_,h=>h
 | _::_,_,_::_,_,⟨x,y⟩,h=>⟨x,Ac9.append y h⟩
 |[],_,_::_,_,x,_=>x.elim
 | _::_,_,[],_,x,_=>x.elim
theorem Ac9.take:∀{l:List α} {m:List β} (n:Nat),Ac9 R l m→Ac9 R (l.take n) (m.take n)
 |[],[],n,_=>by simp[Ac9]
 | _::_,_::_,0,_=>by simp[Ac9]
 | _::_,_::_,n+1,⟨x,y⟩=>⟨x,Ac9.take n y⟩
 |[],_::_,_,x=>x.elim
 | _::_,[],_,x=>x.elim
theorem Ac9.drop:∀{l:List α} {m:List β} (n:Nat),Ac9 R l m→Ac9 R (l.drop n) (m.drop n)
 |[],[],n,_=>by simp[Ac9]
 | _::_,_::_,0,h=>by simpa using h
 | _::_,_::_,n+1,⟨_,y⟩=>by simpa using Ac9.drop n y
 |[],_::_,_,x=>x.elim
 | _::_,[],_,x=>x.elim
theorem Ac9.of_get:∀{l:List α} {m:List β},l.length=m.length→(∀(i:Nat) (a:α) (b:β),l[i]? = some a→m[i]? = some b→R a b)→Ac9 R l m
 |[],[],_,_=>trivial
 |a::l,b::m,hl,h=>⟨h 0 a b (by simp) (by simp),Ac9.of_get (by simpa using hl) fun i x y hx hy=>h (i+1) x y (by simpa using hx) (by simpa using hy)⟩
 |[],_::_,hl,_=>by simp at hl
 | _::_,[],hl,_=>by simp at hl
theorem Ac9.map{α':Type}{f:α'→α}:∀{l:List α'} {m:List β},Ac9 (fun a b=>R (f a) b) l m→Ac9 R (l.map f) m
 |[],[],_=>trivial
 | _::_,_::_,⟨x,y⟩=>⟨x,Ac9.map y⟩
 |[],_::_,x=>x.elim
 | _::_,[],x=>x.elim
theorem Ac9.one{a:α}{m:List β}(h:Ac9 R [a] m):∃b,m=[b]∧R a b:=by
 match m,h with
 |[b],⟨x,_⟩=>exact⟨b,rfl,x⟩
 |b::c::r,⟨_,y⟩=>exact y.elim
 |[],h=>exact h.elim
theorem Ac9.nil_left{m:List β}(h:Ac9 R [] m):m=[]:=by
 cases m with|nil=>rfl|cons b r=>exact h.elim
theorem Ac9.cons_left{a:α}{l:List α}{m:List β}(h:Ac9 R (a::l) m):∃b r,m=b::r∧R a b∧Ac9 R l r:=by
 cases m with
 |nil=>exact h.elim
 |cons b r=>exact⟨b,r,rfl,h.1,h.2⟩
end
def Dmh:Nat→Option (Array Value):=fun _=>none
def B3d(f:Nat→Option Obj):Prop:=∀b cs,Dmh b=some cs→∃T fr,f b=some (.cells cs T fr)
abbrev Fz:={f:Nat→Option Obj // B3d f}
instance:CoeFun Fz fun _=>Nat→Option Obj:=⟨Subtype.val⟩
theorem B3d.up{f f':Nat→Option Obj}(h:B3d f)(hf:∀b o,f b=some o→f' b=some o):B3d f':=fun b cs e=>by
 obtain⟨T,fr,h⟩:=h b cs e
 exact⟨T,fr,hf _ _ h⟩
structure A47 where
 bs:List Nat
 cap:Nat
abbrev Rho:=Nat→A47
def Ahc(c:Array Value)(o n:Nat):List Value:=(c.toList.drop o).take n
def RC(F:Fz):(t:Ty)→t.den→List Value→Prop
 | .bool,v,cs=>cs=[.bool v]
 | .int k,v,cs=>cs=[.int k v]
 | .str,v,cs=>cs=[.string ⟨(v:List UInt8).toArray⟩]
 | .pair a b,v,cs=>∃c d,cs=c++d∧RC F a v.1 c∧RC F b v.2 d
 | .list t,v,cs=>∃A cap,cs=[.slice A (List.length v) cap]∧List.length v≤cap∧(A=none→cap=0)∧
   (0<List.length v→∃b o c T fr,A=some ⟨b,o,none⟩∧F b=some (.cells c T fr)∧o+List.length v*t.size≤c.size∧
    ∀i,i<List.length v→RC F t (List.getD v i t.dflt) (Ahc c (o+i*t.size) t.size))
theorem RC.length{F:Fz}:∀{t:Ty} {v:t.den} {cs:List Value},RC F t v cs→cs.length=t.size
 | .bool,_,_,h=>by simp only[RC]at h;subst h;rfl
 | .int _,_,_,h=>by simp only[RC]at h;subst h;rfl
 | .str,_,_,h=>by simp only[RC]at h;subst h;rfl
 | .list _,_,_,h=>by obtain⟨A,cap,rfl,_⟩:=h;rfl
 | .pair a b,v,cs,h=>by
  obtain⟨c,d,rfl,hc,hd⟩:=h
  simp[Ty.size,RC.length hc,RC.length hd]
theorem RC.mono{F F':Fz}(hF:∀b o,F b=some o→F' b=some o):∀{t:Ty} {v:t.den} {cs:List Value},RC F t v cs→RC F' t v cs
 | .bool,_,_,h=>h
 | .int _,_,_,h=>h
 | .str,_,_,h=>h
 | .list t,v,cs,h=>by
  obtain⟨A,cap,rfl,hl,hn,hc⟩:=h
  refine⟨A,cap,rfl,hl,hn,fun hp=>?_⟩
  obtain⟨b,o,c,T,fr,rfl,hb,ho,hr⟩:=hc hp
  exact⟨b,o,c,T,fr,rfl,hF _ _ hb,ho,fun i hi=>(hr i hi).mono hF⟩
 | .pair a b,v,cs,h=>by
  obtain⟨c,d,rfl,hc,hd⟩:=h
  exact⟨c,d,rfl,hc.mono hF,hd.mono hF⟩
theorem RC.of_flat{F F':Fz}:∀{t:Ty} {v:t.den} {cs:List Value},t.flat=true→RC F t v cs→RC F' t v cs
 | .bool,_,_,_,h=>h
 | .int _,_,_,_,h=>h
 | .str,_,_,_,h=>h
 | .list _,_,_,hf,_=>by simp[Ty.flat]at hf
 | .pair a b,v,cs,hf,h=>by
  simp only[Ty.flat,Bool.and_eq_true]at hf
  obtain⟨c,d,rfl,hc,hd⟩:=h
  exact⟨c,d,rfl,hc.of_flat hf.1,hd.of_flat hf.2⟩
theorem Ty.size_pos:∀t:Ty,0<t.size
 | .bool | .int _ | .str | .list _=>by simp[Ty.size]
 | .pair a b=>by have:=a.size_pos;simp[Ty.size];omega
def Aa1.isMap:Aa1→Bool
 | .amap _ _ _ _=>true
 | .fmap _ _ _=>true
 | _=>false
def RA(F:Fz)(ρ:Rho)(hp:Aaq):Asf→Value→Prop
 | .undef,_=>True
 | .val t v,r=>RC F t v [r]
 | .nilsl,r=>r = .slice none 0 0
 | .ecap,r=>∃A,r = .slice A 0 0
 | .nvl t xs,r=>RC F (.list t) xs [r]∧∀l c,r≠.slice none l c
 | .nilptr,r=>r = .pointer none
 | .nilmap,r=>r = .map none
 | .nilfn,r=>r = .nilFunc
 | .nilif,r=>r = .nilIface
 | .slf id ver,r=>∃b,hp id=some b∧ver≤b.ver∧∃A l c,r = .slice A l c∧(b.ver=ver→match b with
   | .row _ _ _ _ xs=>l=xs.length∧c=(ρ id).cap∧∀bb,(ρ id).bs=[bb]→A=some ⟨bb,0,none⟩
   | _=>False)
 | .sl id ver off len,r=>∃b,hp id=some b∧ver≤b.ver∧∃A l c,r = .slice A l c∧(b.ver=ver→match b with
   | .row _ t _ _ xs=>l=len∧off+len≤xs.length∧xs.length≤off+c∧off+c≤(ρ id).cap∧
     ∀bb,(ρ id).bs=[bb]→c=0∨A=some ⟨bb,off*t.size,none⟩
   | _=>False)
 | .ptr id ver idx fld,r=>∃b,hp id=some b∧ver≤b.ver∧∃ad,r = .pointer (some ad)∧(b.ver=ver→match b with
   | .cells _ _=>idx=0∧∃bb,(ρ id).bs=[bb]∧ad=⟨bb,fld,none⟩
   | .row _ t _ _ xs=>idx<xs.length∧∃bb,(ρ id).bs=[bb]∧ad=⟨bb,idx*t.size+fld,none⟩
   | _=>False)
 | .fptr t xs idx fld,r=>idx<List.length xs∧∃b o c T fr,r = .pointer (some ⟨b,o+fld,none⟩)∧F b=some (.cells c T fr)∧
   o+t.size≤c.size∧RC F t (List.getD xs idx t.dflt) (Ahc c o t.size)
 | .mp id,r=>∃b bb,hp id=some b∧b.isMap=true∧(ρ id).bs=[bb]∧r = .map (some bb)
 | .vs id n,r=>∃b,hp id=some b∧∃A l c,r = .slice A l c∧match b with
   | .cells _ _=>l=n∧c=n∧∃bb,(ρ id).bs=[bb]∧A=some ⟨bb,0,none⟩
   | _=>True
def Acp(F:Fz)(ρ:Rho)(hp:Aaq):Acw→Value→Prop
 | .a x,r=>RA F ρ hp x r
 | .func f caps,r=>∃cs:Array Value,r = .func (.func f) #[] cs∧Ac9 (RA F ρ hp) caps cs.toList
 | .iface T cs,r=>∃v:Value,r = .iface T v∧Ac9 (RA F ρ hp) cs v.cells.toList
def RV1(F:Fz)(ρ:Rho)(hp:Aaq):V1→Value→Prop
 | .one c,r=>Acp F ρ hp c r
 | .agg cs,r=>∃rs:Array Value,r = .agg rs∧Ac9 (Acp F ρ hp) cs rs.toList
def RV(F:Fz)(ρ:Rho)(hp:Aaq):AV→Value→Prop
 | .v x,r=>RV1 F ρ hp x r
 | .tup xs,r=>∃rs:Array Value,r = .tuple rs∧Ac9 (RV1 F ρ hp) xs rs.toList
theorem RV.undef{F:Fz}{ρ:Rho}{hp:Aaq}{r:Value}:RV F ρ hp (.at .undef) r:=trivial
def NF(fr:Nat×Nat)(n:Nat):Prop:=∀o,o<n→¬(fr.1≤o∧o<fr.2)
def BR(F:Fz)(ρ:Rho)(hp:Aaq)(W:World)(id:Nat):Aa1→Prop
 | .cells T cs=>∃bb rs fr,(ρ id).bs=[bb]∧W.heap[bb]? = some (.cells rs T fr)∧NF fr rs.size∧Ac9 (Acp F ρ hp) cs rs.toList
 | .row E t _ fz xs=>((ρ id).bs=[]∧xs=[]∧(ρ id).cap=0)∨
   ∃bb rs fr,(ρ id).bs=[bb]∧W.heap[bb]? = some (.cells rs E fr)∧NF fr rs.size∧rs.size=(ρ id).cap*t.size∧xs.length≤(ρ id).cap∧
    (∀i,i<xs.length→RC F t (xs.getD i t.dflt) (Ahc rs (i*t.size) t.size))∧(fz=true→F bb=some (.cells rs E fr))
 | .amap _ kt et m=>∃bb es clk,(ρ id).bs=[bb]∧W.heap[bb]? = some (.map es clk)∧
   Ac9 (fun (kv:kt.den×et.den) (e:MapEntry)=>RC F kt kv.1 [e.key]∧RC F et kv.2 [e.val]) m es.toList
 | .fmap _ k m=>∃bb es clk,(ρ id).bs=[bb]∧W.heap[bb]? = some (.map es clk)∧
   Ac9 (fun (kv:Int×Acw) (e:MapEntry)=>e.key = .int k kv.1∧Acp F ρ hp kv.2 e.val) m es.toList
def Aa1.fz:Aa1→Bool
 | .row _ _ _ fz _=>fz
 | _=>false
def Own(hp:Aaq)(ρ:Rho)(b:Nat):Prop:=∃id blk,hp id=some blk∧blk.fz=false∧b∈(ρ id).bs
structure Adn(F:Fz)(ρ:Rho)(hp:Aaq)(W:World):Prop where
 blocks:∀id b,hp id=some b→BR F ρ hp W id b
 inj:∀i j x y b,hp i=some x→hp j=some y→b∈(ρ i).bs→b∈(ρ j).bs→i=j
 fz:∀b o,F b=some o→W.heap[b]? = some o
 apart:∀b,Own hp ρ b→F b=none
structure A0a(n:Nat)(F:Fz)(ρ:Rho)(st:ASt)(a:Act)(W:World):Prop where
 size:a.tmps.size=n
 env:∀s,RV F ρ st.hp (st.env s) (a.tmps.getD s undef)
 heap:Adn F ρ st.hp W
def Evo(grow:Bool)(f f':A47):Aa1→Aa1→Prop
 | .cells T cs,.cells T' cs'=>T=T'∧cs.length=cs'.length∧f'=f
 | .row E t _ fz xs,.row E' t' _ fz' xs'=>E=E'∧t=t'∧fz=fz'∧(grow=false→xs'.length=xs.length∧f'=f)
 | .amap T kt et _,.amap T' kt' et' _=>T=T'∧kt=kt'∧et=et'∧f'=f
 | .fmap T k _,.fmap T' k' _=>T=T'∧k=k'∧f'=f
 | _,_=>False
theorem Evo.refl(g:Bool)(f:A47)(b:Aa1):Evo g f f b b:=by cases b<;>simp[Evo]
theorem Evo.trans{g:Bool}{f f' f'':A47}{a b c:Aa1}(h:Evo g f f' a b)(k:Evo g f' f'' b c):Evo g f f'' a c:=by
 cases a<;>cases b<;>simp only[Evo]at h<;>cases c<;>simp only[Evo]at k ⊢
 ·obtain⟨rfl,h1,rfl⟩:=h;obtain⟨rfl,k1,rfl⟩:=k;exact⟨rfl,h1.trans k1,rfl⟩
 ·obtain⟨rfl,rfl,rfl,h1⟩:=h;obtain⟨rfl,rfl,rfl,k1⟩:=k
  exact⟨rfl,rfl,rfl,fun hg=>⟨(k1 hg).1.trans (h1 hg).1,(k1 hg).2.trans (h1 hg).2⟩⟩
 ·obtain⟨rfl,rfl,rfl,rfl⟩:=h;obtain⟨rfl,rfl,rfl,rfl⟩:=k;exact⟨rfl,rfl,rfl,rfl⟩
 ·obtain⟨rfl,rfl,rfl⟩:=h;obtain⟨rfl,rfl,rfl⟩:=k;exact⟨rfl,rfl,rfl⟩
structure Ext(g:List Bool)(F:Fz)(ρ:Rho)(hp:Aaq)(W:World)(F':Fz)(ρ':Rho)(hp':Aaq)(W':World):Prop where
 os:W'.os=W.os
 tape:W'.tape=W.tape
 output:W'.output=W.output
 size:W.heap.size≤W'.heap.size
 frame:∀b,b<W.heap.size→¬Own hp ρ b→W'.heap[b]? = W.heap[b]?
 prov:∀b,Own hp' ρ' b→Own hp ρ b∨W.heap.size≤b
 fmono:∀b o,F b=some o→F' b=some o
 fprov:∀b,F' b≠none→F b≠none∨Own hp ρ b∨W.heap.size≤b
 evo:∀id,id<32→∀blk,hp id=some blk→∃blk',hp' id=some blk'∧Evo (g.getD id false) (ρ id) (ρ' id) blk blk'
theorem Ext.refl(g:List Bool)(F:Fz)(ρ:Rho)(hp:Aaq)(W:World):Ext g F ρ hp W F ρ hp W :=
 ⟨rfl,rfl,rfl,Nat.le_refl _,fun _ _ _=>rfl,fun _ h=>.inl h,fun _ _ h=>h,fun _ h=>.inl h,fun _ _ b hb=>⟨b,hb,Evo.refl _ _ _⟩⟩
theorem Ext.trans{g:List Bool}{F F' F'':Fz}{ρ ρ' ρ'':Rho}{hp hp' hp'':Aaq}{W W' W'':World}(h:Ext g F ρ hp W F' ρ' hp' W')(k:Ext g F' ρ' hp' W' F'' ρ'' hp'' W''):Ext g F ρ hp W F'' ρ'' hp'' W'':=by
 refine⟨k.os.trans h.os,k.tape.trans h.tape,k.output.trans h.output,Nat.le_trans h.size k.size,fun b hb ho=>?_,fun b hb=>?_,fun b o hb=>k.fmono b o (h.fmono b o hb),fun b hb=>?_,fun id hid blk hblk=>?_⟩
 ·rw[k.frame b (Nat.lt_of_lt_of_le hb h.size) (fun hc=>(h.prov b hc).elim ho (by omega)),h.frame b hb ho]
 ·rcases k.prov b hb with h1|h1
  ·exact h.prov b h1
  ·exact .inr (Nat.le_trans h.size h1)
 ·rcases k.fprov b hb with h1|h1|h1
  ·exact h.fprov b h1
  ·exact .inr (h.prov b h1)
  ·exact .inr (.inr (Nat.le_trans h.size h1))
 ·obtain⟨b1,hb1,e1⟩:=h.evo id hid blk hblk
  obtain⟨b2,hb2,e2⟩:=k.evo id hid b1 hb1
  exact⟨b2,hb2,e1.trans e2⟩
def Ex.to:Ex→Exit
 | .normal=>.normal
 | .exit id=>.exit id
 | .ret=>.ret
def An9(n:Nat)(g:List Bool)(F:Fz)(ρ:Rho)(hp:Aaq)(a:Act)(W:World)(st':ASt)(a':Act)(W':World):Prop :=
 a'.defers=a.defers∧∃F' ρ',A0a n F' ρ' st' a' W'∧Ext g F ρ hp W F' ρ' st'.hp W'
def Dad(P:Program)(g:List Bool)(f:FuncId)(args:List AV)(bl:List Aa1)(v:AV)(bl' nw:List Aa1):Prop :=
 ∀F ρ W rargs,Ac9 (RV F ρ (Ahb bl [])) args rargs.toList→Adn F ρ (Ahb bl []) W→
  Calls P f rargs W fun e W'=>∃r F' ρ',e = .returned r∧RV F' ρ' (Ahb bl' nw) v r∧Adn F' ρ' (Ahb bl' nw) W'∧
   Ext g F ρ (Ahb bl []) W F' ρ' (Ahb bl' nw) W'
def A1r(P:Program)(f:FuncId)(s:Aae):Prop :=
 ∀R args bl (K:AV→List Aa1→List Aa1→Option R) r,s.run R args bl K=some r→
  ∃v bl' nw,K v bl' nw=some r∧Dad P s.grow f args bl v bl' nw
def Am9(g:List Bool)(F:Fz)(ρ:Rho)(hp:Aaq)(W:World)(hp':Aaq)(v:AV)(r:Value)(W':World):Prop :=
 ∃F' ρ',Adn F' ρ' hp' W'∧(∀x y,RV F ρ hp x y→RV F' ρ' hp' x y)∧RV F' ρ' hp' v r∧Ext g F ρ hp W F' ρ' hp' W'
theorem Am9.val{g:List Bool}{F:Fz}{ρ:Rho}{hp:Aaq}{W:World}{v:AV}{r:Value}(h:Adn F ρ hp W)(hv:RV F ρ hp v r) :
  Am9 g F ρ hp W hp v r W:=⟨F,ρ,h,fun _ _ h=>h,hv,Ext.refl _ _ _ _ _⟩
def OpS(P:Program)(n:Nat)(g:List Bool)(o:Oper)(st st':ASt):Prop :=
 ∀F ρ a W,A0a n F ρ st a W→∀(K:Act→World→Prop) (Q:Exit→Act→World→Prop),
  (∀a' W',An9 n g F ρ st.hp a W st' a' W'→K a' W')→o.wp P a W K Q
theorem A0a.put{n:Nat}{F F':Fz}{ρ ρ':Rho}{st:ASt}{a:Act}{W W':World}{hp':Aaq}{d:Option Tmp}{v:AV}{r:Value}(h:A0a n F ρ st a W)(hd:∀t,d=some t→t<n)(hh:Adn F' ρ' hp' W')(hm:∀x y,RV F ρ st.hp x y→RV F' ρ' hp' x y)(hv:RV F' ρ' hp' v r) :
  A0a n F' ρ' (ASt.set ⟨st.env,hp'⟩ d v) (a.put d r) W':=by
 cases d with
 |none=>exact⟨h.size,fun s=>hm _ _ (h.env s),hh⟩
 |some t=>
  refine⟨by simp[Act.put,h.size],fun s=>?_,hh⟩
  have ht:=hd t rfl
  simp only[ASt.set,Act.put]
  by_cases hs:s=t
  ·subst hs
   have:Nat.beq s s=true:=by simp
   rw[this]
   have hlt:s<a.tmps.size:=by rw[h.size];exact ht
   simpa [Array.getD_eq_getD_getElem?,Array.getElem?_setIfInBounds,hlt]using hv
  ·have:Nat.beq s t=false:=by cases h:Nat.beq s t with|false=>rfl|true=>exact absurd (Nat.eq_of_beq_eq_true h) hs
   rw[this]
   have e:(a.tmps.setIfInBounds t r).getD s undef=a.tmps.getD s undef:=by
    simp[Array.getD_eq_getD_getElem?,Array.getElem?_setIfInBounds_ne (Ne.symm hs)]
   rw[e]
   exact hm _ _ (h.env s)
theorem An9.of_good{n:Nat}{g:List Bool}{F:Fz}{ρ:Rho}{st:ASt}{a:Act}{W W':World}{hp':Aaq}{d:Option Tmp}{v:AV}{r:Value}(h:A0a n F ρ st a W)(hd:∀t,d=some t→t<n)(hg:Am9 g F ρ st.hp W hp' v r W') :
  An9 n g F ρ st.hp a W (ASt.set ⟨st.env,hp'⟩ d v) (a.put d r) W':=by
 obtain⟨F',ρ',hh,hm,hv,he⟩:=hg
 refine⟨by cases d<;>rfl,F',ρ',h.put hd hh hm hv,?_⟩
 have:(ASt.set ⟨st.env,hp'⟩ d v).hp=hp':=by cases d<;>rfl
 rw[this];exact he
end
end Go.AX
namespace Go.AX
noncomputable section
def Avp(f:A47)(b:Aa1)(f':A47)(b':Aa1):Prop :=
 b.ver≤b'.ver∧(b.isMap=true→b'.isMap=true∧f'=f)∧(b'.ver=b.ver→match b,b' with
  | .cells _ _,.cells _ _=>f'=f
  | .row _ t _ _ xs,.row _ t' _ _ xs'=>t=t'∧xs'.length=xs.length∧f'=f
  | .amap _ _ _ _,.amap _ _ _ _=>f'=f
  | .fmap _ _ _,.fmap _ _ _=>f'=f
  | .cells _ _,.row _ _ _ _ xs'=>f'.bs=f.bs∧0<xs'.length
  | _,_=>False)
theorem Avp.refl(f:A47)(b:Aa1):Avp f b f b:=⟨Nat.le_refl _,fun h=>⟨h,rfl⟩,fun _=>by cases b<;>simp⟩
theorem RA.mono{F F':Fz}{ρ ρ':Rho}{hp hp':Aaq}(hF:∀b o,F b=some o→F' b=some o)(hk:∀id b,hp id=some b→∃b',hp' id=some b'∧Avp (ρ id) b (ρ' id) b'):∀{x:Asf} {r:Value},RA F ρ hp x r→RA F' ρ' hp' x r
 | .undef,_,_=>trivial
 | .val _ _,_,h=>RC.mono hF h
 | .nilsl,_,h=>h
 | .ecap,_,h=>h
 | .nvl _ _,_,h=>⟨RC.mono hF h.1,h.2⟩
 | .nilptr,_,h=>h
 | .nilmap,_,h=>h
 | .nilfn,_,h=>h
 | .nilif,_,h=>h
 | .slf id ver,r,h=>by
  obtain⟨b,hb,hv,A,l,c,rfl,hc⟩:=h
  obtain⟨b',hb',hle,_,hsh⟩:=hk id b hb
  refine⟨b',hb',Nat.le_trans hv hle,A,l,c,rfl,fun e=>?_⟩
  have e1:b.ver=ver:=by omega
  have hs:=hsh (by omega)
  have hc:=hc e1
  cases b<;>cases b'<;>simp only at hs hc ⊢<;>try exact hc.elim
  obtain⟨rfl,hl,hf⟩:=hs
  rw[hf,hl];exact hc
 | .sl id ver off len,r,h=>by
  obtain⟨b,hb,hv,A,l,c,rfl,hc⟩:=h
  obtain⟨b',hb',hle,_,hsh⟩:=hk id b hb
  refine⟨b',hb',Nat.le_trans hv hle,A,l,c,rfl,fun e=>?_⟩
  have e1:b.ver=ver:=by omega
  have hs:=hsh (by omega)
  have hc:=hc e1
  cases b<;>cases b'<;>simp only at hs hc ⊢<;>try exact hc.elim
  obtain⟨rfl,hl,hf⟩:=hs
  rw[hf,hl];exact hc
 | .ptr id ver idx fld,r,h=>by
  obtain⟨b,hb,hv,ad,rfl,hc⟩:=h
  obtain⟨b',hb',hle,_,hsh⟩:=hk id b hb
  refine⟨b',hb',Nat.le_trans hv hle,ad,rfl,fun e=>?_⟩
  have e1:b.ver=ver:=by omega
  have hs:=hsh (by omega)
  have hc:=hc e1
  cases b<;>cases b'<;>simp only at hs hc ⊢<;>try exact hc.elim
  ·rw[hs];exact hc
  ·obtain⟨rfl,bb,h1,rfl⟩:=hc
   exact⟨hs.2,bb,by rw[hs.1];exact h1,by simp⟩
  ·obtain⟨rfl,hl,hf⟩:=hs
   rw[hf,hl];exact hc
 | .fptr t xs idx fld,r,h=>by
  obtain⟨hi,b,o,c,T,fr,rfl,hb,ho,hr⟩:=h
  exact⟨hi,b,o,c,T,fr,rfl,hF _ _ hb,ho,hr.mono hF⟩
 | .mp id,r,h=>by
  obtain⟨b,bb,hb,hi,hbs,rfl⟩:=h
  obtain⟨b',hb',hle,hm,hsh⟩:=hk id _ hb
  obtain⟨h1,h2⟩:=hm hi
  exact⟨_,bb,hb',h1,by rw[h2];exact hbs,rfl⟩
 | .vs id n,r,h=>by
  obtain⟨b,hb,A,l,c,rfl,hc⟩:=h
  obtain⟨b',hb',hle,hm,hsh⟩:=hk id b hb
  refine⟨b',hb',A,l,c,rfl,?_⟩
  cases b'<;>try trivial
  have e:b.ver=0:=Nat.le_zero.1 hle
  replace hsh:=hsh e.symm
  cases b<;>simp only at hsh hc
  simp only[hsh]
  exact hc
theorem Acp.mono{F F':Fz}{ρ ρ':Rho}{hp hp':Aaq}(hF:∀b o,F b=some o→F' b=some o)(hk:∀id b,hp id=some b→∃b',hp' id=some b'∧Avp (ρ id) b (ρ' id) b'){x:Acw}{r:Value}(h:Acp F ρ hp x r):Acp F' ρ' hp' x r:=by
 cases x with
 |a x=>exact RA.mono hF hk h
 |func f caps=>obtain⟨cs,rfl,h⟩:=h;exact⟨cs,rfl,h.mono fun _ _=>RA.mono hF hk⟩
 |iface T cs=>obtain⟨v,rfl,h⟩:=h;exact⟨v,rfl,h.mono fun _ _=>RA.mono hF hk⟩
theorem RV1.mono{F F':Fz}{ρ ρ':Rho}{hp hp':Aaq}(hF:∀b o,F b=some o→F' b=some o)(hk:∀id b,hp id=some b→∃b',hp' id=some b'∧Avp (ρ id) b (ρ' id) b'){x:V1}{r:Value}(h:RV1 F ρ hp x r):RV1 F' ρ' hp' x r:=by
 cases x with
 |one c=>exact Acp.mono hF hk h
 |agg cs=>obtain⟨rs,rfl,h⟩:=h;exact⟨rs,rfl,h.mono fun _ _=>Acp.mono hF hk⟩
theorem RV.mono{F F':Fz}{ρ ρ':Rho}{hp hp':Aaq}(hF:∀b o,F b=some o→F' b=some o)(hk:∀id b,hp id=some b→∃b',hp' id=some b'∧Avp (ρ id) b (ρ' id) b'){x:AV}{r:Value}(h:RV F ρ hp x r):RV F' ρ' hp' x r:=by
 cases x with
 |v x=>exact RV1.mono hF hk h
 |tup xs=>obtain⟨rs,rfl,h⟩:=h;exact⟨rs,rfl,h.mono fun _ _=>RV1.mono hF hk⟩
theorem BR.mono{F F':Fz}{ρ ρ':Rho}{hp hp':Aaq}{W W':World}{id:Nat}{b:Aa1}(hF:∀b o,F b=some o→F' b=some o)(hk:∀id b,hp id=some b→∃b',hp' id=some b'∧Avp (ρ id) b (ρ' id) b')(hρ:ρ' id=ρ id)(hW:∀k,k∈(ρ id).bs→W'.heap[k]? = W.heap[k]?)(h:BR F ρ hp W id b):BR F' ρ' hp' W' id b:=by
 cases b with
 |cells T cs=>
  obtain⟨bb,rs,fr,h1,h2,h3,h4⟩:=h
  exact⟨bb,rs,fr,by rw[hρ];exact h1,by rw[hW bb (by simp[h1])];exact h2,h3,h4.mono fun _ _=>Acp.mono hF hk⟩
 |row E t ver fz xs=>
  rcases h with ⟨h1,h2,h3⟩|⟨bb,rs,fr,h1,h2,h3,h4,h5,h6,h7⟩
  ·exact .inl ⟨by rw[hρ];exact h1,h2,by rw[hρ];exact h3⟩
  ·exact .inr ⟨bb,rs,fr,by rw[hρ];exact h1,by rw[hW bb (by simp[h1])];exact h2,h3,by rw[hρ];exact h4,by rw[hρ];exact h5,fun i hi=>(h6 i hi).mono hF,fun e=>hF _ _ (h7 e)⟩
 |amap T kt et m=>
  obtain⟨bb,es,clk,h1,h2,h3⟩:=h
  exact⟨bb,es,clk,by rw[hρ];exact h1,by rw[hW bb (by simp[h1])];exact h2,h3.mono fun _ _ ⟨p,q⟩=>⟨p.mono hF,q.mono hF⟩⟩
 |fmap T k m=>
  obtain⟨bb,es,clk,h1,h2,h3⟩:=h
  exact⟨bb,es,clk,by rw[hρ];exact h1,by rw[hW bb (by simp[h1])];exact h2,h3.mono fun _ _ ⟨p,q⟩=>⟨p,Acp.mono hF hk q⟩⟩
theorem A7x{a b:Nat}(h:a≠b):Nat.beq a b=false:=by
 cases e:Nat.beq a b with
 |false=>rfl
 |true=>exact absurd (Nat.eq_of_beq_eq_true e) h
theorem Bk9(a:Nat):Nat.beq a a=true:=by simp
theorem Ab4{a b:Nat}(h:Nat.beq a b=true):a=b:=Nat.eq_of_beq_eq_true h
@[simp] theorem Ahs(hp:Aaq)(id:Nat)(b:Aa1):Am8 hp id b id=some b:=by simp[Am8]
theorem Agt{hp:Aaq}{id j:Nat}{b:Aa1}(h:j≠id):Am8 hp id b j=hp j:=by simp[Am8,A7x h]
theorem BR.lt{F:Fz}{ρ:Rho}{hp:Aaq}{W:World}{id:Nat}{b:Aa1}(h:BR F ρ hp W id b){k:Nat}(hk:k∈(ρ id).bs):k<W.heap.size:=by
 have lt:∀{o:Obj} {bb:Nat},W.heap[bb]? = some o→bb<W.heap.size:=fun h=>by
  rcases Nat.lt_or_ge _ W.heap.size with h' |h'
  ·exact h'
  ·rw[Array.getElem?_eq_none h']at h;cases h
 cases b with
 |cells T cs=>obtain⟨bb,rs,fr,h1,h2,_⟩:=h;rw[h1]at hk;simp at hk;subst hk;exact lt h2
 |row E t ver fz xs=>
  rcases h with ⟨h1,_⟩|⟨bb,rs,fr,h1,h2,_⟩
  ·rw[h1]at hk;simp at hk
  ·rw[h1]at hk;simp at hk;subst hk;exact lt h2
 |amap T kt et m=>obtain⟨bb,es,clk,h1,h2,_⟩:=h;rw[h1]at hk;simp at hk;subst hk;exact lt h2
 |fmap T k m=>obtain⟨bb,es,clk,h1,h2,_⟩:=h;rw[h1]at hk;simp at hk;subst hk;exact lt h2
theorem Adn.flt{F:Fz}{ρ:Rho}{hp:Aaq}{W:World}(h:Adn F ρ hp W){b:Nat}(hb:F b≠none):b<W.heap.size:=by
 cases e:F b with
 |none=>exact absurd e hb
 |some o=>
  have:=h.fz b o e
  rcases Nat.lt_or_ge b W.heap.size with h' |h'
  ·exact h'
  ·rw[Array.getElem?_eq_none h']at this;cases this
def B0g(ρ:Rho)(id:Nat)(f:A47):Rho:=fun i=>if i=id then f else ρ i
@[simp] theorem Bxs(ρ:Rho)(id:Nat)(f:A47):B0g ρ id f id=f:=by simp[B0g]
theorem Baj{ρ:Rho}{id j:Nat}{f:A47}(h:j≠id):B0g ρ id f j=ρ j:=by simp[B0g,h]
structure Bdf(g:List Bool)(F:Fz)(ρ:Rho)(hp:Aaq)(W:World)(id:Nat)(f:A47)(b:Aa1)(W':World):Prop where
 os:W'.os=W.os
 tape:W'.tape=W.tape
 output:W'.output=W.output
 size:W.heap.size≤W'.heap.size
 frame:∀k,k<W.heap.size→(∀b0,hp id=some b0→k∉(ρ id).bs)→W'.heap[k]? = W.heap[k]?
 prov:∀k,k∈f.bs→(∃b0,hp id=some b0∧k∈(ρ id).bs)∨W.heap.size≤k
 old:∀b0,hp id=some b0→b0.fz=false∧Avp (ρ id) b0 f b∧(id<32→Evo (g.getD id false) (ρ id) f b0 b)
 new:hp id=none→32≤id
 fz:b.fz=false
theorem Bdf.keep{g:List Bool}{F:Fz}{ρ:Rho}{hp:Aaq}{W W':World}{id:Nat}{f:A47}{b:Aa1}(h:Bdf g F ρ hp W id f b W') :
  ∀i x,hp i=some x→∃y,Am8 hp id b i=some y∧Avp (ρ i) x (B0g ρ id f i) y:=by
 intro i x hx
 by_cases e:i=id
 ·subst e;exact⟨b,by simp,by simpa using (h.old x hx).2.1⟩
 ·exact⟨x,by rw[Agt e];exact hx,by rw[Baj e];exact Avp.refl _ _⟩
theorem Bdf.good{g:List Bool}{F:Fz}{ρ:Rho}{hp:Aaq}{W W':World}{id:Nat}{f:A47}{b:Aa1}{v:AV}{r:Value}(ho:Adn F ρ hp W)(h:Bdf g F ρ hp W id f b W')(hb:BR F (B0g ρ id f) (Am8 hp id b) W' id b)(hv:RV F (B0g ρ id f) (Am8 hp id b) v r) :
  Am9 g F ρ hp W (Am8 hp id b) v r W':=by
 have hk:=h.keep
 have unown:∀k,F k≠none→∀b0,hp id=some b0→k∉(ρ id).bs:=by
  intro k hk b0 h0 hm
  exact hk (ho.apart k ⟨id,b0,h0,(h.old b0 h0).1,hm⟩)
 refine⟨F,B0g ρ id f,⟨?_,?_,?_,?_⟩,fun x y=>RV.mono (fun _ _ h=>h) hk,hv,⟨h.os,h.tape,h.output,h.size,?_,?_,fun _ _ h=>h,fun _ h=>.inl h,?_⟩⟩
 ·intro i x hx
  by_cases e:i=id
  ·subst e;rw[Ahs]at hx;cases hx;exact hb
  ·rw[Agt e]at hx
   refine BR.mono (fun _ _ h=>h) hk (Baj e) ?_ (ho.blocks i x hx)
   intro k hk'
   refine h.frame k ((ho.blocks i x hx).lt hk') ?_
   intro b0 h0 hm
   exact e (ho.inj i id x b0 k hx h0 hk' hm)
 ·intro i j x y k hx hy hi hj
  by_cases ei:i=id<;>by_cases ej:j=id
  ·rw[ei,ej]
  ·subst ei;rw[Agt ej]at hy;rw[Baj ej]at hj;rw[Bxs]at hi
   rcases h.prov k hi with ⟨b0,h0,hm⟩|hm
   ·exact ho.inj i j b0 y k h0 hy hm hj
   ·have:=(ho.blocks j y hy).lt hj;omega
  ·subst ej;rw[Agt ei]at hx;rw[Baj ei]at hi;rw[Bxs]at hj
   rcases h.prov k hj with ⟨b0,h0,hm⟩|hm
   ·exact ho.inj i j x b0 k hx h0 hi hm
   ·have:=(ho.blocks i x hx).lt hi;omega
  ·rw[Agt ei]at hx;rw[Agt ej]at hy;rw[Baj ei]at hi;rw[Baj ej]at hj
   exact ho.inj i j x y k hx hy hi hj
 ·intro k o hf
  rw[h.frame k (ho.flt (by rw[hf];simp)) (unown k (by rw[hf];simp))]
  exact ho.fz k o hf
 ·rintro k ⟨i,x,hx,hz,hm⟩
  by_cases e:i=id
  ·subst e;rw[Bxs]at hm
   rcases h.prov k hm with ⟨b0,h0,hm'⟩|hm'
   ·exact ho.apart k ⟨i,b0,h0,(h.old b0 h0).1,hm'⟩
   ·cases hf:F k with
    |none=>rfl
    |some o=>have:=ho.flt (b:=k) (by rw[hf];simp);omega
  ·rw[Agt e]at hx;rw[Baj e]at hm
   exact ho.apart k ⟨i,x,hx,hz,hm⟩
 ·intro k hlt hno
  refine h.frame k hlt ?_
  intro b0 h0 hm
  exact hno ⟨id,b0,h0,(h.old b0 h0).1,hm⟩
 ·rintro k ⟨i,x,hx,hz,hm⟩
  by_cases e:i=id
  ·subst e;rw[Bxs]at hm
   rcases h.prov k hm with ⟨b0,h0,hm'⟩|hm'
   ·exact .inl ⟨i,b0,h0,(h.old b0 h0).1,hm'⟩
   ·exact .inr hm'
  ·rw[Agt e]at hx;rw[Baj e]at hm
   exact .inl ⟨i,x,hx,hz,hm⟩
 ·intro i hi x hx
  by_cases e:i=id
  ·subst e;exact⟨b,by simp,by simpa using (h.old x hx).2.2 hi⟩
  ·exact⟨x,by rw[Agt e];exact hx,by rw[Baj e];exact Evo.refl _ _ _⟩
theorem Am9.seq{g:List Bool}{F:Fz}{ρ:Rho}{hp hp1 hp2:Aaq}{W W1 W2:World}{v1 v2:AV}{r1 r2:Value}(h:Am9 g F ρ hp W hp1 v1 r1 W1)(k:∀F1 ρ1,Adn F1 ρ1 hp1 W1→(∀x y,RV F ρ hp x y→RV F1 ρ1 hp1 x y)→(∀b o,F b=some o→F1 b=some o)→RV F1 ρ1 hp1 v1 r1→Am9 g F1 ρ1 hp1 W1 hp2 v2 r2 W2) :
  Am9 g F ρ hp W hp2 v2 r2 W2:=by
 obtain⟨F1,ρ1,a1,b1,c1,d1⟩:=h
 obtain⟨F2,ρ2,a2,b2,c2,d2⟩:=k F1 ρ1 a1 b1 d1.fmono c1
 exact⟨F2,ρ2,a2,fun x y h=>b2 x y (b1 x y h),c2,d1.trans d2⟩
theorem A7y(hp:Aaq)(l m:List (Nat×Aa1)):Ab3 hp (l++m)=Ab3 (Ab3 hp l) m:=by
 induction l generalizing hp with
 |nil=>rfl
 |cons p r ih=>obtain⟨id,b⟩:=p;simp[Ab3,ih]
end
end Go.AX
namespace Go.AX
noncomputable section
def Ac3(P:Program):TypeDesc→TD→Prop
 | .bool,.bool=>True
 | .int k,.int k'=>k=k'
 | .string,.str=>True
 | .pointer e,.ptr e'=>e=e'
 | .slice e,.slice e'=>e=e'
 | .array n e,.arr n' e'=>n=n'∧e=e'
 | .map k e,.map k' e'=>k=k'∧e=e'
 | .struct fs,.struct gs=>gs=fs.toList.map fun f=>(f.offset,P.cellsOf f.type,f.type)
 | .func _ _ _,.func=>True
 | .interface _,.iface=>True
 | .struct _,.other | .array _ _,.other=>False
 | _,.other=>True
 | _,_=>False
structure Djz(P:Program)(T:TypeId)(i:TI):Prop where
 under:∃u,P.underlying T=some u∧Ac3 P u i.d
 info:∃f,P.info? T=some f∧f.size=i.size∧f.bytes=i.bytes∧∀zs,i.zero=some zs→∃z,f.zero=some z∧z.cells.toList.map A7v=zs∧(i.d.agg=false→z.cells = #[z])
 fields:∀fs,P.underlying T=some (.struct fs)→∀f∈fs.toList,∃fi,P.info? f.type=some fi
 eqok:i.eqok=true→P.stoodInHeld T=false∧P.eqGuardType P.depth T=false∧∀fs,P.underlying T=some (.struct fs)→∀f∈fs.toList,f.name≠ "_"
def Aod(P:Program)(tt:TT):Prop:=∀T i,tt.get T=some i→Djz P T i
section
variable {P:Program}
theorem Aao{T:TypeId}{u:TypeDesc}(h:P.underlying T=some u)(W:World):(underlying T).run P W = .ok u W:=by
 simp[underlying,h]
theorem A1s{T:TypeId}{f:TypeInfo}(h:P.info? T=some f)(W:World):(typeInfo T).run P W = .ok f W:=by
 simp[typeInfo,h]
theorem Ajl{T:TypeId}{f:TypeInfo}(h:P.info? T=some f)(W:World):(sizeOf T).run P W = .ok f.size W:=by
 simp[sizeOf,A1s h]
theorem Bxt{T:TypeId}{u:TypeDesc}{d:TD}(h:P.underlying T=some u)(hm:Ac3 P u d)(W:World):(isAgg T).run P W = .ok d.agg W:=by
 simp only[isAgg,Sem.run_bind,Aao h,Result.andThen_ok]
 cases u<;>cases d<;>simp[Ac3]at hm<;>simp[TD.agg]
theorem Ah7(F:Fz)(ρ:Rho)(hp:Aaq)(v:Value):Acp F ρ hp (A7v v) v:=by
 unfold A7v
 split<;>simp[Acp,RA,RC]
theorem C63(F:Fz)(ρ:Rho)(hp:Aaq):∀v:Value,RV F ρ hp (C5w v) v
 | .agg cs=>⟨cs,rfl,Ac9.map (Ac9.of_get rfl fun i a b ha hb=>by rw[ha]at hb;cases hb;exact Ah7 F ρ hp _)⟩
 | .tuple _=>trivial
 | .bool a=>Ah7 F ρ hp (.bool a)
 | .int a b=>Ah7 F ρ hp (.int a b)
 | .float a b=>Ah7 F ρ hp (.float a b)
 | .complex a b c=>Ah7 F ρ hp (.complex a b c)
 | .string a=>Ah7 F ρ hp (.string a)
 | .pointer a=>Ah7 F ρ hp (.pointer a)
 | .slice a b c=>Ah7 F ρ hp (.slice a b c)
 | .map a=>Ah7 F ρ hp (.map a)
 | .chan a=>Ah7 F ρ hp (.chan a)
 | .func a b c=>Ah7 F ρ hp (.func a b c)
 | .nilFunc=>Ah7 F ρ hp (.nilFunc)
 | .iface a b=>Ah7 F ρ hp (.iface a b)
 | .nilIface=>Ah7 F ρ hp (.nilIface)
theorem Dae{n:Nat}{F:Fz}{ρ:Rho}{st:ASt}{a:Act}{W:World}(h:A0a n F ρ st a W)(x:Operand):RV F ρ st.hp (evs st.env x) (a.eval x):=by
 cases x with
 |tmp t=>exact h.env t
 |const v=>exact C63 F ρ st.hp v
 |global g=>exact RV.undef
 |func f=>exact⟨#[],rfl,trivial⟩
structure C0h(dst:Nat)(st:ASt)(ev:Operand→AV)(hp:Aaq):Prop where
 sev:∀x,ev x=evs st.env x∨ev x = .at .undef
 shp:∀id b,hp id=some b→st.hp id=some b
 snew:∀j,j<16→hp (Ab1 dst j)=none→st.hp (Ab1 dst j)=none
theorem C0h.rv{n dst:Nat}{F:Fz}{ρ:Rho}{st:ASt}{a:Act}{W:World}{ev:Operand→AV}{hp:Aaq}(s:C0h dst st ev hp)(h:A0a n F ρ st a W)(x:Operand) :
  RV F ρ st.hp (ev x) (a.eval x):=by
 rcases s.sev x with e|e
 ·rw[e];exact Dae h x
 ·rw[e];exact RV.undef
def C0i(P:Program)(g:List Bool)(o:Oper)(F:Fz)(ρ:Rho)(hp:Aaq)(a:Act)(W:World)(hp':Aaq)(v:AV):Prop :=
 (∃r W',((execOp a.eval o).run P W = .ok (.value r) W'∨((execOp a.eval o).run P W = .ok .skip W'∧r=undef))∧Am9 g F ρ hp W hp' v r W')∨
 (∃f args W1,(execOp a.eval o).run P W = .ok (.enter f args) W1∧Calls P f args W1 fun e W'=>∃r,e = .returned r∧Am9 g F ρ hp W hp' v r W')
theorem C0i.ops{n:Nat}{g:List Bool}{o:Oper}{st:ASt}{l:List (Nat×Aa1)}{v:AV}(hd:∀t,o.dst=some t→t<n)(h:∀F ρ a W,A0a n F ρ st a W→C0i P g o F ρ st.hp a W (Ab3 st.hp l) v):OpS P n g o st (st.upd o.dst l v):=by
 intro F ρ a W hs K Q hK
 rcases h F ρ a W hs with ⟨r,W',hr,hg⟩|⟨f,args,W1,hr,hc⟩
 ·have:=hK _ _ (An9.of_good hs hd hg)
  unfold Oper.wp
  rcases hr with hr|⟨hr,rfl⟩
  ·rw[hr,Oper.upon_value];exact this
  ·rw[hr,Oper.upon_skip];exact this
 ·unfold Oper.wp
  rw[hr,Oper.upon_enter]
  refine hc.mono ?_
  rintro e W' ⟨r,rfl,hg⟩
  exact hK _ _ (An9.of_good hs hd hg)
theorem C0i.val{g:List Bool}{o:Oper}{F:Fz}{ρ:Rho}{hp:Aaq}{a:Act}{W:World}{v:AV}{r:Value}(hh:Adn F ρ hp W)(hr:(execOp a.eval o).run P W = .ok (.value r) W)(hv:RV F ρ hp v r):C0i P g o F ρ hp a W hp v:=.inl ⟨r,W,.inl hr,Am9.val hh hv⟩
theorem Asf.get_ok{F:Fz}{ρ:Rho}{hp:Aaq}{t:Ty}{x:Asf}{v:t.den}{r:Value}(h:x.get t=some v)(hr:RA F ρ hp x r):RC F t v [r]:=by
 cases x<;>simp only[Asf.get]at h<;>try (cases h;done)
 ·rename_i t' w
  split at h
  ·rename_i e;subst e;cases h;exact hr
  ·cases h
 ·cases t<;>simp at h
  subst h;simp only[RA]at hr;subst hr
  exact⟨none,0,rfl,by simp,fun _=>rfl,fun h=>by simp at h⟩
 ·cases t<;>simp at h
  subst h;obtain⟨A,rfl⟩:=hr
  exact⟨A,0,rfl,by simp,fun _=>rfl,fun h=>by simp at h⟩
 ·rename_i t' w
  split at h
  ·rename_i e;subst e;cases h;exact hr.1
  ·cases h
theorem Acw.get_ok{F:Fz}{ρ:Rho}{hp:Aaq}{t:Ty}{c:Acw}{v:t.den}{r:Value}(h:c.get t=some v)(hr:Acp F ρ hp c r):RC F t v [r]:=by
 cases c with
 |a x=>exact Asf.get_ok h hr
 |func f caps=>cases h
 |iface T cs=>cases h
theorem AV.get_ok{F:Fz}{ρ:Rho}{hp:Aaq}{t:Ty}{x:AV}{v:t.den}{r:Value}(h:x.get t=some v)(hr:RV F ρ hp x r):RC F t v [r]:=by
 cases x with
 |v x=>cases x with
  |one c=>exact Acw.get_ok h hr
  |agg cs=>cases h
 |tup xs=>cases h
theorem Btb{F:Fz}{ρ:Rho}{hp:Aaq}:∀{t:Ty} {cs:List Acw} {v:t.den} {rs:List Value},Bo4 t cs=some v→Ac9 (Acp F ρ hp) cs rs→RC F t v rs
 | .pair a b,cs,v,rs,h,hr=>by
  simp only[Bo4]at h
  split at h
  ·rename_i x y hx hy
   cases h
   refine⟨rs.take a.size,rs.drop a.size,(List.take_append_drop _ _).symm,Btb hx (hr.take _),Btb hy (hr.drop _)⟩
  ·cases h
 | .bool,cs,v,rs,h,hr=>by
  simp only[Bo4]at h
  split at h
  ·obtain⟨b,rfl,hb⟩:=hr.one;exact Acw.get_ok h hb
  ·cases h
 | .int k,cs,v,rs,h,hr=>by
  simp only[Bo4]at h
  split at h
  ·obtain⟨b,rfl,hb⟩:=hr.one;exact Acw.get_ok h hb
  ·cases h
 | .str,cs,v,rs,h,hr=>by
  simp only[Bo4]at h
  split at h
  ·obtain⟨b,rfl,hb⟩:=hr.one;exact Acw.get_ok h hb
  ·cases h
 | .list t,cs,v,rs,h,hr=>by
  simp only[Bo4]at h
  split at h
  ·obtain⟨b,rfl,hb⟩:=hr.one;exact Acw.get_ok h hb
  ·cases h
theorem Bak{F:Fz}{ρ:Rho}{hp:Aaq}:∀{t:Ty} {v:t.den} {rs:List Value},RC F t v rs→Ac9 (Acp F ρ hp) (cellsOf t v) rs
 | .pair a b,v,rs,h=>by
  obtain⟨c,d,rfl,hc,hd⟩:=h
  exact (Bak hc).append (Bak hd)
 | .bool,v,rs,h=>by simp only[RC]at h;subst h;exact⟨rfl,trivial⟩
 | .int k,v,rs,h=>by simp only[RC]at h;subst h;exact⟨rfl,trivial⟩
 | .str,v,rs,h=>by simp only[RC]at h;subst h;exact⟨rfl,trivial⟩
 | .list t,v,rs,h=>by
  have h':=h
  obtain⟨A,cap,rfl,_⟩:=h'
  exact⟨h,trivial⟩
theorem Bla:∀{t:Ty} {v:t.den},(cellsOf t v).length=t.size
 | .pair a b,v=>by simp[cellsOf,Ty.size,Bla]
 | .bool,v=>rfl
 | .int k,v=>rfl
 | .str,v=>rfl
 | .list t,v=>rfl
theorem Btm{F:Fz}{ρ:Rho}{hp:Aaq}{t:Ty}:∀{n:Nat} {cs:List Acw} {xs:List t.den} {rs:List Value},Bmx t n cs=some xs→Ac9 (Acp F ρ hp) cs rs→
  xs.length=n∧rs.length=n*t.size∧∀i,i<n→RC F t (xs.getD i t.dflt) ((rs.drop (i*t.size)).take t.size)
 |0,cs,xs,rs,h,hr=>by
  simp only[Bmx]at h
  split at h
  ·cases h;have:=hr.nil_left;subst this;exact⟨rfl,by simp,fun i hi=>by omega⟩
  ·cases h
 |n+1,cs,xs,rs,h,hr=>by
  simp only[Bmx]at h
  split at h
  ·rename_i x r hx hr'
   cases h
   obtain⟨h1,h2,h3⟩:=Btm hr' (hr.drop t.size)
   have h0:=Btb hx (hr.take t.size)
   have hl:=h0.length
   have hle:t.size≤rs.length:=by simp at hl;omega
   refine⟨by simp[h1],by simp at h2;rw[Nat.add_mul,Nat.one_mul];omega,fun i hi=>?_⟩
   cases i with
   |zero=>simpa using h0
   |succ i=>
    have:=h3 i (by omega)
    rw[List.drop_drop]at this
    have e:t.size+i*t.size=(i+1)*t.size:=by rw[Nat.add_mul];omega
    rw[e]at this
    simpa using this
  ·cases h
theorem Dj0{F:Fz}{ρ:Rho}{hp:Aaq}{W:World}{id:Nat}{E:TypeId}{t:Ty}{ver:Nat}{fz:Bool}{xs:List t.den}(hh:Adn F ρ hp W)(hb:hp id=some (.row E t ver fz xs))(F':Fz)(hF:∀b o,F b=some o→F' b=some o)(hid:∀k,k∈(ρ id).bs→F' k=W.heap[k]?){A:Option Addr}(hA:∀bb,(ρ id).bs=[bb]→A=some ⟨bb,0,none⟩):xs.length≤(ρ id).cap∧(0<xs.length→∃b o c T fr,A=some ⟨b,o,none⟩∧F' b=some (.cells c T fr)∧
   o+xs.length*t.size≤c.size∧∀i,i<xs.length→RC F' t (xs.getD i t.dflt) (Ahc c (o+i*t.size) t.size)):=by
 rcases hh.blocks id _ hb with ⟨h1,h2,h3⟩|⟨bb,rs,fr,h1,h2,h3,h4,h5,h6,h7⟩
 ·subst h2;simp
 ·refine⟨h5,fun _=>⟨bb,0,rs,E,fr,hA bb h1,?_,?_,fun i hi=>?_⟩⟩
  ·rw[hid bb (by simp[h1])];exact h2
  ·rw[h4,Nat.zero_add];exact Nat.mul_le_mul_right _ h5
  ·rw[Nat.zero_add];exact (h6 i hi).mono hF
theorem Asf.frz_ok{F:Fz}{ρ:Rho}{hp hq:Aaq}{W:World}(hh:Adn F ρ hp W)(hs:∀id b,hq id=some b→hp id=some b){x y:Asf}{l:List Nat}{r:Value}(h:x.frz hq=some (y,l))(hr:RA F ρ hp x r)(F':Fz)(hF:∀b o,F b=some o→F' b=some o)(hl:∀id,id∈l→∀k,k∈(ρ id).bs→F' k=W.heap[k]?):RA F' ρ hp y r:=by
 have keep:=RA.mono (F:=F) (F':=F') (ρ:=ρ) (ρ':=ρ) (hp:=hp) (hp':=hp) hF (fun _ b hb=>⟨b,hb,Avp.refl _ _⟩) hr
 cases x<;>simp only[Asf.frz]at h<;>try (cases h;exact keep)
 ·rename_i id ver
  split at h
  ·rename_i E t ver' fz xs hb
   split at h
   ·rename_i e;cases h;have e:=Ab4 e;subst e
    have hb':=hs _ _ hb
    obtain⟨b,hb2,hv,A,len,c,rfl,hc⟩:=hr
    rw[hb']at hb2;cases hb2
    obtain⟨rfl,rfl,hA⟩:=hc rfl
    obtain⟨h1,h2⟩:=Dj0 hh hb' F' hF (hl id (by simp)) hA
    refine⟨A,_,rfl,h1,?_,h2⟩
    intro hn
    subst hn
    rcases hh.blocks id _ hb' with ⟨_,_,h3⟩|⟨bb,rs,fr,h3,_⟩
    ·exact h3
    ·have:=hA bb h3;cases this
   ·cases h
  ·cases h
 ·rename_i id ver off len
  split at h
  ·rename_i E t ver' fz xs hb
   split at h
   ·rename_i e;cases h;have e:=Ab4 e;subst e
    have hb':=hs _ _ hb
    obtain⟨b,hb2,hv,A,l',c,rfl,hc⟩:=hr
    rw[hb']at hb2;cases hb2
    obtain⟨e0,h2,h3,h4,hA⟩:=hc rfl
    subst l'
    rcases hh.blocks id _ hb' with ⟨i1,i2,i3⟩|⟨bb,rs,fr,i1,i2,i3,i4,i5,i6,i7⟩
    ·subst i2
     have hz:len=0:=by simp at h2;omega
     have hcz:c=0:=by omega
     subst hz hcz
     exact⟨A,0,by simp,by simp,fun _=>rfl,fun h=>by simp at h⟩
    ·have hlen:(List.take len (List.drop off xs)).length=len:=by simp;omega
     have hA':=hA bb i1
     refine⟨A,c,by rw[hlen],by rw[hlen];omega,fun hn=>?_,fun hp'=>?_⟩
     ·subst hn;rcases hA' with h|h
      ·exact h
      ·cases h
     ·rw[hlen]at hp'
      rcases hA' with h|h
      ·omega
      ·refine⟨bb,off*t.size,rs,E,fr,h,?_,?_,fun i hi=>?_⟩
       ·rw[hl id (by simp) bb (by simp[i1])];exact i2
       ·rw[hlen,i4,←Nat.add_mul];exact Nat.mul_le_mul_right _ (by omega)
       ·rw[hlen]at hi
        have:=(i6 (off+i) (by omega)).mono hF
        have e1:(List.take len (List.drop off xs)).getD i t.dflt=xs.getD (off+i) t.dflt:=by
         simp[List.getD_eq_getElem?_getD,List.getElem?_drop,hi]
        rw[e1,←Nat.add_mul];exact this
   ·cases h
  ·cases h
theorem Acw.frz_ok{F:Fz}{ρ:Rho}{hp hq:Aaq}{W:World}(hh:Adn F ρ hp W)(hs:∀id b,hq id=some b→hp id=some b){x y:Acw}{l:List Nat}{r:Value}(h:x.frz hq=some (y,l))(hr:Acp F ρ hp x r)(F':Fz)(hF:∀b o,F b=some o→F' b=some o)(hl:∀id,id∈l→∀k,k∈(ρ id).bs→F' k=W.heap[k]?):Acp F' ρ hp y r:=by
 have keep:=Acp.mono (F:=F) (F':=F') (ρ:=ρ) (ρ':=ρ) (hp:=hp) (hp':=hp) hF (fun _ b hb=>⟨b,hb,Avp.refl _ _⟩) hr
 cases x with
 |a x=>
  simp only[Acw.frz]at h
  split at h
  ·rename_i z m hz;cases h;exact Asf.frz_ok hh hs hz hr F' hF hl
  ·cases h
 |func f caps=>cases h;exact keep
 |iface T cs=>cases h;exact keep
theorem Bm1{F:Fz}{ρ:Rho}{hp hq:Aaq}{W:World}(hh:Adn F ρ hp W)(hs:∀id b,hq id=some b→hp id=some b):∀{cs ds:List Acw} {l:List Nat} {rs:List Value},
  Asg hq cs=some (ds,l)→Ac9 (Acp F ρ hp) cs rs→∀(F':Fz),(∀b o,F b=some o→F' b=some o)→(∀id,id∈l→∀k,k∈(ρ id).bs→F' k=W.heap[k]?)→Ac9 (Acp F' ρ hp) ds rs
 |[],ds,l,rs,h,hr,F',hF,hl=>by cases h;have:=hr.nil_left;subst this;trivial
 |c::cs,ds,l,rs,h,hr,F',hF,hl=>by
  simp only[Asg]at h
  split at h
  ·rename_i d l1 s m hd hs'
   cases h
   obtain⟨b,r,rfl,h1,h2⟩:=hr.cons_left
   exact⟨Acw.frz_ok hh hs hd h1 F' hF fun id hi=>hl id (by simp[hi]),Bm1 hh hs hs' h2 F' hF fun id hi=>hl id (by simp[hi])⟩
  ·cases h
end
end
end Go.AX
namespace Go.AX
noncomputable section
section
variable {P:Program}
theorem A4b(b o n:Nat):(⟨b,o,none⟩:Addr).add n=⟨b,o+n,none⟩:=by
 unfold Addr.add;split
 ·rename_i h;subst h;rfl
 ·rfl
theorem Cdz{W:World}{b o:Nat}{c:Array Value}{T:TypeId}{fr:Nat×Nat}(h:W.heap[b]? = some (.cells c T fr)):W.cell? ⟨b,o,none⟩=c[o]?:=by
 simp[World.cell?,h]
theorem Cuw{W:World}{b o:Nat}{c:Array Value}{T:TypeId}{fr:Nat×Nat}(h:W.heap[b]? = some (.cells c T fr))(hn:NF fr c.size)(ho:o<c.size) :
  W.frozen? ⟨b,o,none⟩=false:=by
 have:=hn o ho
 simp[World.frozen?,h]
 intro h1
 rcases Nat.lt_or_ge o fr.2 with h2|h2
 ·exact absurd ⟨h1,h2⟩ this
 ·exact h2
theorem Blb{c:Array Value}{o n i:Nat}(hi:i<n):(Ahc c o n)[i]? = c[o+i]?:=by
 simp[Ahc,hi,List.getElem?_drop]
theorem Brm(W:World)(a:Addr):∀(vs:List Value) (i:Nat) (acc:Array Value),
  (∀j v,vs[j]? = some v→W.cell? (a.add (i+j))=some v)→(loadCellsFrom a i vs.length acc).run P W = .ok (acc++vs.toArray) W
 |[],i,acc,_=>by simp[loadCellsFrom]
 |v::r,i,acc,h=>by
  have h0:=h 0 v (by simp)
  simp only[Nat.add_zero]at h0
  simp only[List.length_cons,loadCellsFrom,Sem.run_bind,run_load,h0,Result.andThen_ok]
  rw[Brm W a r (i+1) (acc.push v) (fun j x hx=>by
   have:=h (j+1) x (by simpa using hx)
   rwa [show i+1+j=i+(j+1) by omega])]
  congr 1
  apply Array.ext';simp
theorem Bo6{W:World}{b o n:Nat}{c:Array Value}{T:TypeId}{fr:Nat×Nat}(h:W.heap[b]? = some (.cells c T fr))(hn:o+n≤c.size) :
  (loadCells ⟨b,o,none⟩ n).run P W = .ok (Ahc c o n).toArray W:=by
 have hl:(Ahc c o n).length=n:=by simp[Ahc];omega
 have:=Brm (P:=P) W ⟨b,o,none⟩ (Ahc c o n) 0 #[] (fun j v hv=>by
  have hj:j<n:=by
   rcases Nat.lt_or_ge j n with h|h
   ·exact h
   ·rw[List.getElem?_eq_none (by omega)]at hv;cases hv
  rw[Blb hj]at hv
  rw[A4b,Cdz h,Nat.zero_add];exact hv)
 rw[hl]at this
 simpa [loadCells]using this
theorem C5z{F:Fz}{ρ:Rho}{hp:Aaq}{agg:Bool}{cs:List Acw}{v:AV}{vs:List Value}(h:Chs agg cs=some v)(hr:Ac9 (Acp F ρ hp) cs vs) :
  (agg=true∧RV F ρ hp v (.agg vs.toArray))∨(agg=false∧∃x,vs=[x]∧RV F ρ hp v x):=by
 unfold Chs at h
 split at h
 ·cases h;exact .inl ⟨rfl,vs.toArray,rfl,by simpa using hr⟩
 ·split at h
  ·cases h
   obtain⟨b,rfl,hb⟩:=hr.one
   exact .inr ⟨rfl,b,rfl,hb⟩
  ·cases h
theorem B0h{tt:TT}(htt:Aod P tt){T:TypeId}{i:TI}(hi:tt.get T=some i){F:Fz}{ρ:Rho}{hp:Aaq}{W:World}{b o:Nat}{c:Array Value}{U:TypeId}{fr:Nat×Nat}(h:W.heap[b]? = some (.cells c U fr))(hn:o+i.size≤c.size){cs:List Acw}{v:AV}(hm:Chs i.d.agg cs=some v)(hr:Ac9 (Acp F ρ hp) cs (Ahc c o i.size)) :
  ∃r,(loadVar T ⟨b,o,none⟩).run P W = .ok r W∧RV F ρ hp v r:=by
 obtain⟨u,hu,hd⟩:=(htt T i hi).under
 obtain⟨f,hf,hs,hby,_⟩:=(htt T i hi).info
 rcases C5z hm hr with ⟨ha,hv⟩|⟨ha,x,hx,hv⟩
 ·refine⟨_,?_,hv⟩
  simp[loadVar,Bxt hu hd,ha,Ajl hf,hs,Bo6 h hn]
 ·refine⟨x,?_,hv⟩
  have hl:i.size=1:=by
   have:=congrArg List.length hx
   simp[Ahc]at this
   omega
  have h0:c[o]? = some x:=by
   have:=Blb (c:=c) (o:=o) (n:=i.size) (i:=0) (by omega)
   rw[hx]at this;simpa using this.symm
  simp[loadVar,Bxt hu hd,ha,Cdz h,h0]
theorem C0j{tt:TT}(htt:Aod P tt){hq:Aaq}{T:TypeId}{x:AV}{R:Type}{K:AV→Option R}{res:R}(h:Czj tt hq T x K=some res) :
  ∃v,K v=some res∧∀F ρ hp W rx,Adn F ρ hp W→(∀id b,hq id=some b→hp id=some b)→RV F ρ hp x rx→∃r,(Instr.loadAt T rx).run P W = .ok r W∧RV F ρ hp v r:=by
 unfold Czj at h
 split at h
 ·cases h
 rename_i i hi
 have fin:∀{cs:List Acw} {fld:Nat},(match Nat.ble (fld+i.size) cs.length with
   |true=>match Chs i.d.agg ((cs.drop fld).take i.size) with
    |some v=>K v
    |none=>none
   |false=>none)=some res→∃v,K v=some res∧Chs i.d.agg ((cs.drop fld).take i.size)=some v∧fld+i.size≤cs.length:=by
  intro cs fld h
  split at h
  ·rename_i hle
   split at h
   ·rename_i v hv;exact⟨v,h,hv,Nat.le_of_ble_eq_true hle⟩
   ·cases h
  ·cases h
 split at h
 ·rename_i id ver idx fld
  split at h
  ·rename_i T' cs hb
   obtain⟨v,hK,hm,hle⟩:=fin h
   refine⟨v,hK,fun F ρ hp W rx hh hs hx=>?_⟩
   obtain⟨b,hb2,hv,ad,rfl,hc⟩:=hx
   have hb':=hs _ _ hb
   rw[hb']at hb2;cases hb2
   simp only[Aa1.ver,Nat.le_zero]at hv
   subst hv
   obtain⟨rfl,bb,hbs,rfl⟩:=hc rfl
   obtain⟨bb',rs,fr,h1,h2,h3,h4⟩:=hh.blocks id _ hb'
   rw[h1]at hbs;cases hbs
   have hl:=h4.length
   have hl':rs.size=cs.length:=by simpa using hl.symm
   have:=B0h htt hi (F:=F) (ρ:=ρ) (hp:=hp) h2 (o:=fld) (by omega) hm (by
    simpa [Ahc]using (h4.drop fld).take i.size)
   simpa [Instr.loadAt,Instr.sureAddr]using this
  ·rename_i E t ver' fz xs hb
   split at h
   ·rename_i e;have e:=Ab4 e;subst e
    obtain⟨v,hK,hm,hle⟩:=fin h
    refine⟨v,hK,fun F ρ hp W rx hh hs hx=>?_⟩
    obtain⟨b,hb2,hv,ad,rfl,hc⟩:=hx
    have hb':=hs _ _ hb
    rw[hb']at hb2;cases hb2
    obtain⟨hidx,bb,hbs,rfl⟩:=hc rfl
    rcases hh.blocks id _ hb' with ⟨i1,_⟩|⟨bb',rs,fr,h1,h2,h3,h4,h5,h6,h7⟩
    ·rw[i1]at hbs;cases hbs
    ·rw[h1]at hbs;cases hbs
     have hr:=h6 idx hidx
     have hcs:=Bak (ρ:=ρ) (hp:=hp) hr
     rw[Bla]at hle
     have hsz:idx*t.size+t.size≤rs.size:=by
      rw[h4,←Nat.succ_mul];exact Nat.mul_le_mul_right _ (by omega)
     have:=B0h htt hi (F:=F) (ρ:=ρ) (hp:=hp) h2 (o:=idx*t.size+fld) (by omega) hm (by
      have:=(hcs.drop fld).take i.size
      rw[show ((Ahc rs (idx*t.size) t.size).drop fld).take i.size=Ahc rs (idx*t.size+fld) i.size by
       unfold Ahc
       rw[List.drop_take,List.drop_drop,List.take_take,Nat.min_eq_left (by omega)]]at this
      exact this)
     simpa [Instr.loadAt,Instr.sureAddr]using this
   ·cases h
  ·cases h
 ·rename_i t xs idx fld
  obtain⟨v,hK,hm,hle⟩:=fin h
  refine⟨v,hK,fun F ρ hp W rx hh hs hx=>?_⟩
  obtain⟨hidx,b,o,c,U,fr,rfl,hF,ho,hr⟩:=hx
  have hcs:=Bak (ρ:=ρ) (hp:=hp) hr
  rw[Bla]at hle
  have:=B0h htt hi (F:=F) (ρ:=ρ) (hp:=hp) (hh.fz _ _ hF) (o:=o+fld) (by omega) hm (by
   have:=(hcs.drop fld).take i.size
   rw[show ((Ahc c o t.size).drop fld).take i.size=Ahc c (o+fld) i.size by
    unfold Ahc
    rw[List.drop_take,List.drop_drop,List.take_take,Nat.min_eq_left (by omega)]]at this
   exact this)
  simpa [Instr.loadAt,Instr.sureAddr]using this
 ·cases h
theorem RC.one{F:Fz}{t:Ty}{v:t.den}{r:Value}(h:RC F t v [r]):r.oneCell'=true:=by
 cases t with
 |bool=>simp only[RC]at h;cases h;rfl
 |int k=>simp only[RC]at h;cases h;rfl
 |str=>simp only[RC]at h;cases h;rfl
 |list t=>obtain⟨A,cap,h,_⟩:=h;cases h;rfl
 |pair a b=>
  have:=h.length
  have:=a.size_pos;have:=b.size_pos
  simp[Ty.size]at *
  omega
theorem Acp.one{F:Fz}{ρ:Rho}{hp:Aaq}{c:Acw}{r:Value}(h:Acp F ρ hp c r)(ho:c.ok=true):r.oneCell'=true:=by
 cases c with
 |a x=>
  cases x<;>simp only[Acp,RA]at h
  ·simp[Acw.ok]at ho
  ·exact h.one
  ·subst h;rfl
  ·subst h;rfl
  ·subst h;rfl
  ·subst h;rfl
  ·subst h;rfl
  ·obtain⟨A,rfl⟩:=h;rfl
  ·exact RC.one h.1
  ·obtain⟨_,_,_,A,l,c,rfl,_⟩:=h;rfl
  ·obtain⟨_,_,_,A,l,c,rfl,_⟩:=h;rfl
  ·obtain⟨_,_,_,ad,rfl,_⟩:=h;rfl
  ·obtain⟨_,_,_,_,_,_,rfl,_⟩:=h;rfl
  ·obtain⟨_,_,_,_,_,_,_,rfl⟩:=h;rfl
  ·obtain⟨_,_,A,l,c,rfl,_⟩:=h;rfl
 |func f caps=>obtain⟨cs,rfl,_⟩:=h;rfl
 |iface T cs=>obtain⟨v,rfl,_⟩:=h;rfl
theorem Bss{F:Fz}{ρ:Rho}{hp:Aaq}{v:AV}{new:List Acw}{r:Value}(h:Bk8 v=some new)(hr:RV F ρ hp v r) :
  Ac9 (Acp F ρ hp) new r.cells.toList∧∀x∈r.cells.toList,x.oneCell'=true:=by
 cases v with
 |tup xs=>cases h
 |v x=>
  cases x with
  |one c=>
   simp only[Bk8]at h
   split at h
   ·rename_i ho
    cases h
    have h1:=Acp.one hr ho
    have e:r.cells = #[r]:=by cases r<;>first|rfl|cases h1
    rw[e]
    exact⟨⟨hr,trivial⟩,fun x hx=>by simp at hx;subst hx;exact h1⟩
   ·cases h
  |agg cs=>
   simp only[Bk8]at h
   split at h
   ·rename_i ho
    cases h
    obtain⟨rs,rfl,hrs⟩:=hr
    refine⟨hrs,fun x hx=>?_⟩
    have:∀{cs:List Acw} {rs:List Value},Ac9 (Acp F ρ hp) cs rs→cs.all Acw.ok=true→∀x∈rs,x.oneCell'=true:=by
     intro cs
     induction cs with
     |nil=>intro rs h _ x hx;have:=h.nil_left;subst this;cases hx
     |cons c cs ih=>
      intro rs h ha x hx
      obtain⟨b,r,rfl,h1,h2⟩:=h.cons_left
      simp only[List.all_cons,Bool.and_eq_true]at ha
      simp only[List.mem_cons]at hx
      rcases hx with rfl|hx
      ·exact Acp.one h1 ha.1
      ·exact ih h2 ha.2 x hx
    exact this hrs ho x hx
   ·cases h
structure C64(W:World)(b:Nat)(c':List Value)(T:TypeId)(fr:Nat×Nat)(W':World):Prop where
 os:W'.os=W.os
 tape:W'.tape=W.tape
 output:W'.output=W.output
 size:W'.heap.size=W.heap.size
 ne:∀k,k≠b→W'.heap[k]? = W.heap[k]?
 at_:W'.heap[b]? = some (.cells c'.toArray T fr)
theorem B8g{W:World}{b o:Nat}{c:Array Value}{T:TypeId}{fr:Nat×Nat}(h:W.heap[b]? = some (.cells c T fr))(v:Value) :
  C64 W b (c.toList.set o v) T fr (W.setCell ⟨b,o,none⟩ v):=by
 refine⟨rfl,rfl,rfl,by simp[World.setCell],fun k hk=>?_,?_⟩
 ·simp[World.setCell,Array.getElem?_modify,Ne.symm hk]
 ·simp[World.setCell,Array.getElem?_modify,h]
  apply Array.ext';simp
theorem Bo7{α:Type}:∀(l:List α) (n:Nat) (v:α),n<l.length→(l.set n v).take (n+1)=l.take n++[v]
 |[],n,v,h=>by simp at h
 |x::l,0,v,h=>by simp
 |x::l,n+1,v,h=>by
  have:=Bo7 l n v (by simpa using h)
  simpa using this
theorem A1t{b:Nat}{T:TypeId}{fr:Nat×Nat}:∀(vs:List Value) (W:World) (c:Array Value) (o i:Nat),W.heap[b]? = some (.cells c T fr)→NF fr c.size→(o+i)+vs.length≤c.size→
  (∀x∈vs,x.oneCell'=true)→∃W',(storeCells ⟨b,o,none⟩ vs i).run P W = .ok () W'∧C64 W b (c.toList.take (o+i)++vs++c.toList.drop (o+i+vs.length)) T fr W'
 |[],W,c,o,i,h,_,_,_=>⟨W,by simp[storeCells],rfl,rfl,rfl,rfl,fun _ _=>rfl,by simpa using h⟩
 |v::r,W,c,o,i,h,hn,hl,hone=>by
  simp only[List.length_cons]at hl
  have hlt:o+i<c.size:=by omega
  have hcell:W.cell? ⟨b,o+i,none⟩=some c[o+i]:=by rw[Cdz h];simp[hlt]
  have hfr:=Cuw h hn hlt
  have s1:=B8g (o:=o+i) h v
  obtain⟨W',hr,s2⟩:=A1t r (W.setCell ⟨b,o+i,none⟩ v) (c.toList.set (o+i) v).toArray o (i+1) s1.at_ (by simpa using hn) (by simp;omega) (fun x hx=>hone x (by simp[hx]))
  refine⟨W',?_,s2.os.trans s1.os,s2.tape.trans s1.tape,s2.output.trans s1.output,s2.size.trans s1.size,fun k hk=>(s2.ne k hk).trans (s1.ne k hk),?_⟩
  ·have e:(⟨b,o,none⟩:Addr).add i=⟨b,o+i,none⟩:=A4b _ _ _
   simp only[storeCells,e,Sem.run_bind]
   rw[run_store P W _ _ _ (hone v (by simp)),hcell]
   simp[hfr,hr]
  ·have e:=s2.at_
   rw[e]
   congr 2
   simp only[List.length_cons]
   congr 1
   have h1:(c.toList.set (o+i) v).take (o+(i+1))=c.toList.take (o+i)++[v]:=by
    rw[show o+(i+1)=(o+i)+1 by omega]
    exact Bo7 _ _ _ (by simpa using hlt)
   have h2:(c.toList.set (o+i) v).drop (o+(i+1)+r.length)=c.toList.drop (o+i+(r.length+1)):=by
    rw[List.drop_set_of_lt (by omega)];congr 1;omega
   rw[List.toList_toArray,h1,h2];simp
theorem B8h{tt:TT}(htt:Aod P tt){T:TypeId}{i:TI}(hi:tt.get T=some i){W:World}{b o:Nat}{c:Array Value}{U:TypeId}{fr:Nat×Nat}(h:W.heap[b]? = some (.cells c U fr))(hn:NF fr c.size){v:Value}(hsz:v.cells.size=i.size)(hl:o+i.size≤c.size)(hone:∀x∈v.cells.toList,x.oneCell'=true) :
  ∃W',(storeVar T ⟨b,o,none⟩ v).run P W = .ok () W'∧C64 W b (c.toList.take o++v.cells.toList++c.toList.drop (o+i.size)) U fr W':=by
 obtain⟨f,hf,hs,_,_⟩:=(htt T i hi).info
 obtain⟨W',hr,s⟩:=A1t (P:=P) v.cells.toList W c o 0 h hn (by simp;omega) hone
 refine⟨W',?_,by simpa [hsz]using s⟩
 simp[storeVar,Ajl hf,hs,hsz,hr]
end
end
end Go.AX
namespace Go.AX
noncomputable section
theorem Awe(ρ:Rho)(id:Nat):B0g ρ id (ρ id)=ρ:=by
 funext i;unfold B0g;split
 ·rename_i h;rw[h]
 ·rfl
theorem Cd0{hp:Aaq}{id:Nat}{b:Aa1}(h:hp id=some b):Am8 hp id b=hp:=by
 funext i
 by_cases e:i=id
 ·subst e;rw[Ahs,h]
 ·rw[Agt e]
structure Cmx(g:List Bool)(F:Fz)(ρ:Rho)(hp:Aaq)(W:World)(F':Fz)(hp':Aaq)(fr:List Nat):Prop where
 ok:Adn F' ρ hp' W
 keep:∀i x,hp i=some x→∃y,hp' i=some y∧Avp (ρ i) x (ρ i) y
 ext:Ext g F ρ hp W F' ρ hp' W
 rows:∀i E t ver fz xs,hp i=some (.row E t ver fz xs)→∃fz',hp' i=some (.row E t ver fz' xs)
 none:∀i,hp i=none→hp' i=none
 same:∀i,i∉fr→hp' i=hp i
 snap:∀i,i∈fr→∀k,k∈(ρ i).bs→F' k=W.heap[k]?
theorem Dgv(g:List Bool){F:Fz}{ρ:Rho}{hp:Aaq}{W:World}{id:Nat}{E:TypeId}{t:Ty}{ver:Nat}{fz:Bool}{xs:List t.den}(ho:Adn F ρ hp W)(hb:hp id=some (.row E t ver fz xs))(h32:fz=false→32≤id) :
  ∃F',Cmx g F ρ hp W F' (Am8 hp id (.row E t ver true xs)) [id]:=by
 cases fz with
 |true=>
  refine⟨F,?_⟩
  rw[Cd0 hb]
  refine⟨ho,fun i x hx=>⟨x,hx,Avp.refl _ _⟩,Ext.refl _ _ _ _ _,fun i E t ver fz xs h=>⟨fz,h⟩,fun _ h=>h,fun _ _=>rfl,fun i hi k hk=>?_⟩
  simp at hi;subst hi
  rcases ho.blocks i _ hb with ⟨h1,_⟩|⟨bb,rs,fr,h1,h2,_,_,_,_,h7⟩
  ·rw[h1]at hk;simp at hk
  ·rw[h1]at hk;simp at hk;subst hk
   rw[h7 rfl,h2]
 |false=>
  have h32:=h32 rfl
  have hFF:∀b o,F b=some o→(if b∈(ρ id).bs then W.heap[b]? else F b)=some o:=by
   intro k o hf
   split
   ·exact ho.fz k o hf
   ·exact hf
  let F':Fz:=⟨fun k=>if k∈(ρ id).bs then W.heap[k]? else F k,F.2.up hFF⟩
  have hk:∀i x,hp i=some x→∃y,Am8 hp id (.row E t ver true xs) i=some y∧Avp (ρ i) x (ρ i) y:=by
   intro i x hx
   by_cases e:i=id
   ·subst e;rw[hb]at hx;cases hx
    exact⟨.row E t ver true xs,by simp,Nat.le_refl _,fun h=>(by simp[Aa1.isMap]at h),fun _=>⟨rfl,rfl,rfl⟩⟩
   ·exact⟨x,by rw[Agt e];exact hx,Avp.refl _ _⟩
  refine⟨F',⟨?_,?_,?_,?_⟩,hk,⟨rfl,rfl,rfl,Nat.le_refl _,fun _ _ _=>rfl,?_,hFF,?_,?_⟩,?_,?_,?_,?_⟩
  ·intro i x hx
   by_cases e:i=id
   ·subst e;rw[Ahs]at hx;cases hx
    rcases ho.blocks i _ hb with h|⟨bb,rs,fr,h1,h2,h3,h4,h5,h6,h7⟩
    ·exact .inl h
    ·refine .inr ⟨bb,rs,fr,h1,h2,h3,h4,h5,fun i hi=>(h6 i hi).mono hFF,fun _=>?_⟩
     simp only[F',h1];simpa using h2
   ·rw[Agt e]at hx
    exact BR.mono hFF hk rfl (fun _ _=>rfl) (ho.blocks i x hx)
  ·intro i j x y k hx hy hi hj
   have e:∀{i x},Am8 hp id (.row E t ver true xs) i=some x→∃z,hp i=some z:=by
    intro i x hx
    by_cases e:i=id
    ·subst e;exact⟨_,hb⟩
    ·rw[Agt e]at hx;exact⟨x,hx⟩
   obtain⟨x',hx'⟩:=e hx;obtain⟨y',hy'⟩:=e hy
   exact ho.inj i j x' y' k hx' hy' hi hj
  ·intro k o hf
   simp only[F']at hf
   split at hf
   ·exact hf
   ·exact ho.fz k o hf
  ·rintro k ⟨i,x,hx,hz,hm⟩
   have e:i≠id:=by rintro rfl;rw[Ahs]at hx;cases hx;simp[Aa1.fz]at hz
   rw[Agt e]at hx
   have hn:k∉(ρ id).bs:=fun hm'=>e (ho.inj i id x _ k hx hb hm hm')
   simp only[F',hn,if_false]
   exact ho.apart k ⟨i,x,hx,hz,hm⟩
  ·rintro k ⟨i,x,hx,hz,hm⟩
   have e:i≠id:=by rintro rfl;rw[Ahs]at hx;cases hx;simp[Aa1.fz]at hz
   rw[Agt e]at hx
   exact .inl ⟨i,x,hx,hz,hm⟩
  ·intro k hf
   simp only[F']at hf
   split at hf
   ·rename_i hm;exact .inr (.inl ⟨id,_,hb,rfl,hm⟩)
   ·exact .inl hf
  ·intro i hi x hx
   have e:i≠id:=by omega
   exact⟨x,by rw[Agt e];exact hx,Evo.refl _ _ _⟩
  ·intro i E' t' ver' fz' xs' h
   by_cases e:i=id
   ·subst e;rw[hb]at h;cases h;exact⟨true,by simp⟩
   ·exact⟨fz',by rw[Agt e];exact h⟩
  ·intro i h
   have e:i≠id:=by rintro rfl;rw[hb]at h;cases h
   rw[Agt e];exact h
  ·intro i hi
   have e:i≠id:=by simpa using hi
   exact Agt e
  ·intro i hi k hm
   simp at hi;subst hi
   exact if_pos hm
def Btn(hq:Aaq)(fr:List Nat):Prop:=∀id,id∈fr→∃E t ver fz xs,hq id=some (.row E t ver fz xs)
theorem Bm2(g:List Bool){F:Fz}{ρ:Rho}{hp hq:Aaq}{W:World}(ho:Adn F ρ hp W):∀{fr:List Nat} (_:Btn hq fr) (_:∀id E t ver fz xs,hq id=some (.row E t ver fz xs)→id∈fr→∃fz',hp id=some (.row E t ver fz' xs)∧(fz=true→fz'=true))
  (_:∀id,id∈fr→∀E t ver xs,hq id=some (.row E t ver false xs)→32≤id),
  ∃F',Cmx g F ρ hp W F' (Ab3 hp (Ah6 hq fr)) fr
 |[],_,_,_=>⟨F,ho,fun i x hx=>⟨x,hx,Avp.refl _ _⟩,Ext.refl _ _ _ _ _,fun i E t ver fz xs h=>⟨fz,h⟩,fun _ h=>h,fun _ _=>rfl,fun i hi=>by simp at hi⟩
 |id::r,hr,hs,h32=>by
  obtain⟨E,t,ver,fz,xs,hb⟩:=hr id (by simp)
  obtain⟨fz',hb',himp⟩:=hs id E t ver fz xs hb (by simp)
  cases fz with
  |true=>
   have e:Ah6 hq (id::r)=Ah6 hq r:=by simp[Ah6,hb]
   rw[e]
   obtain⟨F',h⟩:=Bm2 g ho (fr:=r) (fun i hi=>hr i (by simp[hi])) (fun i E t ver fz xs h hi=>hs i E t ver fz xs h (by simp[hi])) (fun i hi=>h32 i (by simp[hi]))
   refine⟨F',h.ok,h.keep,h.ext,h.rows,h.none,fun i hi=>h.same i (fun hm=>hi (by simp[hm])),fun i hi k hk=>?_⟩
   simp at hi
   rcases hi with rfl|hi
   ·have hz:=himp rfl
    subst hz
    rcases ho.blocks i _ hb' with ⟨h1,_⟩|⟨bb,rs,fr,h1,h2,_,_,_,_,h7⟩
    ·rw[h1]at hk;simp at hk
    ·rw[h1]at hk;simp at hk;subst hk
     rw[h.ext.fmono _ _ (h7 rfl),h2]
   ·exact h.snap i hi k hk
  |false=>
   have e:Ah6 hq (id::r)=(id,.row E t ver true xs)::Ah6 hq r:=by simp[Ah6,hb]
   rw[e]
   simp only[Ab3]
   obtain⟨F1,h1⟩:=Dgv g ho hb' (fun _=>h32 id (by simp) E t ver xs hb)
   obtain⟨F2,h2⟩:=Bm2 g h1.ok (fr:=r) (fun i hi=>hr i (by simp[hi])) (fun i E' t' ver' fz'' xs' h hi=>by
    obtain⟨fz1,hb1,hi1⟩:=hs i E' t' ver' fz'' xs' h (by simp[hi])
    by_cases e:i=id
    ·subst e;rw[hb]at h;cases h;exact⟨true,by simp,fun _=>rfl⟩
    ·exact⟨fz1,by rw[Agt e];exact hb1,hi1⟩) (fun i hi=>h32 i (by simp[hi]))
   refine⟨F2,h2.ok,fun i x hx=>?_,h1.ext.trans h2.ext,fun i E t ver fz xs h=>?_,fun i h=>h2.none i (h1.none i h),fun i hi=>?_,fun i hi k hk=>?_⟩
   ·obtain⟨y,hy,ky⟩:=h1.keep i x hx
    obtain⟨z,hz,kz⟩:=h2.keep i y hy
    refine⟨z,hz,Nat.le_trans ky.1 kz.1,fun hm=>⟨(kz.2.1 (ky.2.1 hm).1).1,rfl⟩,fun hv=>?_⟩
    have hv1:y.ver=x.ver:=by have:=ky.1;have:=kz.1;omega
    have a1:=ky.2.2 hv1
    have a2:=kz.2.2 (by omega)
    cases x<;>cases y<;>simp only at a1<;>cases z<;>simp only at a2 ⊢<;>first|exact a1.elim|exact a2.elim|(try exact a2.elim)
    ·exact⟨trivial,a2.2⟩
    ·exact⟨trivial,by have:=a2.2.1;omega⟩
    ·exact⟨a1.1.trans a2.1,a2.2.1.trans a1.2.1,trivial⟩
   ·obtain⟨fz',h'⟩:=h1.rows i E t ver fz xs h
    exact h2.rows i E t ver fz' xs h'
   ·have e:i≠id:=fun e=>hi (by simp[e])
    rw[h2.same i (fun hm=>hi (by simp[hm])),h1.same i (by simpa using e)]
   ·by_cases e:i=id
    ·subst e
     have:=h1.snap i (by simp) k hk
     have hlt:=(ho.blocks i _ hb').lt hk
     rw[show W.heap[k]? = some W.heap[k] by simp[hlt]]at this ⊢
     exact h2.ext.fmono _ _ this
    ·simp[e]at hi
     exact h2.snap i hi k hk
theorem Bdf.inplace{g:List Bool}{F:Fz}{ρ:Rho}{hp:Aaq}{W W':World}{id bb:Nat}{b0 b:Aa1}{c':List Value}{T:TypeId}{fr:Nat×Nat}(h0:hp id=some b0)(hz0:b0.fz=false)(hz:b.fz=false)(hbs:(ρ id).bs=[bb])(hs:C64 W bb c' T fr W')(hk:Avp (ρ id) b0 (ρ id) b)(he:id<32→Evo (g.getD id false) (ρ id) (ρ id) b0 b):Bdf g F ρ hp W id (ρ id) b W':=by
 refine⟨hs.os,hs.tape,hs.output,by rw[hs.size];exact Nat.le_refl _,fun k _ hn=>hs.ne k ?_,fun k hk=>.inl ⟨b0,h0,hk⟩,fun b1 h1=>?_,fun h=>?_,hz⟩
 ·rintro rfl;exact hn b0 h0 (by simp[hbs])
 ·rw[h0]at h1;cases h1;exact⟨hz0,hk,he⟩
 ·rw[h0]at h;cases h
theorem Ceo{cs new:List Acw}{o:Nat}(h:o+new.length≤cs.length):(Avo cs o new).length=cs.length:=by
 simp[Avo];omega
theorem Bo8{R:Acw→Value→Prop}{cs new:List Acw}{rs vs:List Value}{o:Nat}(h:Ac9 R cs rs)(k:Ac9 R new vs) :
  Ac9 R (Avo cs o new) (rs.take o++vs++rs.drop (o+vs.length)):=by
 rw[←k.length]
 exact ((h.take o).append k).append (h.drop _)
theorem Dgw{F:Fz}{t:Ty}{xs:List t.den}{rs:List Value}{idx:Nat}{y:t.den}{new:List Value}(hl:xs.length*t.size≤rs.length)(h:∀i,i<xs.length→RC F t (xs.getD i t.dflt) ((rs.drop (i*t.size)).take t.size))(hi:idx<xs.length)(hy:RC F t y new) :
  ∀i,i<(xs.set idx y).length→RC F t ((xs.set idx y).getD i t.dflt) (((rs.take (idx*t.size)++new++rs.drop (idx*t.size+t.size)).drop (i*t.size)).take t.size):=by
 have hn:=hy.length
 have hle:(idx+1)*t.size≤xs.length*t.size:=Nat.mul_le_mul_right _ (by omega)
 rw[Nat.add_mul,Nat.one_mul]at hle
 intro i hlt
 simp only[List.length_set]at hlt
 have hlei:(i+1)*t.size≤xs.length*t.size:=Nat.mul_le_mul_right _ (by omega)
 rw[Nat.add_mul,Nat.one_mul]at hlei
 have e1:(rs.take (idx*t.size)).length=idx*t.size:=by simp;omega
 by_cases e:i=idx
 ·subst e
  have e2:(xs.set i y).getD i t.dflt=y:=by simp[List.getD_eq_getElem?_getD,hi]
  rw[e2,List.append_assoc,List.drop_append_of_le_length (by omega),List.drop_of_length_le (by omega),List.nil_append,List.take_append_of_le_length (by omega),List.take_of_length_le (by omega)]
  exact hy
 ·have e2:(xs.set idx y).getD i t.dflt=xs.getD i t.dflt:=by simp[List.getD_eq_getElem?_getD,List.getElem?_set_ne (Ne.symm e)]
  rw[e2]
  have:=h i hlt
  have e3:(((rs.take (idx*t.size)++new++rs.drop (idx*t.size+t.size)).drop (i*t.size)).take t.size)=(rs.drop (i*t.size)).take t.size:=by
   apply List.ext_getElem?
   intro j
   by_cases hj:j<t.size
   ·simp only[List.getElem?_take,hj,if_true,List.getElem?_drop]
    by_cases hlt':i<idx
    ·have:(i+1)*t.size≤idx*t.size:=Nat.mul_le_mul_right _ (by omega)
     rw[Nat.add_mul,Nat.one_mul]at this
     rw[List.append_assoc,List.getElem?_append_left (by omega),List.getElem?_take]
     simp;omega
    ·have:(idx+1)*t.size≤i*t.size:=Nat.mul_le_mul_right _ (by omega)
     rw[Nat.add_mul,Nat.one_mul]at this
     rw[List.getElem?_append_right (by simp;omega)]
     simp only[List.length_append,e1,hn,List.getElem?_drop]
     congr 1;omega
   ·rw[List.getElem?_eq_none (by simp;omega),List.getElem?_eq_none (by simp;omega)]
  rw[e3];exact this
section
variable {P:Program}
theorem Bal{g:List Bool}{hp:Aaq}{id:Nat}{b:Aa1}{l:List (Nat×Aa1)}(h:Ak4 g hp ((id,b)::l)=true):Ak4 g hp l=true∧
  (id<32→∃b0,hp id=some b0∧match b0,b with
   | .cells _ _,.cells _ _=>True
   | .amap _ _ _ _,.amap _ _ _ _=>True
   | .fmap _ _ _,.fmap _ _ _=>True
   | .row _ _ v fz _,.row _ _ v' fz' _=>fz=fz'∧(v=v'∨g.getD id false=true)
   | _,_=>False):=by
 simp only[Ak4,Bool.and_eq_true]at h
 refine⟨h.2,fun hlt=>?_⟩
 have h1:=h.1
 have:Nat.ble 32 id=false:=by
  cases e:Nat.ble 32 id with
  |false=>rfl
  |true=>have:=Nat.le_of_ble_eq_true e;omega
 rw[this]at h1
 simp only at h1
 cases hb:hp id with
 |none=>rw[hb]at h1;cases h1
 |some b0=>
  rw[hb]at h1
  refine⟨b0,rfl,?_⟩
  cases b0<;>cases b<;>simp at h1 ⊢
  exact⟨h1.1,h1.2.imp (fun h=>h) (fun h=>h)⟩
theorem Bo9{g:List Bool}{hp:Aaq}:∀{l m:List (Nat×Aa1)},Ak4 g hp (l++m)=true→Ak4 g hp l=true∧Ak4 g hp m=true
 |[],m,h=>⟨rfl,h⟩
 |(id,b)::l,m,h=>by
  simp only[List.cons_append,Ak4,Bool.and_eq_true]at h ⊢
  have:=Bo9 h.2
  exact⟨⟨h.1,this.1⟩,this.2⟩
theorem Cmy{g:List Bool}{hp hq:Aaq}:∀{fr:List Nat},(∀id b,hq id=some b→hp id=some b)→Ak4 g hp (Ah6 hq fr)=true→∀id,id∈fr→∀E t ver xs,hq id=some (.row E t ver false xs)→32≤id
 |[],_,_,id,hi,_,_,_,_,_=>by simp at hi
 |i::r,hs,h,id,hi,E,t,ver,xs,hb=>by
  by_cases e:id=i
  ·subst e
   have e:Ah6 hq (id::r)=(id,.row E t ver true xs)::Ah6 hq r:=by simp[Ah6,hb]
   rw[e]at h
   rcases Nat.lt_or_ge id 32 with hlt|hge
   ·obtain⟨b0,h0,hm⟩:=(Bal h).2 hlt
    rw[hs _ _ hb]at h0;cases h0
    simp at hm
   ·exact hge
  ·have hr:Ak4 g hp (Ah6 hq r)=true:=by
    simp only[Ah6]at h
    split at h
    ·exact (Bal h).1
    ·exact h
   exact Cmy hs hr id (by simp[e]at hi;exact hi) E t ver xs hb
theorem B4t{hq:Aaq}{x y:Asf}{l:List Nat}(h:x.frz hq=some (y,l)):Btn hq l:=by
 cases x<;>simp only[Asf.frz]at h<;>try (cases h;intro id hi;simp at hi;done)
 ·split at h
  ·split at h
   ·cases h;intro id hi;simp at hi;subst hi;exact⟨_,_,_,_,_,by assumption⟩
   ·cases h
  ·cases h
 ·split at h
  ·split at h
   ·cases h;intro id hi;simp at hi;subst hi;exact⟨_,_,_,_,_,by assumption⟩
   ·cases h
  ·cases h
theorem B4u{hq:Aaq}{x y:Acw}{l:List Nat}(h:x.frz hq=some (y,l)):Btn hq l:=by
 cases x with
 |a x=>
  simp only[Acw.frz]at h
  split at h
  ·rename_i z m hz;cases h;exact B4t hz
  ·cases h
 |func f caps=>cases h;intro id hi;simp at hi
 |iface T cs=>cases h;intro id hi;simp at hi
theorem Bam{hq:Aaq}:∀{cs ds:List Acw} {l:List Nat},Asg hq cs=some (ds,l)→Btn hq l
 |[],ds,l,h=>by cases h;intro id hi;simp at hi
 |c::cs,ds,l,h=>by
  simp only[Asg]at h
  split at h
  ·rename_i d l1 s m hd hs
   cases h
   intro id hi
   simp at hi
   rcases hi with hi|hi
   ·exact B4u hd id hi
   ·exact Bam hs id hi
  ·cases h
theorem Ajm{x:Nat}:∀{l:List Nat},Arg x l=true ↔ x∈l
 |[]=>by simp[Arg]
 |y::r=>by
  simp only[Arg,List.mem_cons]
  cases e:Nat.beq x y with
  |true=>simp[Ab4 e]
  |false=>
   have:x≠y:=fun h=>by subst h;rw[Bk9]at e;cases e
   simp[Ajm (l:=r),this]
theorem Cux{g:List Bool}{F:Fz}{ρ:Rho}{hp hq:Aaq}{W:World}(hh:Adn F ρ hp W)(hs:∀id b,hq id=some b→hp id=some b){fr:List Nat}(hr:Btn hq fr)(hg:Ak4 g hp (Ah6 hq fr)=true):∃F',Cmx g F ρ hp W F' (Ab3 hp (Ah6 hq fr)) fr :=
 Bm2 g hh hr (fun _ _ _ _ fz _ hb _=>⟨fz,hs _ _ hb,fun h=>h⟩) (Cmy hs hg)
theorem Am9.frozen{g:List Bool}{F F1:Fz}{ρ:Rho}{hp hp1 hp2:Aaq}{W W2:World}{fr:List Nat}{v:AV}{r:Value}(h:Cmx g F ρ hp W F1 hp1 fr)(k:Am9 g F1 ρ hp1 W hp2 v r W2):Am9 g F ρ hp W hp2 v r W2:=by
 obtain⟨F2,ρ2,a,b,c,d⟩:=k
 exact⟨F2,ρ2,a,fun x y hx=>b x y (RV.mono h.ext.fmono h.keep hx),c,h.ext.trans d⟩
theorem Daf{tt:TT}(htt:Aod P tt){g:List Bool}{hq:Aaq}{T:TypeId}{x v:AV}{R:Type}{K:KD R}{res:R}(h:C0d tt hq T x v K=some res) :
  ∃l,K l (.at .undef)=some res∧∀F ρ hp W rx rv,Adn F ρ hp W→(∀id b,hq id=some b→hp id=some b)→Ak4 g hp l=true→RV F ρ hp x rx→RV F ρ hp v rv→
   ∃W',(Instr.storeAt T rx rv).run P W = .ok () W'∧Am9 g F ρ hp W (Ab3 hp l) (.at .undef) undef W':=by
 unfold C0d at h
 split at h
 case h_2=>cases h
 rename_i i new hi hnew
 split at h
 ·cases h
 rename_i hlen
 have hlen:=Ab4 hlen
 split at h
 case h_2=>cases h
 rename_i id ver idx fld
 split at h
 ·rename_i T' cs hb
  split at h
  case h_2=>cases h
  rename_i hle
  have hle:=Nat.le_of_ble_eq_true hle
  refine⟨_,h,fun F ρ hp W rx rv hh hs hg hx hv=>?_⟩
  obtain⟨b,hb2,hvl,ad,rfl,hc⟩:=hx
  have hb':=hs _ _ hb
  rw[hb']at hb2;cases hb2
  simp only[Aa1.ver,Nat.le_zero]at hvl
  subst hvl
  obtain⟨rfl,bb,hbs,rfl⟩:=hc rfl
  obtain⟨bb',rs,fr,h1,h2,h3,h4⟩:=hh.blocks id _ hb'
  rw[h1]at hbs;cases hbs
  obtain⟨hn1,hn2⟩:=Bss hnew hv
  have hsz:rv.cells.size=i.size:=by have:=hn1.length;simp at this;omega
  have hrl:rs.size=cs.length:=by simpa using h4.length.symm
  obtain⟨W',hrun,hset⟩:=B8h htt hi h2 h3 hsz (o:=fld) (by omega) hn2
  refine⟨W',by simpa [Instr.storeAt,Instr.sureAddr]using hrun,?_⟩
  have hk:Avp (ρ id) (.cells T' cs) (ρ id) (.cells T' (Avo cs fld new)):=⟨Nat.le_refl _,fun h=>(by simp[Aa1.isMap]at h),fun _=>rfl⟩
  have hpt:=Bdf.inplace (g:=g) (F:=F) (b:=.cells T' (Avo cs fld new)) hb' rfl rfl h1 hset hk (fun _=>⟨rfl,(Ceo hle).symm,rfl⟩)
  refine hpt.good hh ?_ trivial
  have hkeep:=hpt.keep
  rw[Awe]at hkeep ⊢
  refine⟨bb,_,fr,h1,hset.at_,?_,?_⟩
  ·have:(rs.toList.take fld++rv.cells.toList++rs.toList.drop (fld+i.size)).toArray.size=rs.size:=by simp;omega
   rw[this];exact h3
  ·have:=Bo8 (R:=Acp F ρ (Am8 hp id (.cells T' (Avo cs fld new)))) (o:=fld) (h4.mono fun _ _=>Acp.mono (fun _ _ h=>h) hkeep) (hn1.mono fun _ _=>Acp.mono (fun _ _ h=>h) hkeep)
   have e:rv.cells.toList.length=i.size:=by simpa using hsz
   rw[e]at this
   simpa using this
 ·rename_i E t ver' xs hb
  split at h
  case h_2=>cases h
  rename_i new' fr0 hv1 hfr
  have hv1:=Ab4 hv1;subst hv1
  split at h
  case h_2=>cases h
  rename_i hnm hle
  have hle:=Nat.le_of_ble_eq_true hle
  split at h
  case h_2=>cases h
  rename_i y hy
  refine⟨_,h,fun F ρ hp W rx rv hh hs hg hx hv=>?_⟩
  obtain⟨hg1,hg2⟩:=Bo9 hg
  rw[A7y]
  obtain⟨F1,hfz⟩:=Cux hh hs (Bam hfr) hg1
  obtain⟨b,hb2,hvl,ad,rfl,hc⟩:=hx
  have hb':=hs _ _ hb
  rw[hb']at hb2;cases hb2
  obtain⟨hidx,bb,hbs,rfl⟩:=hc rfl
  have hnot:id∉fr0:=fun hm=>by rw[Ajm.2 hm]at hnm;cases hnm
  have hb1:Ab3 hp (Ah6 hq fr0) id=some (.row E t ver false xs):=by rw[hfz.same id hnot];exact hb'
  rcases hh.blocks id _ hb' with ⟨i1,_⟩|⟨bb',rs,fr,h1,h2,h3,h4,h5,h6,h7⟩
  ·rw[i1]at hbs;cases hbs
  rw[h1]at hbs;cases hbs
  obtain⟨hn1,hn2⟩:=Bss hnew hv
  have hsz:rv.cells.size=i.size:=by have:=hn1.length;simp at this;omega
  have hnl:new'.length=new.length:=by
   have:∀{cs ds:List Acw} {l:List Nat},Asg hq cs=some (ds,l)→ds.length=cs.length:=by
    intro cs
    induction cs with
    |nil=>intro ds l h;cases h;rfl
    |cons c cs ih=>
     intro ds l h
     simp only[Asg]at h
     split at h
     ·rename_i hd hs';cases h;simp[ih hs']
     ·cases h
   exact this hfr
  have hbound:idx*t.size+t.size≤rs.size:=by
   rw[h4,←Nat.succ_mul];exact Nat.mul_le_mul_right _ (by omega)
  obtain⟨W',hrun,hset⟩:=B8h htt hi h2 h3 hsz (o:=idx*t.size+fld) (by omega) hn2
  refine⟨W',by simpa [Instr.storeAt,Instr.sureAddr]using hrun,Am9.frozen hfz ?_⟩
  have hk:Avp (ρ id) (.row E t ver false xs) (ρ id) (.row E t ver false (xs.set idx y)):=⟨Nat.le_refl _,fun h=>(by simp[Aa1.isMap]at h),fun _=>⟨rfl,by simp,rfl⟩⟩
  have hpt:=Bdf.inplace (g:=g) (F:=F1) (b:=.row E t ver false (xs.set idx y)) hb1 rfl rfl h1 hset hk (fun _=>⟨rfl,rfl,rfl,fun _=>⟨by simp,rfl⟩⟩)
  refine hpt.good hfz.ok ?_ trivial
  rw[Awe]
  refine .inr ⟨bb,_,fr,h1,hset.at_,?_,?_,by simpa using h5,?_,fun h=>by cases h⟩
  ·have:(rs.toList.take (idx*t.size+fld)++rv.cells.toList++rs.toList.drop (idx*t.size+fld+i.size)).toArray.size=rs.size:=by simp;omega
   rw[this];exact h3
  ·rw[←h4];simp;omega
  ·-- the element's cells,one part of them replaced
   have hnewv:=Bm1 hh hs hfr hn1 F1 hfz.ext.fmono hfz.snap
   have hel:=(h6 idx hidx).mono hfz.ext.fmono
   have hcs:=Bak (ρ:=ρ) (hp:=hp) hel
   have hrep:=Bo8 (o:=fld) hcs hnewv
   have hyv:=Btb hy hrep
   have hlen2:rv.cells.toList.length=i.size:=by simpa using hsz
   have hl6:xs.length*t.size≤rs.toList.length:=by simp;rw[h4];exact Nat.mul_le_mul_right _ h5
   have:=Dgw (rs:=rs.toList) hl6 (fun j hj=>(h6 j hj).mono hfz.ext.fmono) hidx hyv
   have e:rs.toList.take (idx*t.size)++((Ahc rs (idx*t.size) t.size).take fld++rv.cells.toList++(Ahc rs (idx*t.size) t.size).drop (fld+rv.cells.toList.length))++rs.toList.drop (idx*t.size+t.size)
     = rs.toList.take (idx*t.size+fld)++rv.cells.toList++rs.toList.drop (idx*t.size+fld+i.size):=by
    rw[hlen2]
    unfold Ahc
    rw[List.take_take,Nat.min_eq_left (by omega),List.drop_take,List.drop_drop,List.take_add]
    simp only[List.append_assoc]
    congr 2
    congr 1
    have hlt:fld+i.size≤t.size:=by omega
    rw[show rs.toList.drop (idx*t.size+fld+i.size)=rs.toList.drop (idx*t.size+(fld+i.size)) by congr 1;omega]
    have:=List.take_append_drop (t.size-(fld+i.size)) (rs.toList.drop (idx*t.size+(fld+i.size)))
    rw[List.drop_drop]at this
    rw[show idx*t.size+t.size=idx*t.size+(fld+i.size)+(t.size-(fld+i.size)) by omega]
    exact this
   rw[e]at this
   simpa [Ahc]using this
 ·cases h
end
end
end Go.AX

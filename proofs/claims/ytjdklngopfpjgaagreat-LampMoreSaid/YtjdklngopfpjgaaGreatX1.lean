/- A reading of the model's code over typed data,proved sound: values,states,operations. -/
import GoSem.Dispatch
import Derived.KernelRfl
import Derived.Control
import Derived.Calls
import Derived.Laws.Sem
import Derived.Lib.ItoaNum
import Derived.Laws.World
namespace Go.AX
noncomputable section
inductive Ty where
 |bool|int (k:IntKind)|str|list (t:Ty)|pair (a b:Ty)
 deriving DecidableEq
@[reducible] def Ty.den:Ty→Type
 | .bool=>Bool
 | .int _=>Int
 | .str=>List UInt8
 | .list t=>List t.den
 | .pair a b=>a.den×b.den
def Ty.size:Ty→Nat
 | .pair a b=>a.size+b.size
 | _=>1
def Ty.dflt:(t:Ty)→t.den
 | .bool=>false
 | .int _=>(0:Int)
 | .str=>([]:List UInt8)
 | .list t=>([]:List t.den)
 | .pair a b=>(a.dflt,b.dflt)
def Ty.flat:Ty→Bool
 | .list _=>false
 | .pair a b=>a.flat&&b.flat
 | _=>true
def Ty.beq:(t:Ty)→t.den→t.den→Bool
 | .bool,a,b=>(a:Bool)==b
 | .int _,a,b=>(a:Int)==b
 | .str,a,b=>(a:List UInt8)==b
 | .list _,_,_=>false
 | .pair s t,a,b=>s.beq a.1 b.1&&t.beq a.2 b.2
inductive Apg where
 |undef
 |val (t:Ty) (v:t.den)
 |nilsl|nilptr|nilmap|nilfn|nilif
 |ecap
 |nvl (t:Ty) (xs:List t.den)
 |slf (id ver:Nat)
 |sl (id ver off len:Nat)
 |ptr (id ver idx fld:Nat)
 |fptr (t:Ty) (xs:List t.den) (idx fld:Nat)
 |mp (id:Nat)
 |vs (id n:Nat)
 |pr (id k fld:Nat)             -- a place in an object of a pool
 |po (id:Nat) (o:Option Nat)  -- an object of a pool,or nil
inductive Aby where
 |a (x:Apg)
 |func (f:FuncId) (caps:List Apg)
 |meth (f:FuncId) (rs:List Apg)   -- a method with its receiver
 |iface (T:TypeId) (cs:List Apg)
inductive V1 where
 |one (c:Aby)
 |agg (cs:List Aby)
inductive AV where
 |v (x:V1)
 |tup (xs:List V1)
 |z (n:Nat) (v:Value)   -- an array of one value,n times
inductive Aau where
 |cells (T:TypeId) (cs:List Aby)
 |row (E:TypeId) (t:Ty) (ver:Nat) (fz:Bool) (xs:List t.den)
 |amap (T:TypeId) (kt et:Ty) (m:List (kt.den×et.den))
 |fmap (T:TypeId) (k:IntKind) (m:List (Int×Aby))
 |pool (T:TypeId) (t:Ty) (xs:List (t.den×Option Nat))   -- objects,each of its own;the last field of each is one of them,or nil
 |pmap (T:TypeId) (k:IntKind) (pid:Nat) (m:List (Int×Nat))   -- a map to a pool's objects
abbrev Aam:=Nat→Option Aau
abbrev Env:=Nat→AV
structure ASt where
 env:Env
 hp:Aam
@[reducible] def AV.at(x:Apg):AV:=.v (.one (.a x))
@[reducible] def vI(k:IntKind)(n:Int):AV:=.at (.val (.int k) n)
@[reducible] def vi(n:Int):AV:=.at (.val (.int .i64) n)
@[reducible] def vb(b:Bool):AV:=.at (.val .bool b)
def ASt.set(st:ASt)(d:Option Tmp)(v:AV):ASt :=
 match d with
 |some d=>{st with env:=fun s=>match Nat.beq s d with|true=>v|false=>st.env s}
 |none=>st
def Aht(hp:Aam)(id:Nat)(b:Aau):Aam:=fun s=>match Nat.beq s id with|true=>some b|false=>hp s
def Aa3(hp:Aam):List (Nat×Aau)→Aam
 |[]=>hp
 |(id,b)::r=>Aa3 (Aht hp id b) r
def ASt.upd(st:ASt)(d:Option Tmp)(l:List (Nat×Aau))(v:AV):ASt :=
 ASt.set ⟨st.env,Aa3 st.hp l⟩ d v
def Apg.get(t:Ty):Apg→Option t.den
 | .val t' v=>if h:t'=t then some (h▸v) else none
 | .nilsl=>match t with
  | .list _=>some ([]:List _)
  | _=>none
 | .ecap=>match t with
  | .list _=>some ([]:List _)
  | _=>none
 | .nvl t' xs=>if h:Ty.list t'=t then some (h▸xs) else none
 | _=>none
def Aby.get(t:Ty):Aby→Option t.den
 | .a x=>x.get t
 | _=>none
def AV.get(t:Ty):AV→Option t.den
 | .v (.one c)=>c.get t
 | _=>none
def cellsOf:(t:Ty)→t.den→List Aby
 | .pair a b,v=>cellsOf a v.1++cellsOf b v.2
 | .bool,v=>[.a (.val .bool v)]
 | .int k,v=>[.a (.val (.int k) v)]
 | .str,v=>[.a (.val .str v)]
 | .list t,v=>[.a (.val (.list t) v)]
def Bar:(t:Ty)→List Aby→Option t.den
 | .pair a b,l=>match Bar a (l.take a.size),Bar b (l.drop a.size) with
  |some x,some y=>some (x,y)
  | _,_=>none
 | .bool,l=>match l with|[c]=>c.get .bool | _=>none
 | .int k,l=>match l with|[c]=>c.get (.int k) | _=>none
 | .str,l=>match l with|[c]=>c.get .str | _=>none
 | .list t,l=>match l with|[c]=>c.get (.list t) | _=>none
def Bim(t:Ty):Nat→List Aby→Option (List t.den)
 |0,l=>match l with|[]=>some [] | _=>none
 |n+1,l=>match Bar t (l.take t.size),Bim t n (l.drop t.size) with
  |some x,some r=>some (x::r)
  | _,_=>none
def A0a:Value→Aby
 | .bool b=>.a (.val .bool b)
 | .int k n=>.a (.val (.int k) n)
 | .string s=>.a (.val .str s.data.toList)
 | .pointer none=>.a .nilptr
 | .slice none 0 0=>.a .nilsl
 | .map none=>.a .nilmap
 | .nilFunc=>.a .nilfn
 | .nilIface=>.a .nilif
 | _=>.a .undef
def Czr:Value→AV
 | .agg cs=>.v (.agg (cs.toList.map A0a))
 | .tuple _=>.at .undef
 |v=>.v (.one (A0a v))
def evs(env:Env):Operand→AV
 | .tmp t=>env t
 | .const v=>Czr v
 | .global _=>.at .undef
 | .func f=>.v (.one (.func f []))
def Aqd(cs:List Aby)(off:Nat)(new:List Aby):List Aby:=cs.take off++new++cs.drop (off+new.length)
inductive TD where
 |bool|int (k:IntKind)|str|ptr (e:TypeId)|slice (e:TypeId)|arr (n:Nat) (e:TypeId)|map (k e:TypeId)
 |struct (fs:List (Nat×Nat×TypeId))|func|iface|other
structure TI where
 d:TD
 size:Nat
 bytes:Nat
 zero:Option (List Aby)
 eqok:Bool
 big:Option Value   -- an array of many cells: the cell
abbrev TT:=List (TypeId×TI)
def TT.get:TT→TypeId→Option TI
 |[],_=>none
 |(k,i)::r,T=>match Nat.beq T k with|true=>some i|false=>TT.get r T
def TD.agg:TD→Bool
 | .struct _ | .arr _ _=>true
 | _=>false
def C6p(f:TypeId→Option Ty):List (Nat×Nat×TypeId)→Option Ty
 |[]=>none
 |[x]=>f x.2.2
 |x::r=>match f x.2.2,C6p f r with
  |some a,some b=>some (.pair a b)
  | _,_=>none
def Bpl(tt:TT):Nat→TypeId→Option Ty
 |0,_=>none
 |n+1,T=>match tt.get T with
  |some i=>match i.d with
   | .bool=>some .bool
   | .int k=>some (.int k)
   | .str=>some .str
   | .slice e=>match Bpl tt n e with|some t=>some (.list t)|none=>none
   | .struct fs=>C6p (Bpl tt n) fs
   | _=>none
  |none=>none
def Cfc(agg:Bool)(cs:List Aby):Option AV :=
 match agg with
 |true=>some (.v (.agg cs))
 |false=>match cs with
  |[c]=>some (.v (.one c))
  | _=>none
def Aa5(d j:Nat):Nat:=64+32*d+j
def Apg.refs:Apg→List Nat
 | .slf id _ | .sl id _ _ _ | .ptr id _ _ _ | .mp id | .vs id _ | .pr id _ _ | .po id _=>[id]
 | _=>[]
def Aby.refs:Aby→List Nat
 | .a x=>x.refs
 | .func _ caps=>caps.flatMap Apg.refs
 | .meth _ rs=>rs.flatMap Apg.refs
 | .iface _ cs=>cs.flatMap Apg.refs
def V1.refs:V1→List Nat
 | .one c=>c.refs
 | .agg cs=>cs.flatMap Aby.refs
def AV.refs:AV→List Nat
 | .v x=>x.refs
 | .tup xs=>xs.flatMap V1.refs
 | .z _ _=>[]
def Aau.refs:Aau→List Nat
 | .cells _ cs=>cs.flatMap Aby.refs
 | .fmap _ _ m=>m.flatMap fun p=>p.2.refs
 | .pmap _ _ pid _=>[pid]
 | _=>[]
def Aos(x:Nat):List Nat→Bool
 |[]=>false
 |y::r=>match Nat.beq x y with|true=>true|false=>Aos x r
def A2a(hp:Aam):Nat→List Nat→List Nat→List Nat
 |0,_,acc=>acc
 | _+1,[],acc=>acc
 |n+1,id::r,acc=>match Aos id acc with
  |true=>A2a hp n r acc
  |false=>match hp id with
   |some b=>A2a hp n (b.refs++r) (acc++[id])
   |none=>A2a hp n r acc
abbrev Ren:=Nat→Option (Nat×(Nat→Option Nat))   -- the new id,and the new version for an old one
def Apg.ren(σ:Ren):Apg→Apg
 | .slf id ver=>match σ id with
  |some (id',vr)=>match vr ver with|some v=>.slf id' v|none=>.undef
  |none=>.undef
 | .sl id ver off len=>match σ id with
  |some (id',vr)=>match vr ver with|some v=>.sl id' v off len|none=>.undef
  |none=>.undef
 | .ptr id ver idx fld=>match σ id with
  |some (id',vr)=>match vr ver with|some v=>.ptr id' v idx fld|none=>.undef
  |none=>.undef
 | .mp id=>match σ id with
  |some (id',_)=>.mp id'
  |none=>.undef
 | .vs id n=>match σ id with
  |some (id',vr)=>match vr 0 with|some _=>.vs id' n|none=>.undef
  |none=>.undef
 | .pr id k fld=>match σ id with
  |some (id',_)=>.pr id' k fld
  |none=>.undef
 | .po id o=>match σ id with
  |some (id',_)=>.po id' o
  |none=>.undef
 |x=>x
def Aby.ren(σ:Ren):Aby→Aby
 | .a x=>.a (x.ren σ)
 | .func f caps=>.func f (caps.map (Apg.ren σ))
 | .meth f rs=>.meth f (rs.map (Apg.ren σ))
 | .iface T cs=>.iface T (cs.map (Apg.ren σ))
def V1.ren(σ:Ren):V1→V1
 | .one c=>.one (c.ren σ)
 | .agg cs=>.agg (cs.map (Aby.ren σ))
def AV.ren(σ:Ren):AV→AV
 | .v x=>.v (x.ren σ)
 | .tup xs=>.tup (xs.map (V1.ren σ))
 | .z n w=>.z n w
def Aau.ren(σ:Ren):Aau→Aau
 | .cells T cs=>.cells T (cs.map (Aby.ren σ))
 | .fmap T k m=>.fmap T k (m.map fun p=>(p.1,p.2.ren σ))
 | .pmap T k pid m=>.pmap T k (match σ pid with|some (p,_)=>p|none=>pid) m
 |b=>b
def Aau.renOk(σ:Ren):Aau→Bool
 | .pmap _ _ pid _=>(σ pid).isSome
 | _=>true
def Bz4{α:Type}(n:Nat)(z:α):List α:=List.replicate n z
def pfl(t:Ty)(xs:List (t.den×Option Nat))(k:Nat):t.den:=(xs.getD k (t.dflt,none)).1
def pnx(t:Ty)(xs:List (t.den×Option Nat))(k:Nat):Option Nat:=(xs.getD k (t.dflt,none)).2
end
end Go.AX
namespace Go.AX
noncomputable section
structure Aad where
 pure:List Bool
 grow:List Bool
 mat:Bool
 run:(R:Type)→List AV→List Aau→(AV→List Aau→List Aau→Option R)→Option R
def Bpb:List AV→Option (List Apg)
 |[]=>some []
 | .v (.one (.a x))::l=>match Bpb l with
  |some r=>some (x::r)
  |none=>none
 | _=>none
section ops
variable {R:Type}
abbrev KD(R:Type):=List (Nat×Aau)→AV→Option R
def Aqs:List Bool→Bool
 |[false]=>true
 | _=>false
def LIM:Nat:=70368744177664
def Bk3(k:IntKind)(x y:Int):Int:=k.wrap (x*2^(min y.toNat k.bits))
def Bz5(k:IntKind)(x y:Int):Int:=x.fdiv (2^(min y.toNat k.bits))
def A0j(k:IntKind)(x y:Int):Int:=k.wrap (BitVec.ofInt k.bits x &&&BitVec.ofInt k.bits y).toNat
def orI(k:IntKind)(x y:Int):Int:=k.wrap (BitVec.ofInt k.bits x ||| BitVec.ofInt k.bits y).toNat
def Bz6(k:IntKind)(x y:Int):Int:=k.wrap (BitVec.ofInt k.bits x ^^^ BitVec.ofInt k.bits y).toNat
def Ca1(k:IntKind)(x y:Int):Int:=k.wrap (BitVec.ofInt k.bits x &&&~~~BitVec.ofInt k.bits y).toNat
def B51(op:BinOp)(k:IntKind)(x y:Int)(K:AV→Option R):Option R :=
 match op with
 | .add=>K (vI k (k.wrap (x+y)))
 | .sub=>K (vI k (k.wrap (x-y)))
 | .mul=>K (vI k (k.wrap (x*y)))
 | .quo=>if y=0 then none else K (vI k (k.wrap (x.tdiv y)))
 | .rem=>if y=0 then none else K (vI k (x.tmod y))
 | .and=>K (vI k (A0j k x y))
 | .or=>K (vI k (orI k x y))
 | .xor=>K (vI k (Bz6 k x y))
 | .andNot=>K (vI k (Ca1 k x y))
 | .eql=>K (vb (x==y))
 | .neq=>K (vb (x != y))
 | .lss=>K (vb (decide (x<y)))
 | .leq=>K (vb (decide (x≤y)))
 | .gtr=>K (vb (decide (x > y)))
 | .geq=>K (vb (decide (x≥y)))
 | .shl=>if y<0 then none else K (vI k (Bk3 k x y))
 | .shr=>if y<0 then none else K (vI k (Bz5 k x y))
def Ctc(op:BinOp)(x y:List UInt8)(K:AV→Option R):Option R :=
 match op with
 | .add=>if x.length+y.length≤LIM then K (.at (.val .str ((x++y:List UInt8)))) else none
 | .eql=>K (vb (x==y))
 | .neq=>K (vb (!(x==y)))
 | .lss=>K (vb (Op.bytesLess x y))
 | .leq=>K (vb (Op.bytesLess x y||x==y))
 | .gtr=>K (vb (!(Op.bytesLess x y||x==y)))
 | .geq=>K (vb (!(Op.bytesLess x y)))
 | _=>none
def Cle(tt:TT)(T:TypeId)(t:Ty):Bool:=match tt.get T with
 |some i=>match i.d,t with
  | .bool,.bool=>true
  | .int _,.int _=>true
  | .str,.str=>true
  | _,_=>false
 |none=>false
def Bpc(tt:TT):List (Nat×Nat×TypeId)→Nat→List Aby→List Aby→Option Bool
 |[],_,[],[]=>some true
 |f::fs,o,.a (.val t v)::r,.a (.val t' v')::r'=>
  if h:t'=t then
   match Cle tt f.2.2 t&&Nat.beq f.1 o,Bpc tt fs (o+1) r r' with
   |true,some b=>some (t.beq v (h▸v')&&b)
   | _,_=>none
  else none
 | _,_,_,_=>none
def Ch1:AV→Option (Nat×Bool)
 | .v (.one (.a .nilsl))=>some (0,true)
 | .v (.one (.a (.nvl _ _)))=>some (0,false)
 | .v (.one (.a .nilptr))=>some (1,true)
 | .v (.one (.a (.ptr _ _ _ _)))=>some (1,false)
 | .v (.one (.a (.pr _ _ _)))=>some (1,false)
 | .v (.one (.a (.po _ o)))=>some (1,!o.isSome)
 | .v (.one (.a .nilmap))=>some (2,true)
 | .v (.one (.a (.mp _)))=>some (2,false)
 | .v (.one (.a .nilfn))=>some (3,true)
 | .v (.one (.func _ _))=>some (3,false)
 | .v (.one (.meth _ _))=>some (3,false)
 | _=>none
def Ctd:Operand→Option Nat
 | .const (.slice none 0 0)=>some 0
 | .const (.pointer none)=>some 1
 | .const (.map none)=>some 2
 | .const .nilFunc=>some 3
 | _=>none
def Ch2:TD→Option Nat
 | .slice _=>some 0
 | .ptr _=>some 1
 | .map _ _=>some 2
 | .func=>some 3
 | _=>none
def C6q(tt:TT)(op:BinOp)(T:TypeId)(x y:Operand)(a b:AV)(K:AV→Option R):Option R :=
 match a,b with
 | .v (.one (.a (.val (.int k) m))),.v (.one (.a (.val (.int k') n)))=>
  match op with
  | .shl | .shr=>B51 op k m n K
  | _=>if k=k' then B51 op k m n K else none
 | .v (.one (.a (.val .str m))),.v (.one (.a (.val .str n)))=>Ctc op m n K
 | .v (.one (.a (.val .bool m))),.v (.one (.a (.val .bool n)))=>
  match tt.get T with
  |some i=>match i.d,op with
   | .bool,.eql=>K (vb ((m:Bool)==n))
   | .bool,.neq=>K (vb (!((m:Bool)==n)))
   | _,_=>none
  |none=>none
 | .v (.agg cs),.v (.agg ds)=>match tt.get T with
  |some i=>match i.eqok,(match i.d with | .struct fs=>Bpc tt fs 0 cs ds | _=>none) with
   |true,some e=>match op with
    | .eql=>K (vb e)
    | .neq=>K (vb (!e))
    | _=>none
   | _,_=>none
  |none=>none
 |a,_=>match tt.get T with
  |some i=>match Ch2 i.d,Ctd y,Ch1 a with
   |some p,some q,some (r,e)=>match Nat.beq p q&&Nat.beq p r with
    |true=>match op with
     | .eql=>K (vb e)
     | .neq=>K (vb (!e))
     | _=>none
    |false=>none
   | _,_,_=>none
  |none=>none
def Csd(tt:TT)(hp:Aam)(T:TypeId)(x:AV)(K:AV→Option R):Option R :=
 match tt.get T with
 |none=>none
 |some i=>
  let out (cs:List Aby) (fld:Nat):Option R:=match Nat.ble (fld+i.size) cs.length with
   |true=>match Cfc i.d.agg ((cs.drop fld).take i.size) with
    |some v=>K v
    |none=>none
   |false=>none
  match x with
  | .v (.one (.a (.ptr id ver idx fld)))=>match hp id with
   |some (.cells _ cs)=>out cs fld
   |some (.row _ t ver' _ xs)=>match Nat.beq ver ver' with
    |true=>out (cellsOf t (xs.getD idx t.dflt)) fld
    |false=>none
   | _=>none
  | .v (.one (.a (.fptr t xs idx fld)))=>out (cellsOf t (xs.getD idx t.dflt)) fld
  | .v (.one (.a (.pr id k fld)))=>match hp id with
   |some (.pool _ t xs)=>match Nat.beq fld t.size&&(Nat.beq i.size 1 && !i.d.agg) with
    |true=>K (.at (.po id (xs.getD k (t.dflt,none)).2))
    |false=>out (cellsOf t (xs.getD k (t.dflt,none)).1) fld
   | _=>none
  | _=>none
def Apg.frz(hp:Aam):Apg→Option (Apg×List Nat)
 | .slf id ver=>match hp id with
  |some (.row _ t ver' _ xs)=>match Nat.beq ver ver' with
   |true=>some (.val (.list t) xs,[id])
   |false=>none
  | _=>none
 | .sl id ver off len=>match hp id with
  |some (.row _ t ver' _ xs)=>match Nat.beq ver ver' with
   |true=>some (.val (.list t) ((xs.drop off).take len),[id])
   |false=>none
  | _=>none
 |x=>some (x,[])
def Aby.frz(hp:Aam):Aby→Option (Aby×List Nat)
 | .a x=>match x.frz hp with
  |some (y,l)=>some (.a y,l)
  |none=>none
 |c=>some (c,[])
def Apy(hp:Aam):List Aby→Option (List Aby×List Nat)
 |[]=>some ([],[])
 |c::r=>match c.frz hp,Apy hp r with
  |some (d,l),some (s,m)=>some (d::s,l++m)
  | _,_=>none
def AV.frz(hp:Aam):AV→Option (AV×List Nat)
 | .v (.one c)=>match c.frz hp with
  |some (d,l)=>some (.v (.one d),l)
  |none=>none
 | .v (.agg cs)=>match Apy hp cs with
  |some (ds,l)=>some (.v (.agg ds),l)
  |none=>none
 | .tup _=>none
 | .z _ _=>none
def Agv(hp:Aam):List Nat→List (Nat×Aau)
 |[]=>[]
 |id::r=>match hp id with
  |some (.row E t ver false xs)=>(id,.row E t ver true xs)::Agv hp r
  | _=>Agv hp r
def Aby.ok:Aby→Bool
 | .a .undef=>false
 | _=>true
def Bg0:AV→Option (List Aby)
 | .v (.one c)=>match c.ok with|true=>some [c]|false=>none
 | .v (.agg cs)=>match cs.all Aby.ok with|true=>some cs|false=>none
 | .tup _=>none
 | .z _ _=>none
def Cte(tt:TT)(hp:Aam)(T:TypeId)(x v:AV)(K:KD R):Option R :=
 match tt.get T,Bg0 v with
 |some i,some new=>match Nat.beq new.length i.size with
  |false=>none
  |true=>match x with
   | .v (.one (.a (.ptr id ver idx fld)))=>match hp id with
    |some (.cells T' cs)=>match Nat.ble (fld+new.length) cs.length with
     |true=>K [(id,.cells T' (Aqd cs fld new))] (.at .undef)
     |false=>none
    |some (.row E t ver' false xs)=>match Nat.beq ver ver',Apy hp new with
     |true,some (new',fr)=>match Aos id fr,Nat.ble (fld+new.length) t.size with
      |false,true=>match Bar t (Aqd (cellsOf t (xs.getD idx t.dflt)) fld new') with
       |some y=>K (Agv hp fr++[(id,.row E t ver' false (xs.set idx y))]) (.at .undef)
       |none=>none
      | _,_=>none
     | _,_=>none
    | _=>none
   | .v (.one (.a (.pr id k fld)))=>match hp id with
    |some (.pool E t xs)=>match new with
     |[c]=>match Nat.beq fld t.size with
      |true=>match c with
       | .a .nilptr=>K [(id,.pool E t (xs.set k ((xs.getD k (t.dflt,none)).1,none)))] (.at .undef)
       | .a (.po id' o)=>match Nat.beq id id' with
        |true=>K [(id,.pool E t (xs.set k ((xs.getD k (t.dflt,none)).1,o)))] (.at .undef)
        |false=>none
       | .a (.pr id' k' 0)=>match Nat.beq id id' with
        |true=>K [(id,.pool E t (xs.set k ((xs.getD k (t.dflt,none)).1,some k')))] (.at .undef)
        |false=>none
       | _=>none
      |false=>match Nat.ble (fld+1) t.size,t.flat,Bar t (Aqd (cellsOf t (xs.getD k (t.dflt,none)).1) fld [c]) with
       |true,true,some y=>K [(id,.pool E t (xs.set k (y,(xs.getD k (t.dflt,none)).2)))] (.at .undef)
       | _,_,_=>none
     | _=>none
    | _=>none
   | _=>none
 | _,_=>none
def C6r(tt:TT)(hp:Aam)(T:TypeId)(x:AV)(K:AV→Option R):Option R :=
 match tt.get T with
 |none=>none
 |some i=>match i.d with
  | .slice _=>match x with
   | .v (.one (.a .nilsl))=>K (vi 0)
   | .v (.one (.a .ecap))=>K (vi 0)
   | .v (.one (.a (.val (.list _) xs)))=>K (vi (List.length xs))
   | .v (.one (.a (.nvl _ xs)))=>K (vi (List.length xs))
   | .v (.one (.a (.slf id ver)))=>match hp id with
    |some (.row _ _ ver' _ xs)=>match Nat.beq ver ver' with|true=>K (vi xs.length)|false=>none
    | _=>none
   | .v (.one (.a (.sl id ver _ len)))=>match hp id with
    |some (.row _ _ ver' _ _)=>match Nat.beq ver ver' with|true=>K (vi len)|false=>none
    | _=>none
   | .v (.one (.a (.vs id n)))=>match hp id with
    |some (.cells _ _)=>K (vi n)
    | _=>none
   | _=>none
  | .str=>match x with
   | .v (.one (.a (.val .str xs)))=>K (vi (List.length (α:=UInt8) xs))
   | _=>none
  | .map _ _=>match x with
   | .v (.one (.a .nilmap))=>K (vi 0)
   | .v (.one (.a (.mp id)))=>match hp id with
    |some (.amap _ _ _ m)=>K (vi m.length)
    | _=>none
   | _=>none
  | .arr n _=>K (vi n)
  | _=>none
def Bcq:AV→Option Int
 | .v (.one (.a (.val (.int _) n)))=>some n
 | _=>none
def Ch3(i:Int)(K:Nat→Option R):Nat→Nat→Option R
 |0,_=>none
 |m+1,k=>if i=(k:Int) then K k else Ch3 i K m (k+1)
def Ctf(hp:Aam)(n:Nat):AV→Option (Nat×Nat)
 | .v (.one (.a (.ptr id 0 0 fld)))=>match hp id with
  |some (.cells _ _)=>match Nat.ble n 8 with|true=>some (id,fld)|false=>none
  | _=>none
 | _=>none
def Bz7(tt:TT)(hp:Aam)(T:TypeId)(x:AV)(i:Int)(K:KD R):Option R :=
 match tt.get T with
 |none=>none
 |some ti=>match ti.d with
  | .slice E=>match tt.get E with
   |none=>none
   |some ei=>match x with
    | .v (.one (.a (.val (.list t) xs)))=>match Nat.beq ei.size t.size with
     |true=>if 0≤i∧i<(List.length xs:Int) then K [] (.at (.fptr t xs i.toNat 0)) else none
     |false=>none
    | .v (.one (.a (.nvl t xs)))=>match Nat.beq ei.size t.size with
     |true=>if 0≤i∧i<(List.length xs:Int) then K [] (.at (.fptr t xs i.toNat 0)) else none
     |false=>none
    | .v (.one (.a (.slf id ver)))=>match hp id with
     |some (.row _ t ver' _ xs)=>match Nat.beq ver ver',Nat.beq ei.size t.size with
      |true,true=>if 0≤i∧i<(xs.length:Int) then K [] (.at (.ptr id ver i.toNat 0)) else none
      | _,_=>none
     | _=>none
    | .v (.one (.a (.sl id ver off len)))=>match hp id with
     |some (.row _ t ver' _ _)=>match Nat.beq ver ver',Nat.beq ei.size t.size with
      |true,true=>if 0≤i∧i<(len:Int) then K [] (.at (.ptr id ver (off+i.toNat) 0)) else none
      | _,_=>none
     | _=>none
    | .v (.one (.a (.vs id n)))=>match hp id with
     |some (.cells _ _)=>Ch3 i (fun k=>K [] (.at (.ptr id 0 0 (k*ei.size)))) n 0
     | _=>none
    | _=>none
  | .arr n E=>match tt.get E,Nat.ble 2 n with
   |some ei,true=>match Ctf hp n x with
    |some p=>Ch3 i (fun k=>K [] (.at (.ptr p.1 0 0 (p.2+k*ei.size)))) n 0
    |none=>match x with
    | .v (.one (.a (.ptr id ver 0 0)))=>match hp id with
     |some (.row _ t ver' _ xs)=>match Nat.beq ver ver',Nat.beq ei.size t.size with
      |true,true=>if 0≤i∧i<(n:Int) then (if i<(xs.length:Int) then K [] (.at (.ptr id ver i.toNat 0)) else none) else none
      | _,_=>none
     |some (.cells T' cs)=>match Bpl tt 10 E with
      |some t=>match Bim t n cs,Nat.beq ver 0,Nat.beq ei.size t.size with
       |some xs,true,true=>if 0≤i∧i<(n:Int) then K [(id,.row T' t 0 false xs)] (.at (.ptr id 0 i.toNat 0)) else none
       | _,_,_=>none
      |none=>none
     | _=>none
    | _=>none
   | _,_=>none
  | _=>none
def Are(o:Option AV)(d:Int):Option Int :=
 match o with
 |none=>some d
 |some v=>Bcq v
def Ctg(tt:TT)(hp:Aam)(T:TypeId)(x:AV)(lo hi mx:Option AV)(K:AV→Option R):Option R :=
 match tt.get T with
 |none=>none
 |some ti=>match mx with
  |some m=>match ti.d,lo,(match hi with|some h=>Bcq h|none=>none),Bcq m with
   | .slice E,none,some 0,some 0=>match tt.get E,x with
    |some _,.v (.one (.a (.nvl _ _)))=>K (.at .ecap)
    |some _,.v (.one (.a (.val (.list _) _)))=>K (.at .ecap)
    |some _,.v (.one (.a .nilsl))=>K (.at .ecap)
    | _,_=>none
   | _,_,_,_=>none
  |none=>match ti.d with
   | .str=>match x with
    | .v (.one (.a (.val .str s)))=>match Are lo 0,Are hi (List.length (α:=UInt8) s) with
     |some l,some h=>if 0≤h∧h≤(List.length (α:=UInt8) s:Int) then (if 0≤l∧l≤h then K (.at (.val .str (((s:List UInt8).take h.toNat).drop l.toNat))) else none) else none
     | _,_=>none
    | _=>none
   | .slice E=>match tt.get E with
    |none=>none
    |some ei=>match x with
     | .v (.one (.a (.val (.list t) xs)))=>match Are lo 0,Are hi (List.length xs),Nat.beq ei.size t.size with
      |some l,some h,true=>if 0≤h∧h≤(List.length xs:Int) then (if 0≤l∧l≤h then K (.at (.val (.list t) ((List.take h.toNat xs).drop l.toNat))) else none) else none
      | _,_,_=>none
     | .v (.one (.a (.slf id ver)))=>match hp id with
      |some (.row _ t ver' _ xs)=>match Nat.beq ver ver',lo,hi with
       |true,none,none=>K (.at (.slf id ver))
       |true,lo,hi=>match Are lo 0,Are hi (xs.length),Nat.beq ei.size t.size with
        |some l,some h,true=>if 0≤h∧h≤(xs.length:Int) then (if 0≤l∧l≤h then K (.at (.sl id ver l.toNat (h.toNat-l.toNat))) else none) else none
        | _,_,_=>none
       |false,_,_=>none
      | _=>none
     | .v (.one (.a (.sl id ver off len)))=>match hp id with
      |some (.row _ t ver' _ _)=>match Nat.beq ver ver',Are lo 0,Are hi len,Nat.beq ei.size t.size with
       |true,some l,some h,true=>if 0≤h∧h≤(len:Int) then (if 0≤l∧l≤h then K (.at (.sl id ver (off+l.toNat) (h.toNat-l.toNat))) else none) else none
       | _,_,_,_=>none
      | _=>none
     | _=>none
   | .arr n E=>match tt.get E,x with
    |some ei,.v (.one (.a (.ptr id ver 0 0)))=>match hp id with
     |some (.row _ t ver' _ xs)=>match Nat.beq ver ver',Are lo 0,Are hi n,Nat.beq ei.size t.size with
      |true,some l,some h,true=>if (xs.length:Int)=n then (if 0≤h∧h≤(n:Int) then (if 0≤l∧l≤h then K (.at (.sl id ver l.toNat (h.toNat-l.toNat))) else none) else none) else none
      | _,_,_,_=>none
     | _=>none
    | _,_=>none
   | _=>none
def Bt0(hp:Aam)(t:Ty):AV→Option (List t.den)
 | .v (.one (.a x))=>match x.frz hp with
  |some (y,_)=>match y with
   | .val .str s=>if h:t = .int .u8 then some (h▸((s:List UInt8).map fun b=>(b.toNat:Int))) else none
   |y=>y.get (.list t)
  |none=>none
 | _=>none
def Clf(tt:TT)(hp:Aam)(T:TypeId)(Tx:TypeId)(s x:AV)(dst:Nat)(K:KD R):Option R :=
 match tt.get T,tt.get Tx with
 |some ti,some xi=>match ti.d,(match xi.d with | .slice _=>true | .str=>true | _=>false) with
  | .slice E,true=>match tt.get E,Bpl tt 10 E with
   |some ei,some t=>match ei.zero,Nat.beq ei.size t.size&&Nat.blt 0 ei.bytes with
    |some zs,true=>match (match Nat.beq zs.length ei.size with|true=>Bt0 hp t x|false=>none) with
     |none=>none
     |some ys=>match s with
      | .v (.one (.a .nilsl)) | .v (.one (.a .ecap))=>match hp (Aa5 dst 0) with
       |none=>if ys.length*ei.bytes≤LIM then K [(Aa5 dst 0,.row E t 1 false ys)] (.at (.slf (Aa5 dst 0) 1)) else none
       |some _=>none
      | .v (.one (.a (.slf id ver)))=>match hp id with
       |some (.row E' t' ver' false xs)=>match Nat.beq ver ver',Nat.beq E E' with
        |true,true=>if h:t'=t then (if (xs.length+ys.length)*ei.bytes≤LIM then K [(id,.row E t (ver+1) false ((h▸xs:List t.den)++ys))] (.at (.slf id (ver+1))) else none) else none
        | _,_=>none
       | _=>none
      | .v (.one (.a (.sl id ver off len)))=>match hp id with
       |some (.row E' t' ver' false xs)=>match Nat.beq ver ver' with
        |true=>if h:t'=t then (if off+len+ys.length≤xs.length then K [(id,.row E' t ver false ((h▸xs:List t.den).take (off+len)++ys++(h▸xs:List t.den).drop (off+len+ys.length)))] (.at (.sl id ver off (len+ys.length))) else none) else none
        |false=>none
       | _=>none
      | _=>none
    | _,_=>none
   | _,_=>none
  | _,_=>none
 | _,_=>none
def C0s(tt:TT)(hp:Aam)(T:TypeId)(d x:AV)(K:KD R):Option R :=
 match tt.get T with
 |some ti=>match ti.d with
  | .slice E=>match tt.get E with
   |some ei=>
    let out (id ver off len:Nat):Option R:=match hp id with
     |some (.row E' t ver' false xs)=>match Nat.beq ver ver',Nat.beq ei.size t.size,Bt0 hp t x with
      |true,true,some ys=>K [(id,.row E' t ver false (xs.take off++ys.take (min ys.length len)++xs.drop (off+min ys.length len)))] (vi (min ys.length len:Nat))
      | _,_,_=>none
     | _=>none
    match d with
    | .v (.one (.a (.slf id ver)))=>match hp id with
     |some (.row _ _ _ _ xs)=>out id ver 0 xs.length
     | _=>none
    | .v (.one (.a (.sl id ver off len)))=>out id ver off len
    | _=>none
   |none=>none
  | _=>none
 |none=>none
def A8c{kt et:Ty}(k:kt.den):List (kt.den×et.den)→Option et.den
 |[]=>none
 |(k',v)::r=>match kt.beq k k' with|true=>some v|false=>A8c k r
def Bas{kt et:Ty}(k:kt.den)(v:et.den):List (kt.den×et.den)→List (kt.den×et.den)
 |[]=>[(k,v)]
 |(k',v')::r=>match kt.beq k k' with|true=>(k,v)::r|false=>(k',v')::Bas k v r
def Bpm{kt et:Ty}(k:kt.den):List (kt.den×et.den)→List (kt.den×et.den)
 |[]=>[]
 |(k',v')::r=>match kt.beq k k' with|true=>r|false=>(k',v')::Bpm k r
def Bz8(tt:TT)(T:TypeId):Option Ty :=
 match tt.get T with
 |some i=>match i.d with
  | .map k _=>match tt.get k with
   |some ki=>match ki.d with
    | .bool=>some .bool
    | .int k=>some (.int k)
    | .str=>some .str
    | _=>none
   |none=>none
  | _=>none
 |none=>none
def Bcr(k:Int):List (Int×Nat)→Option Nat
 |[]=>none
 |(k',v)::r=>if k=k' then some v else Bcr k r
def Bg1(k:Int)(v:Nat):List (Int×Nat)→List (Int×Nat)
 |[]=>[(k,v)]
 |(k',v')::r=>if k=k' then (k,v)::r else (k',v')::Bg1 k v r
def Bk4(k:Int):List (Int×Nat)→List (Int×Nat)
 |[]=>[]
 |(k',v')::r=>if k=k' then r else (k',v')::Bk4 k r
def Db7(tt:TT)(E:TypeId):Option Ty :=
 match tt.get E with
 |some i=>match i.d with
  | .struct fs=>match fs.getLast? with
   |some f=>match tt.get f.2.2,C6p (Bpl tt 10) fs.dropLast with
    |some fi,some t=>match fi.d with
     | .ptr E'=>match Nat.beq E E'&&(Nat.beq f.1 t.size&&Nat.beq i.size (t.size+1)) with|true=>some t|false=>none
     | _=>none
    | _,_=>none
   |none=>none
  | _=>none
 |none=>none
def Db8(tt:TT)(e:TypeId):Option (TypeId×Ty):=match tt.get e with
 |some i=>match i.d with
  | .ptr E=>match Db7 tt E with|some t=>some (E,t)|none=>none
  | _=>none
 |none=>none
def C3y(hp:Aam)(pid b:Nat)(K:List (Nat×Aau)→Nat→Option R):Option R :=
 match hp b,hp pid with
 |some (.cells E cs),some (.pool E' t xs)=>match Nat.beq E E'&&(Nat.beq cs.length (t.size+1)&&(Nat.ble 32 b && !Nat.beq b pid)),Bar t (cs.take t.size),cs[t.size]? with
  |true,some x,some (.a .nilptr)=>K [(b,.row 0 .bool 1 false []),(pid,.pool E' t (xs++[(x,none)]))] xs.length
  | _,_,_=>none
 | _,_=>none
def C0t(k:Int)(K0:Option R)(K:Aby→Option R):List (Int×Aby)→Option R
 |[]=>K0
 |(k',c)::r=>if k=k' then K c else C0t k K0 K r
def C0u(k:Int)(c:Aby)(K:List (Int×Aby)→Option R):List (Int×Aby)→List (Int×Aby)→Option R
 |pre,[]=>K (pre++[(k,c)])
 |pre,(k',c')::r=>if k=k' then K (pre++(k,c)::r) else C0u k c K (pre++[(k',c')]) r
def Clg(tt:TT)(hp:Aam)(T:TypeId)(m k v:AV)(K:KD R):Option R :=
 match m with
 | .v (.one (.a (.mp id)))=>match hp id,Bz8 tt T with
  |some (.amap T' kt et f),some kt'=>match k.get kt,v.get et,decide (kt'=kt) with
   |some k,some v,true=>K [(id,.amap T' kt et (Bas k v f))] (.at .undef)
   | _,_,_=>none
  |some (.fmap T' ki f),some kt'=>match k.get (.int ki),v,decide (kt' = .int ki) with
   |some k,.v (.one c),true=>C0u k c (fun f'=>K [(id,.fmap T' ki f')] (.at .undef)) [] f
   | _,_,_=>none
  |some (.pmap T' ki pid f),some kt'=>match k.get (.int ki),v,decide (kt' = .int ki) with
   |some k,.v (.one (.a (.ptr b 0 0 0))),true=>C3y hp pid b fun l n=>K (l++[(id,.pmap T' ki pid (Bg1 k n f))]) (.at .undef)
   | _,_,_=>none
  | _,_=>none
 | _=>none
def Clh(tt:TT)(hp:Aam)(T:TypeId)(m k:AV)(K:KD R):Option R :=
 match m with
 | .v (.one (.a (.mp id)))=>match hp id,Bz8 tt T with
  |some (.amap T' kt et f),some kt'=>match k.get kt,decide (kt'=kt) with
   |some k,true=>K [(id,.amap T' kt et (Bpm k f))] (.tup [])
   | _,_=>none
  |some (.pmap T' ki pid f),some kt'=>match k.get (.int ki),decide (kt' = .int ki) with
   |some k,true=>K [(id,.pmap T' ki pid (Bk4 k f))] (.tup [])
   | _,_=>none
  | _,_=>none
 | _=>none
def B52(tt:TT)(t:Ty)(E:TypeId):Option t.den :=
 match tt.get E with
 |some i=>match i.zero with
  |some zs=>Bar t zs
  |none=>none
 |none=>none
def Cli(tt:TT)(hp:Aam)(T:TypeId)(m k:AV)(ok:Bool)(K:AV→Option R):Option R :=
 match tt.get T with
 |some ti=>match ti.d,m with
  | .map _ E,.v (.one (.a (.mp id)))=>match hp id with
   |some (.amap _ kt et f)=>match Bz8 tt T with
    |some kt'=>match k.get kt,decide (kt'=kt)&&Nat.beq et.size 1,B52 tt et E with
     |some k,true,some z=>match (match tt.get E with|some ei => !ei.d.agg|none=>false),ok with
      |false,_=>none
      |true,false=>K (.at (.val et ((A8c k f).getD z)))
      |true,true=>K (.tup [.one (.a (.val et ((A8c k f).getD z))),.one (.a (.val .bool (A8c k f).isSome))])
     | _,_,_=>none
    |none=>none
   |some (.fmap _ ki f)=>match Bz8 tt T,tt.get E with
    |some kt',some ei=>match k.get (.int ki),ei.zero,decide (kt' = .int ki)&&(!ei.d.agg && !ok) with
     |some k,some [z],true=>C0t k (K (.v (.one z))) (fun c=>K (.v (.one c))) f
     | _,_,_=>none
    | _,_=>none
   |some (.pmap _ ki pid f)=>match Bz8 tt T,ok with
    |some kt',false=>match k.get (.int ki),decide (kt' = .int ki),(match tt.get E with|some ei=>(match ei.zero with|some [.a .nilptr] => !ei.d.agg | _=>false)|none=>false) with
     |some k,true,true=>K (.at (.po pid (Bcr k f)))
     | _,_,_=>none
    | _,_=>none
   | _=>none
  | _,_=>none
 |none=>none
def Bz9(place:Nat→Option (Nat×Nat))(cs:List Aby):List (Nat×AV)→Option (List Aby)
 |[]=>some cs
 |(i,v)::r=>match place i,Bg0 v with
  |some (off,size),some new=>match Nat.beq new.length size,Nat.ble (off+new.length) cs.length with
   |true,true=>Bz9 place (Aqd cs off new) r
   | _,_=>none
  | _,_=>none
def Cth(tt:TT)(T:TypeId)(parts:List (Nat×AV))(K:AV→Option R):Option R :=
 match tt.get T with
 |some i=>match i.zero,i.d with
  |some zs,.struct fs=>match Bz9 (fun j=>match fs[j]? with|some f=>some (f.1,f.2.1)|none=>none) zs parts with
   |some cs=>K (.v (.agg cs))
   |none=>none
  |some zs,.arr _ E=>match tt.get E with
   |some ei=>match Bz9 (fun j=>some (j*ei.size,ei.size)) zs parts with
    |some cs=>K (.v (.agg cs))
    |none=>none
   |none=>none
  |none,.arr n E=>match i.big,parts,tt.get E with
   |some v,[],some _=>K (.z n v)
   | _,_,_=>none
  | _,_=>none
 |none=>none
def C6s(tt:TT)(hp:Aam)(T:TypeId)(n:Nat)(v:Value)(dst:Nat)(K:KD R):Option R :=
 match tt.get T,hp (Aa5 dst 0) with
 |some i,none=>match i.d with
  | .arr m E=>match Bpl tt 10 E with
   |some t=>match Nat.beq t.size 1&&(Nat.beq m n&&Nat.ble 1 n),(A0a v).get t with
    |true,some z=>K [(Aa5 dst 0,.row T t 0 false (Bz4 n z))] (.at (.ptr (Aa5 dst 0) 0 0 0))
    | _,_=>none
   |none=>none
  | _=>none
 | _,_=>none
def Bvt(n:Nat)(zs:List Aby):List Aby:=match n with
 |0=>[]
 |n+1=>zs++Bvt n zs
def Bvu(tt:TT)(hp:Aam)(T:TypeId)(len:Nat)(parts:List (Nat×AV))(dst:Nat)(K:KD R):Option R :=
 match tt.get T with
 |some i=>match i.d with
  | .slice E=>match tt.get E,Bpl tt 10 E,hp (Aa5 dst 0) with
   |some ei,some t,none=>match ei.zero,Nat.beq ei.size t.size,Nat.ble len 4096,Nat.ble ei.size 4096 with
    |some zs,true,true,true=>match Nat.beq zs.length ei.size,Bz9 (fun j=>some (j*ei.size,ei.size)) (Bvt len zs) parts with
     |true,some cs=>match Apy hp cs with
      |some (cs',fr)=>match Bim t len cs' with
       |some xs=>K (Agv hp fr++[(Aa5 dst 0,.row E t 0 false xs)]) (.at (.slf (Aa5 dst 0) 0))
       |none=>none
      |none=>none
     | _,_=>none
    | _,_,_,_=>none
   |some ei,none,none=>match ei.zero,Nat.ble 1 len&&Nat.ble len 64,Nat.ble 1 ei.size&&Nat.ble ei.size 64 with
    |some zs,true,true=>match Nat.beq zs.length ei.size,Bz9 (fun j=>some (j*ei.size,ei.size)) (Bvt len zs) parts with
     |true,some cs=>K [(Aa5 dst 0,.cells E cs)] (.at (.vs (Aa5 dst 0) len))
     | _,_=>none
    | _,_,_=>none
   | _,_,_=>none
  | _=>none
 |none=>none
def Akm(hp:Aam):List Bool→List AV→Option (List AV×List Nat)
 | _,[]=>some ([],[])
 |[],a::r=>match Akm hp [] r with
  |some (s,m)=>some (a::s,m)
  |none=>none
 |true::f,a::r=>match a.frz hp,Akm hp f r with
  |some (b,l),some (s,m)=>some (b::s,l++m)
  | _,_=>none
 |false::f,a::r=>match Akm hp f r with
  |some (s,m)=>some (a::s,m)
  |none=>none
def Apg.flat:Apg→Bool
 | .val t _=>t.flat
 | .nvl _ _ | .fptr _ _ _ _=>false
 | _=>true
def Aby.flat:Aby→Bool
 | .a x=>x.flat
 | .func _ caps=>caps.all Apg.flat
 | .meth _ rs=>rs.all Apg.flat
 | .iface _ cs=>cs.all Apg.flat
def V1.flat:V1→Bool
 | .one c=>c.flat
 | .agg cs=>cs.all Aby.flat
def AV.flat:AV→Bool
 | .v x=>x.flat
 | .tup xs=>xs.all V1.flat
 | .z _ _=>true
def Aau.flat:Aau→Bool
 | .cells _ cs=>cs.all Aby.flat
 | .row _ t _ fz _=>t.flat && !fz
 | .amap _ kt et _=>kt.flat&&et.flat
 | .fmap _ _ m=>m.all fun p=>p.2.flat
 | .pool _ t _=>t.flat
 | .pmap _ _ _ _=>true
def A0k(x:Nat):List Nat→Nat→Option Nat
 |[],_=>none
 |y::r,i=>match Nat.beq x y with|true=>some i|false=>A0k x r (i+1)
def Aau.ver:Aau→Nat
 | .row _ _ ver _ _=>ver
 | _=>0
def Bin(hp:Aam)(ids:List Nat):Ren:=fun id=>match A0k id ids 0 with
 |some i=>match hp id with
  |some b=>some (i,fun v=>match Nat.beq v b.ver with|true=>some 0|false=>none)
  |none=>none
 |none=>none
def Ai2(v:Nat):Aau→Aau
 | .row E t _ fz xs=>.row E t v fz xs
 |b=>b
def A0l(hp:Aam)(σ:Ren):List Nat→Option (List Aau)
 |[]=>some []
 |id::r=>match hp id,A0l hp σ r with
  |some (.row _ _ _ true _),_=>none
  |some b,some s=>match b.renOk σ with|true=>some (Ai2 0 (b.ren σ)::s)|false=>none
  | _,_=>none
def Aot(hp:Aam)(grow:List Bool)(ids:List Nat)(i:Nat):Nat:=match ids[i]? with
 |some id=>match hp id with
  |some (.row _ _ ver _ _)=>match grow.getD i false with|true=>ver+1|false=>ver
  | _=>0
 |none=>0
def Ahp(hp:Aam)(grow:List Bool)(ids:List Nat)(dst:Nat):Ren:=fun i=>match Nat.ble 32 i with
 |true=>some (Aa5 dst (i-32),fun v=>some v)
 |false=>match ids[i]? with
  |some id=>some (id,fun v=>match Nat.beq v 0 with|true=>some (Aot hp grow ids i)|false=>none)
  |none=>none
def Bi7(a b:Aau):Bool:=match a with
 | .cells T cs=>(match b with | .cells T' cs'=>Nat.beq T T'&&Nat.beq cs.length cs'.length | _=>false)
 | .row E t _ fz _=>(match b with | .row E' t' v fz' _ => !fz&&(!fz'&&(Nat.beq E E'&&decide (t=t')&&Nat.beq v 0)) | _=>false)
 | .amap T kt et _=>(match b with | .amap T' kt' et' _=>Nat.beq T T'&&decide (kt=kt')&&decide (et=et') | _=>false)
 | .fmap T k _=>(match b with | .fmap T' k' _=>Nat.beq T T'&&decide (k=k') | _=>false)
 | .pool T t _=>(match b with | .pool T' t' _=>Nat.beq T T'&&decide (t=t') | _=>false)
 | .pmap T k _ _=>(match b with | .pmap T' k' _ _=>Nat.beq T T'&&decide (k=k') | _=>false)
def Cse(a b:Aau):Bool:=match a,b with
 | .pmap _ _ p _,.pmap _ _ q _=>Nat.beq p q
 | _,_=>true
def Bi8(hp:Aam)(grow:List Bool)(ids:List Nat)(τ:Ren):List Nat→Nat→List Aau→Option (List (Nat×Aau))
 |[],_,[]=>some []
 |id::r,i,b::s=>match hp id,Bi8 hp grow ids τ r (i+1) s with
  |some b0,some l=>match Bi7 b0 b&&(b.renOk τ&&Cse b0 (b.ren τ)) with
   |true=>some ((id,Ai2 (Aot hp grow ids i) (b.ren τ))::l)
   |false=>none
  | _,_=>none
 | _,_,_=>none
def Bpn(hp:Aam)(dst:Nat)(τ:Ren):Nat→List Aau→Option (List (Nat×Aau))
 | _,[]=>some []
 |j,b::r=>match Nat.blt j 24&&(b.renOk τ && !(match b with | .row _ _ _ fz _=>fz | _=>false)),hp (Aa5 dst j),Bpn hp dst τ (j+1) r with
  |true,none,some l=>some ((Aa5 dst j,b.ren τ)::l)
  | _,_,_=>none
def Bpo(tt:TT)(dst:Nat):List (Nat×Nat×TypeId)→List Aby→Nat→Option (List Aby×List (Nat×Aau))
 |[],[],_=>some ([],[])
 |f::fs,c::cs,j=>match Nat.beq f.2.1 1 with
  |false=>none
  |true=>match c with
   | .a .nilsl=>match tt.get f.2.2,Bpo tt dst fs cs (j+1) with
    |some i,some (ds,l)=>match i.d with
     | .slice E=>match Bpl tt 10 E,Nat.blt j 32 with
      |some t,true=>some (.a (.slf (Aa5 dst j) 0)::ds,(Aa5 dst j,.row E t 0 false [])::l)
      | _,_=>none
     | _=>none
    | _,_=>none
   |c=>match Bpo tt dst fs cs j with
    |some (ds,l)=>some (c::ds,l)
    |none=>none
 | _,_,_=>none
def Bt1(tt:TT)(hp:Aam)(dst:Nat):List Nat→Option (List (Nat×Aau))
 |[]=>some []
 |id::r=>match hp id,Bt1 tt hp dst r with
  |some b,some l=>(match b with
   | .cells T cs=>match cs.any fun c=>match c with | .a .nilsl=>true | _=>false with
    |false=>some l
    |true=>match l,tt.get T with
     |[],some i=>match i.d with
      | .struct fs=>match Bpo tt dst fs cs 24 with
       |some (ds,m)=>match m.all fun p=>match hp p.1 with|none=>true|some _=>false with
        |true=>some ((id,.cells T ds)::m)
        |false=>none
       |none=>none
      | _=>none
     | _,_=>none
   | _=>some l)
  | _,_=>none
def De2(l m:List Nat):Bool:=l.all fun x => !Aos x m
def Ca2(s:Aad)(hp:Aam)(args':List AV)(fr:List Nat)(pre:List (Nat×Aau))(dst:Nat)(K:KD R):Option R :=
 let ids:=A2a hp 400 (args'.flatMap AV.refs) []
 match De2 fr ids,Nat.blt ids.length 32,A0l hp (Bin hp ids) ids with
 |true,true,some bl=>s.run R (args'.map (AV.ren (Bin hp ids))) bl fun v bl' nw=>
  match Bi8 hp s.grow ids (Ahp hp s.grow ids dst) ids 0 bl',Bpn hp dst (Ahp hp s.grow ids dst) 0 nw with
  |some l,some l'=>match fr,v.flat&&bl'.all Aau.flat&&nw.all Aau.flat with
   |[],_=>match Aqs s.grow with
    |true=>K (pre++l') (v.ren (Ahp hp s.grow ids dst))
    |false=>K (pre++(l++l')) (v.ren (Ahp hp s.grow ids dst))
   | _,true=>K (pre++(l++l')) (v.ren (Ahp hp s.grow ids dst))
   |fr,false=>K (pre++(Agv hp fr++(l++l'))) (v.ren (Ahp hp s.grow ids dst))
  | _,_=>none
 | _,_,_=>none
def Csf(tt:TT)(Γ:FuncId→Option Aad)(hp:Aam)(f:FuncId)(args:List AV)(dst:Nat)(K:KD R):Option R :=
 match Γ f with
 |none=>none
 |some s=>match Akm hp s.pure args with
  |none=>none
  |some (args',fr)=>match s.mat with
   |false=>Ca2 s hp args' fr [] dst K
   |true=>match Bt1 tt hp dst (A2a hp 400 (args'.flatMap AV.refs) []) with
    |none=>none
    |some pre=>Ca2 s (Aa3 hp pre) args' fr pre dst K
def Bat(mx:Bool):Nat→List AV→Option AV
 |0,_=>none
 |c+1,l=>match l with
  |[]=>none
  |[x]=>some x
  | .v (.one (.a (.val (.int k) m)))::.v (.one (.a (.val (.int k') n)))::r=>
   if k=k' then Bat mx c (vI k (match mx with|true=>if (n:Int) > m then n else m|false=>if (n:Int)<m then n else m)::r) else none
  | _=>none
def Bw9(mx:Bool)(l:List AV):Option AV:=Bat mx 9 l
def Ch4(tt:TT)(Γ:FuncId→Option Aad)(o:Oper)(ev:Operand→AV)(hp:Aam)(K:KD R):Option R :=
 let dst:=o.dst.getD 0
 match o.op with
 | .move x | .assign x=>K [] (ev x)
 | .pick c a b=>match (ev c).get .bool with
  |some t=>if t=true then K [] (ev a) else K [] (ev b)
  |none=>none
 | .alloc T=>match hp (Aa5 dst 0),tt.get T with
  |none,some i=>match i.zero with
   |some zs=>K [(Aa5 dst 0,.cells T zs)] (.at (.ptr (Aa5 dst 0) 0 0 0))
   |none=>none
  | _,_=>none
 | .box T x=>match ev x with
  | .z n v=>C6s tt hp T n v dst K
  |a=>match hp (Aa5 dst 0),Bg0 a with
   |none,some cs=>K [(Aa5 dst 0,.cells T cs)] (.at (.ptr (Aa5 dst 0) 0 0 0))
   | _,_=>none
 | .build T parts=>Cth tt T (parts.toList.map fun p=>(p.1,ev p.2)) (K [])
 | .buildSlice T len parts=>Bvu tt hp T len (parts.toList.map fun p=>(p.1,ev p.2)) dst K
 | .load T x=>Csd tt hp T (ev x) (K [])
 | .store T x v=>Cte tt hp T (ev x) (ev v) K
 | .nilCheck x=>match ev x with
  | .v (.one (.a (.ptr id ver idx fld)))=>K [] (.at (.ptr id ver idx fld))
  | .v (.one (.a (.pr id k fld)))=>K [] (.at (.pr id k fld))
  | .v (.one (.a (.po id o)))=>if o.isSome=true then K [] (.at (.pr id (o.getD 0) 0)) else none
  | _=>none
 | .fieldAddr T x f=>match tt.get T with
  |some i=>match i.d with
   | .struct fs=>match fs[f]? with
    |some fd=>match Nat.beq fd.2.1 0,ev x with
     |false,.v (.one (.a (.ptr id ver idx fld)))=>K [] (.at (.ptr id ver idx (fld+fd.1)))
     |false,.v (.one (.a (.fptr t xs idx fld)))=>K [] (.at (.fptr t xs idx (fld+fd.1)))
     |false,.v (.one (.a (.pr id k fld)))=>K [] (.at (.pr id k (fld+fd.1)))
     | _,_=>none
    |none=>none
   | _=>none
  |none=>none
 | .field T x f=>match tt.get T with
  |some i=>match i.d with
   | .struct fs=>match fs[f]?,ev x with
    |some fd,.v (.agg cs)=>match tt.get fd.2.2 with
     |some fi=>match Nat.ble (fd.1+fi.size) cs.length,Cfc fi.d.agg ((cs.drop fd.1).take fi.size) with
      |true,some v=>K [] v
      | _,_=>none
     |none=>none
    | _,_=>none
   | _=>none
  |none=>none
 | .indexAddr T x i=>match Bcq (ev i) with
  |some i=>Bz7 tt hp T (ev x) i K
  |none=>none
 | .index T x i=>match (match tt.get T with|some i=>i.d|none=>.other),ev x,Bcq (ev i) with
  | .str,.v (.one (.a (.val .str s))),some i=>if 0≤i∧i<(List.length (α:=UInt8) s:Int) then K [] (vI .u8 (((s:List UInt8).getD i.toNat 0).toNat:Int)) else none
  | _,_,_=>none
 | .binOp op T x y _=>C6q tt op T x y (ev x) (ev y) (K [])
 | .unOp op _ x=>match op,ev x with
  | .not,.v (.one (.a (.val .bool b)))=>K [] (vb (!b))
  | .neg,.v (.one (.a (.val (.int k) n)))=>K [] (vI k (k.wrap (0-n)))
  | .xor,.v (.one (.a (.val (.int k) n)))=>match k.signed with|true=>K [] (vI k (Bz6 k (-1) n))|false=>none
  | _,_=>none
 | .convert S T x=>match tt.get S,tt.get T with
  |some si,some ti=>match si.d,ti.d,ev x with
   | _,.int k,.v (.one (.a (.val (.int _) n)))=>K [] (vI k (k.wrap n))
   | .str,.str,.v (.one (.a (.val .str s)))=>K [] (.at (.val .str s))
   | .str,.slice E,.v (.one (.a (.val .str s)))=>match tt.get E,hp (Aa5 dst 0) with
    |some ei,none=>match ei.d with
     | .int .u8=>if (s:List UInt8).length≤LIM then K [(Aa5 dst 0,.row E (.int .u8) 0 false ((s:List UInt8).map fun b=>(b.toNat:Int)))] (.at (.slf (Aa5 dst 0) 0)) else none
     | _=>none
    | _,_=>none
   | .slice E,.str,.v (.one (.a x))=>match tt.get E with
    |some ei=>match ei.d with
     | .int .u8=>match x.frz hp with
      |some (y,_)=>match y.get (.list (.int .u8)) with
       |some ys=>K [] (.at (.val .str ((ys:List Int).map fun n=>UInt8.ofNat n.toNat)))
       |none=>none
      |none=>none
     | _=>none
    |none=>none
   | _,_,_=>none
  | _,_=>none
 | .slice T x lo hi mx=>Ctg tt hp T (ev x) (lo.map ev) (hi.map ev) (mx.map ev) (K [])
 | .makeFunc (.func f) first captured=>match first.toList,Bpb (captured.toList.map ev) with
  |[],some caps=>K [] (.v (.one (.func f caps)))
  |x::r,some []=>match Bpb ((x::r).map ev) with|some rs=>K [] (.v (.one (.meth f rs)))|none=>none
  | _,_=>none
 | .makeMap T rsv=>match tt.get T,hp (Aa5 dst 0),rsv with
  |some i,none,none=>match i.d with
   | .map k e=>match Bpl tt 10 k,Bpl tt 10 e with
    |some kt,some et=>K [(Aa5 dst 0,.amap T kt et [])] (.at (.mp (Aa5 dst 0)))
    |some (.int ki),none=>match Db8 tt e with
     |some (E,t)=>match hp (Aa5 dst 1) with
      |none=>K [(Aa5 dst 1,.pool E t []),(Aa5 dst 0,.pmap T ki (Aa5 dst 1) [])] (.at (.mp (Aa5 dst 0)))
      |some _=>none
     |none=>K [(Aa5 dst 0,.fmap T ki [])] (.at (.mp (Aa5 dst 0)))
    | _,_=>none
   | _=>none
  | _,_,_=>none
 | .mapUpdate T m k v | .insert T m k v=>Clg tt hp T (ev m) (ev k) (ev v) K
 | .lookup T m k ok=>Cli tt hp T (ev m) (ev k) ok (K [])
 | .makeSlice T l c=>match tt.get T,Bcq (ev l),Bcq (ev c),hp (Aa5 dst 0) with
  |some i,some l,some c,none=>match i.d with
   | .slice E=>match tt.get E,Bpl tt 10 E with
    |some ei,some t=>match Nat.beq ei.size t.size&&Nat.blt 0 ei.bytes,B52 tt t E with
     |true,some z=>if 0≤l∧l≤c∧c*(ei.bytes:Int)≤(LIM:Int) then K [(Aa5 dst 0,.row E t 0 false (List.replicate l.toNat z))] (.at (.slf (Aa5 dst 0) 0)) else none
     | _,_=>none
    | _,_=>none
   | _=>none
  | _,_,_,_=>none
 | .extract x i=>match ev x with
  | .tup vs=>match vs[i]? with|some v=>K [] (.v v)|none=>none
  | _=>none
 | .call c=>match c.callee,c.args.toList,c.argTypes.toList with
  | .builtin .len,[x],[T]=>C6r tt hp T (ev x) (K [])
  | .builtin .max,l,_=>match Bw9 true (l.map ev) with|some v=>K [] v|none=>none
  | .builtin .min,l,_=>match Bw9 false (l.map ev) with|some v=>K [] v|none=>none
  | .builtin .append,[s,x],[T,Tx]=>Clf tt hp T Tx (ev s) (ev x) dst K
  | .builtin .copy,[d,x],T::_=>C0s tt hp T (ev d) (ev x) K
  | .builtin .delete,[m,k],T::_=>Clh tt hp T (ev m) (ev k) K
  | .value f,l,_=>match ev f with
   | .v (.one (.func f caps))=>Csf tt Γ hp f (l.map ev++caps.map AV.at) dst K
   | .v (.one (.meth f rs))=>Csf tt Γ hp f (rs.map AV.at++l.map ev) dst K
   | _=>none
  | _,_,_=>none
 | _=>none
end ops
end
end Go.AX
namespace Go.AX
noncomputable section
inductive Ex where
 |normal|exit (id:Nat)|ret
def Ajj(ops:Array Oper)(o:Oper):List Nat :=
 (o.op.operands.toList.filterMap fun | .tmp t=>some t | _=>none) ++
 (match o.guard with
  |some (g,_)=>((ops[g]?).bind (·.dst)).toList
  |none=>[])
section
variable {R:Type}
def Bt2(ops:Array Oper)(o:Oper)(st:ASt)(Kyes Kno:ASt→Option R):Option R :=
 match o.guard with
 |none=>Kyes st
 |some (j,want)=>match (ops[j]?).bind (·.dst) with
  |none=>none
  |some d=>match st.env d with
   | .v (.one (.a (.val .bool b)))=>if (b:Bool)=true
    then (match want with|true=>Kyes (st.set (some d) (vb true))|false=>Kno (st.set (some d) (vb true)))
    else (match want with|true=>Kno (st.set (some d) (vb false))|false=>Kyes (st.set (some d) (vb false)))
   | .tup []=>Kno st
   | _=>none
variable (tt:TT) (Γ:FuncId→Option Aad)
def Af5(g:List Bool)(hp:Aam):List (Nat×Aau)→Bool
 |[]=>true
 |(id,b)::r=>(match Nat.ble 32 id with
  |true=>true
  |false=>match hp id,b with
   |some (.cells _ _),.cells _ _=>true
   |some (.amap _ _ _ _),.amap _ _ _ _=>true
   |some (.fmap _ _ _),.fmap _ _ _=>true
   |some (.pool _ _ _),.pool _ _ _=>true
   |some (.pmap _ _ p _),.pmap _ _ q _=>Nat.beq p q
   |some (.row _ _ v fz _),.row _ _ v' fz' _=>(fz==fz')&&(Nat.beq v v'||g.getD id false)
   | _,_=>false)&&((!Aqs g||Nat.ble 32 id)&&Af5 g hp r)
variable (g:List Bool)
def Cti(ops:Array Oper):List Nat→ASt→(ASt→Option R)→Option R
 |[],st,K=>K st
 |i::rest,st,K=>match ops[i]? with
  |none=>none
  |some o=>Bt2 ops o st
   (fun st=>Ch4 tt Γ o (evs st.env) st.hp fun l v=>match Af5 g st.hp l with
    |true=>Cti ops rest (st.upd o.dst l v) K
    |false=>none)
   (fun st=>Cti ops rest (st.set o.dst (.tup [])) K)
def Cfd(uses:List Nat)(env:Env):Env:=fun s=>match Aos s uses with|true=>env s|false=>.at .undef
def hpR(ids:List Nat)(hp:Aam):Aam:=fun s=>match Aos s ids with|true=>hp s|false=>none
def Db9(o:Oper):Bool:=match o.op with
 | .call {callee:=.value _,..}=>true
 | _=>false
def looks(o:Oper)(env:Env)(hp:Aam):List Nat :=
 let direct:=o.op.operands.toList.flatMap fun x=>(evs env x).refs
 (match Db9 o with|true=>A2a hp 400 direct []|false=>match o.op with | .nilCheck _ | .fieldAddr _ _ _ | .move _ | .assign _=>[] | _=>direct)++(List.range 32).map (Aa5 (o.dst.getD 0))
structure Bn2 where
 i:Nat
 looks:List Nat
 writes:List Nat
def Ch5(a b:List Nat):Bool:=a.any fun x=>Aos x b
def apart(ops:Array Oper)(a b:Bn2):Bool :=
 match ops[a.i]?,ops[b.i]? with
 |some x,some y=>
  !Ch5 a.writes b.looks && !Ch5 b.writes a.looks && !Ch5 a.writes b.writes &&
  (match x.dst with|some d => !Aos d (Ajj ops y)&&(match y.dst with|some e => !Nat.beq d e|none=>true)|none=>true) &&
  (match y.dst with|some d => !Aos d (Ajj ops x)|none=>true)
 | _,_=>false
def Aqt(ops:Array Oper):List (List Nat) :=
 ops.toList.foldl (fun acc o=>acc++[o.after.toList.flatMap fun e=>match Region.binds .any e with|true=>e.on::acc.getD e.on []|false=>[]]) []
def Bpd(ops:Array Oper)(bef:List (List Nat)):List Bn2→Bool
 |[]=>true
 |a::r=>(r.all fun b=>Aos a.i (bef.getD b.i [])||apart ops a b)&&Bpd ops bef r
def A2b(ops:Array Oper):Bool:=(List.range ops.size).all fun i=>match ops[i]? with
 |some o=>o.after.toList.all fun e => !Region.binds .any e||Nat.blt e.on i
 |none=>false
def Ca3(ops:Array Oper):List Nat→ASt→List Bn2→(ASt→List Bn2→Option R)→Option R
 |[],st,tr,K=>K st tr
 |i::rest,st,tr,K=>match ops[i]? with
  |none=>none
  |some o=>Bt2 ops o st
   (fun st=>Ch4 tt Γ o (evs (Cfd (Ajj ops o) st.env)) (hpR (looks o st.env st.hp) st.hp) fun l v=>match Af5 g st.hp l with
    |true=>Ca3 ops rest (st.upd o.dst l v) (tr++[⟨i,looks o st.env st.hp,l.map (·.1)⟩]) K
    |false=>none)
   (fun st=>Ca3 ops rest (st.set o.dst (.tup [])) (tr++[⟨i,[],[]⟩]) K)
def Clj(ops:Array Oper)(draw:Bool)(st:ASt)(K:ASt→Option R):Option R :=
 match draw with
 |false=>Cti tt Γ g ops (List.range ops.size) st K
 |true=>match A2b ops with
  |true=>Ca3 tt Γ g ops (List.range ops.size) st [] fun st tr=>match Bpd ops (Aqt ops) tr with
   |true=>K st
   |false=>none
  |false=>none
def Agb:Code→Nat
 | .region id _ _=>id
 | .seq a _=>Agb a
 | .block _ a=>Agb a
 | .loop a=>Agb a
 | .cond _ a _=>Agb a
 | .scope a=>Agb a
 | _=>0
abbrev Aa6:=(R:Type)→ASt→(Ex→ASt→Option R)→Option R
def Ca4(step:ASt→(Ex→ASt→Option R)→Option R):Nat→ASt→(Ex→ASt→Option R)→Option R
 |0,_,_=>none
 |k+1,st,K=>step st fun e st=>match e with
  | .normal=>Ca4 step k st K
  |e=>K e st
variable (Λ:Nat→Option Aa6)
def Aal:Code→ASt→(Ex→ASt→Option R)→Option R
 | .skip,st,K=>K .normal st
 | .region _ ops draw,st,K=>Clj tt Γ g ops draw st (K .normal)
 | .seq a b,st,K=>Aal a st fun e st=>match e with
  | .normal=>match Λ (2*Agb b) with
   |some F=>F R st K
   |none=>Aal b st K
  |e=>K e st
 | .cond c a b,st,K=>match evs st.env c with
  | .v (.one (.a (.val .bool t)))=>if (t:Bool)=true then Aal a st K else Aal b st K
  | _=>none
 | .block id a,st,K=>Aal a st fun e st=>match e with
  | .exit id'=>match Nat.beq id' id with|true=>K .normal st|false=>K (.exit id') st
  |e=>K e st
 | .loop a,st,K=>match Λ (2*Agb a+1) with
  |some F=>F R st K
  |none=>Ca4 (fun st K=>Aal a st K) 64 st K
 | .exit id,st,K=>K (.exit id) st
 | .scope a,st,K=>Aal a st K
 | .ret,st,K=>K .ret st
 | _,_,_=>none
end
inductive Aou where
 |val (t:Ty)          -- data
 |slf (id:Nat)        -- a whole slice of the call's own
 |ptr (id:Nat)        -- the head of a block
 |mp (id:Nat)
 |same (x:Apg)       -- a fixed atom without a reference
 |fn (f:FuncId)
 |vs (id n:Nat)       -- a slice over a block of cells
 |pr (id:Nat)         -- an object of a pool
 |po (id:Nat)         -- an object of a pool,or nil
 |fnp (f:FuncId) (ids:List Nat)   -- a A2a that captures the heads of blocks
 |mth (f:FuncId) (ids:List Nat)   -- a method of such a head
 |any                   -- nothing is said
inductive Acy where
 |one (c:Aou)
 |agg (cs:List Aou)
inductive Ae7 where
 |cells (T:TypeId) (cs:List Aou)
 |row (E:TypeId) (t:Ty)
 |amap (T:TypeId) (kt et:Ty)
 |fmap (T:TypeId) (k:IntKind) (ks:List Int) (cs:List Aou)
 |pool (T:TypeId) (t:Ty)
 |pmap (T:TypeId) (k:IntKind) (pid:Nat)
structure Aac where
 env:List (Nat×Acy)
 hp:List (Nat×Ae7)
@[reducible] def Aou.den:Aou→Type
 | .val t=>t.den
 | .pr _=>Nat
 | .po _=>Option Nat
 | _=>Unit
@[reducible] def Bio:List Aou→Type
 |[]=>Unit
 |c::r=>c.den×Bio r
@[reducible] def Acy.den:Acy→Type
 | .one c=>c.den
 | .agg cs=>Bio cs
@[reducible] def Bpp:List (Nat×Acy)→Type
 |[]=>Unit
 |(_,p)::r=>p.den×Bpp r
@[reducible] def Ae7.den:Ae7→Type
 | .cells _ cs=>Bio cs
 | .row _ t=>List t.den
 | .amap _ kt et=>List (kt.den×et.den)
 | .fmap _ _ _ cs=>Bio cs
 | .pool _ t=>List (t.den×Option Nat)
 | .pmap _ _ _=>List (Int×Nat)
@[reducible] def Ahn:List (Nat×Ae7)→Type
 |[]=>Unit
 |(_,p)::r=>p.den×Ahn r
@[reducible] def Aac.den(p:Aac):Type:=Bpp p.env×Ahn p.hp
def B0a:(p:Aou)→p.den→Aby
 | .val t,v=>.a (.val t v)
 | .slf id,_=>.a (.slf id 0)
 | .ptr id,_=>.a (.ptr id 0 0 0)
 | .mp id,_=>.a (.mp id)
 | .vs id n,_=>.a (.vs id n)
 | .pr id,k=>.a (.pr id k 0)
 | .po id,o=>.a (.po id o)
 | .same x,_=>.a x
 | .fn f,_=>.func f []
 | .fnp f ids,_=>.func f (ids.map fun id=>.ptr id 0 0 0)
 | .mth f ids,_=>.meth f (ids.map fun id=>.ptr id 0 0 0)
 | .any,_=>.a .undef
def Bt3:(ps:List Aou)→Bio ps→List Aby
 |[],_=>[]
 |p::r,v=>B0a p v.1::Bt3 r v.2
def C0v:(p:Acy)→p.den→AV
 | .one c,v=>.v (.one (B0a c v))
 | .agg cs,v=>.v (.agg (Bt3 cs v))
def C6t:List Int→List Aby→List (Int×Aby)
 |k::ks,c::cs=>(k,c)::C6t ks cs
 | _,_=>[]
def Clk:(p:Ae7)→p.den→Aau
 | .cells T cs,v=>.cells T (Bt3 cs v)
 | .row E t,xs=>.row E t 0 false xs
 | .amap T kt et,m=>.amap T kt et m
 | .fmap T k ks cs,v=>.fmap T k (C6t ks (Bt3 cs v))
 | .pool T t,xs=>.pool T t xs
 | .pmap T k pid,m=>.pmap T k pid m
def Bcs:(ps:List (Nat×Acy))→Bpp ps→Env
 |[],_=>fun _=>.at .undef
 |(s,p)::r,v=>fun t=>match Nat.beq t s with|true=>C0v p v.1|false=>Bcs r v.2 t
def A91:(ps:List (Nat×Ae7))→Ahn ps→Aam
 |[],_=>fun _=>none
 |(id,p)::r,v=>fun t=>match Nat.beq t id with|true=>some (Clk p v.1)|false=>A91 r v.2 t
def Aaf(p:Aac)(x:p.den):ASt:=⟨Bcs p.env x.1,A91 p.hp x.2⟩
abbrev Src:=List (Nat×Option Nat)
def Afo:Src→Nat→Option (Option Nat)
 |[],_=>none
 |(k,o)::r,id=>match Nat.beq id k with|true=>some o|false=>Afo r id
def Bpq:Option Nat→Option Nat→Bool
 |none,none=>true
 |some a,some b=>Nat.beq a b
 | _,_=>false
def Aza(σ:Src)(id:Nat)(o:Option Nat):Option Src :=
 match Afo σ id with
 |some o'=>match Bpq o o',o with
  |true,some _=>some σ
  | _,_=>none
 |none=>match o with
  |none=>match Nat.ble 32 id with|true=>some ((id,none)::σ)|false=>none
  |some old=>match (σ.any fun p=>Bpq p.2 (some old))||(!Nat.ble 32 id && !Nat.beq id old)||(Nat.ble 32 id && !Nat.ble 32 old) with
   |true=>none
   |false=>some ((id,some old)::σ)
structure DSt where
 src:Src
 fz:List Nat
def Cfe(hp:Aam):List Nat→List Apg→DSt→Option DSt
 |[],[],σ=>some σ
 |id::r,.ptr old ver idx fld::cs,σ=>match Nat.beq idx 0,Nat.beq fld 0,Aza σ.src id (some old),hp old with
  |true,true,some s,some b=>match Nat.beq b.ver ver with
   |true=>Cfe hp r cs ⟨s,σ.fz⟩
   |false=>none
  | _,_,_,_=>none
 | _,_,_=>none
def Csg:List (Int×Aby)→List Int→Bool
 |[],[]=>true
 |p::r,k::s=>match decide (p.1=k) with|true=>Csg r s|false=>false
 | _,_=>false
def C0w:List (Int×Aby)→List Aby
 |[]=>[]
 |p::r=>p.2::C0w r
def Cll(hp:Aam):(p:Aou)→Aby→DSt→Option (p.den×DSt)
 | .val t,.a x,σ=>match x.frz hp with
  |some (y,l)=>match y.get t with
   |some v=>some (v,⟨σ.src,l++σ.fz⟩)
   |none=>none
  |none=>none
 | .slf id,.a .nilsl,σ=>match Aza σ.src id none with
  |some s=>some ((),⟨s,σ.fz⟩)
  |none=>none
 | .slf id,.a .ecap,σ=>match Aza σ.src id none with
  |some s=>some ((),⟨s,σ.fz⟩)
  |none=>none
 | .slf id,.a (.slf old ver),σ=>match hp old with
  |some b=>match Nat.beq ver b.ver,Aza σ.src id (some old) with
   |true,some s=>some ((),⟨s,σ.fz⟩)
   | _,_=>none
  |none=>none
 | .ptr id,.a (.ptr old ver idx fld),σ=>match Nat.beq idx 0,Nat.beq fld 0,Aza σ.src id (some old),hp old with
  |true,true,some s,some b=>match Nat.beq b.ver ver with
   |true=>some ((),⟨s,σ.fz⟩)
   |false=>none
  | _,_,_,_=>none
 | .mp id,.a (.mp old),σ=>match Aza σ.src id (some old) with
  |some s=>some ((),⟨s,σ.fz⟩)
  |none=>none
 | .vs id n,.a (.vs old n'),σ=>match hp old with
  |some (.cells _ _)=>match Nat.beq n n',Aza σ.src id (some old) with
   |true,some s=>some ((),⟨s,σ.fz⟩)
   | _,_=>none
  | _=>none
 | .pr id,.a (.pr old k fld),σ=>match Nat.beq fld 0,Aza σ.src id (some old) with
  |true,some s=>some (k,⟨s,σ.fz⟩)
  | _,_=>none
 | .po _,.a .nilptr,σ=>some (none,σ)
 | .po id,.a (.po old o),σ=>match Aza σ.src id (some old) with
  |some s=>some (o,⟨s,σ.fz⟩)
  |none=>none
 | .po id,.a (.pr old k fld),σ=>match Nat.beq fld 0,Aza σ.src id (some old) with
  |true,some s=>some (some k,⟨s,σ.fz⟩)
  | _,_=>none
 | .same .nilsl,.a .nilsl,σ=>some ((),σ)
 | .same .nilptr,.a .nilptr,σ=>some ((),σ)
 | .same .nilmap,.a .nilmap,σ=>some ((),σ)
 | .same .nilfn,.a .nilfn,σ=>some ((),σ)
 | .same .nilif,.a .nilif,σ=>some ((),σ)
 | .same .ecap,.a .ecap,σ=>some ((),σ)
 | .fn f,.func f' [],σ=>match Nat.beq f f' with|true=>some ((),σ)|false=>none
 | .any,_,σ=>some ((),σ)
 | .fnp f ids,.func f' caps,σ=>match Nat.beq f f',Cfe hp ids caps σ with
  |true,some σ=>some ((),σ)
  | _,_=>none
 | .mth f ids,.meth f' caps,σ=>match Nat.beq f f',Cfe hp ids caps σ with
  |true,some σ=>some ((),σ)
  | _,_=>none
 | _,_,_=>none
def Bip(hp:Aam):(ps:List Aou)→List Aby→DSt→Option (Bio ps×DSt)
 |[],[],σ=>some ((),σ)
 |p::r,c::cs,σ=>match Cll hp p c σ with
  |some (v,σ)=>match Bip hp r cs σ with
   |some (w,σ)=>some ((v,w),σ)
   |none=>none
  |none=>none
 | _,_,_=>none
def Clm(hp:Aam):(p:Acy)→AV→DSt→Option (p.den×DSt)
 | .one c,.v (.one x),σ=>Cll hp c x σ
 | .agg cs,.v (.agg xs),σ=>Bip hp cs xs σ
 | _,_,_=>none
def Ch6(env:Env)(hp:Aam):(ps:List (Nat×Acy))→DSt→Option (Bpp ps×DSt)
 |[],σ=>some ((),σ)
 |(s,p)::r,σ=>match Clm hp p (env s) σ with
  |some (v,σ)=>match Ch6 env hp r σ with
   |some (w,σ)=>some ((v,w),σ)
   |none=>none
  |none=>none
def Cff(hp:Aam)(id:Nat):(p:Ae7)→DSt→Option (p.den×DSt)
 | .cells T cs,σ=>match Afo σ.src id with
  |some (some old)=>match hp old with
   |some (.cells T' xs)=>match Nat.beq T T' with|true=>Bip hp cs xs σ|false=>none
   | _=>none
  | _=>none
 | .row E t,σ=>match Afo σ.src id with
  |some none=>some (([]:List t.den),σ)
  |some (some old)=>match hp old with
   |some (.row E' t' _ false xs)=>match Nat.beq E E',Aos old σ.fz with
    |true,false=>if h:t'=t then some ((h▸xs:List t.den),σ) else none
    | _,_=>none
   | _=>none
  |none=>none
 | .amap T kt et,σ=>match Afo σ.src id with
  |some (some old)=>match hp old with
   |some (.amap T' kt' et' m)=>match Nat.beq T T' with
    |true=>if h:kt'=kt then (if h':et'=et then some ((h▸h'▸m:List (kt.den×et.den)),σ) else none) else none
    |false=>none
   | _=>none
  | _=>none
 | .fmap T k ks cs,σ=>match Afo σ.src id with
  |some (some old)=>match hp old with
   |some (.fmap T' k' m)=>match Nat.beq T T'&&decide (k=k'),Csg m ks&&Nat.beq ks.length cs.length with
    |true,true=>Bip hp cs (C0w m) σ
    | _,_=>none
   | _=>none
  | _=>none
 | .pool T t,σ=>match Afo σ.src id with
  |some (some old)=>match hp old with
   |some (.pool T' t' xs)=>match Nat.beq T T' with
    |true=>if h:t'=t then some ((h▸xs:List (t.den×Option Nat)),σ) else none
    |false=>none
   | _=>none
  | _=>none
 | .pmap T k pid,σ=>match Afo σ.src id with
  |some (some old)=>match hp old with
   |some (.pmap T' k' p m)=>match Nat.beq T T'&&(decide (k=k')&&(Nat.ble 32 id||Nat.beq p pid)),Aza σ.src pid (some p) with
    |true,some s=>some ((m:List (Int×Nat)),⟨s,σ.fz⟩)
    | _,_=>none
   | _=>none
  | _=>none
def Csh(hp:Aam):(ps:List (Nat×Ae7))→DSt→Option (Ahn ps×DSt)
 |[],σ=>some ((),σ)
 |(id,p)::r,σ=>match Cff hp id p σ with
  |some (v,σ)=>match Csh hp r σ with
   |some (w,σ)=>some ((v,w),σ)
   |none=>none
  |none=>none
def Czs(σ:DSt)(ps:List (Nat×Ae7)):Bool :=
 (σ.src.all fun p=>Aos p.1 (ps.map (·.1)))&&(σ.src.all fun p=>match p.2 with|some old => !Aos old σ.fz|none=>true)&&nodup (ps.map (·.1))
where
 nodup:List Nat→Bool
  |[]=>true
  |x::r => !Aos x r&&nodup r
def Bpe:List (Nat×Ae7)→Src
 |[]=>[]
 |(id,_)::r=>match Nat.ble 32 id with
  |true=>Bpe r
  |false=>(id,some id)::Bpe r
def Dca(p:Aac)(st:ASt):Option p.den :=
 match Ch6 st.env st.hp p.env ⟨Bpe p.hp,[]⟩ with
 |some (x,σ)=>match Csh st.hp p.hp σ with
  |some (y,σ)=>match Czs σ p.hp with
   |true=>some (x,y)
   |false=>none
  |none=>none
 |none=>none
inductive Afc where
 |nil
 |cons (e:Ex) (p:Aac) (r:Afc)
def Deg:Ex→Ex→Bool
 | .normal,.normal | .ret,.ret=>true
 | .exit a,.exit b=>Nat.beq a b
 | _,_=>false
def Af4(bl nw:List Aau):Aam:=fun id=>match Nat.ble 32 id with|true=>nw[id-32]? |false=>bl[id]?
def Csi(args:List AV):Env:=fun s=>match args[s]? with|some v=>v|none=>.at .undef
def Ca5(args:List AV)(bl:List Aau):ASt:=⟨Csi args,Af4 bl []⟩
def A4o(tt:TT)(st:ASt):List ResultVar→Option (List AV)
 |[]=>some []
 | .tmp t::r=>match A4o tt st r with
  |some l=>some (st.env t::l)
  |none=>none
 | .cell t T::r=>match Csd (R:=AV) tt st.hp T (st.env t) some,A4o tt st r with
  |some v,some l=>some (v::l)
  | _,_=>none
def Csj:List V1→AV
 |[v]=>.v v
 |l=>.tup l
end
end Go.AX
namespace Go.AX
noncomputable section
def Abs{α β:Type}(R:α→β→Prop):List α→List β→Prop
 |[],[]=>True
 |a::as,b::bs=>R a b∧Abs R as bs
 | _,_=>False
section
variable {α β:Type} {R S:α→β→Prop}
theorem Abs.mono(h:∀a b,R a b→S a b):∀{l:List α} {m:List β},Abs R l m→Abs S l m
 |[],[],_=>trivial
 | _::_,_::_,⟨x,y⟩=>⟨h _ _ x,Abs.mono h y⟩
 |[],_::_,x=>x.elim
 | _::_,[],x=>x.elim
theorem Abs.length:∀{l:List α} {m:List β},Abs R l m→l.length=m.length
 |[],[],_=>rfl
 | _::_,_::_,⟨_,y⟩=>by simp[Abs.length y]
 |[],_::_,x=>x.elim
 | _::_,[],x=>x.elim
theorem Abs.get:∀{l:List α} {m:List β},Abs R l m→∀(i:Nat) (a:α),l[i]? = some a→∃b,m[i]? = some b∧R a b
 |[],[],_,i,a,h=>by simp at h
 |x::l,y::m,⟨p,q⟩,0,a,h=>by simp at h;subst h;exact⟨y,by simp,p⟩
 |x::l,y::m,⟨p,q⟩,i+1,a,h=>by simp at h;simpa using Abs.get q i a h
 |[],_::_,x,_,_,_=>x.elim
 | _::_,[],x,_,_,_=>x.elim
theorem Abs.append:∀{l l':List α} {m m':List β},Abs R l m→Abs R l' m'→Abs R (l++l') (m++m')
 |[],_,[],_,_,h=>h
 | _::_,_,_::_,_,⟨x,y⟩,h=>⟨x,Abs.append y h⟩
 |[],_,_::_,_,x,_=>x.elim
 | _::_,_,[],_,x,_=>x.elim
theorem Abs.take:∀{l:List α} {m:List β} (n:Nat),Abs R l m→Abs R (l.take n) (m.take n)
 |[],[],n,_=>by simp[Abs]
 | _::_,_::_,0,_=>by simp[Abs]
 | _::_,_::_,n+1,⟨x,y⟩=>⟨x,Abs.take n y⟩
 |[],_::_,_,x=>x.elim
 | _::_,[],_,x=>x.elim
theorem Abs.drop:∀{l:List α} {m:List β} (n:Nat),Abs R l m→Abs R (l.drop n) (m.drop n)
 |[],[],n,_=>by simp[Abs]
 | _::_,_::_,0,h=>by simpa using h
 | _::_,_::_,n+1,⟨_,y⟩=>by simpa using Abs.drop n y
 |[],_::_,_,x=>x.elim
 | _::_,[],_,x=>x.elim
theorem Abs.of_get:∀{l:List α} {m:List β},l.length=m.length→(∀(i:Nat) (a:α) (b:β),l[i]? = some a→m[i]? = some b→R a b)→Abs R l m
 |[],[],_,_=>trivial
 |a::l,b::m,hl,h=>⟨h 0 a b (by simp) (by simp),Abs.of_get (by simpa using hl) fun i x y hx hy=>h (i+1) x y (by simpa using hx) (by simpa using hy)⟩
 |[],_::_,hl,_=>by simp at hl
 | _::_,[],hl,_=>by simp at hl
theorem Abs.map{α':Type}{f:α'→α}:∀{l:List α'} {m:List β},Abs (fun a b=>R (f a) b) l m→Abs R (l.map f) m
 |[],[],_=>trivial
 | _::_,_::_,⟨x,y⟩=>⟨x,Abs.map y⟩
 |[],_::_,x=>x.elim
 | _::_,[],x=>x.elim
theorem Abs.one{a:α}{m:List β}(h:Abs R [a] m):∃b,m=[b]∧R a b:=by
 match m,h with
 |[b],⟨x,_⟩=>exact⟨b,rfl,x⟩
 |b::c::r,⟨_,y⟩=>exact y.elim
 |[],h=>exact h.elim
theorem Abs.nil_left{m:List β}(h:Abs R [] m):m=[]:=by
 cases m with|nil=>rfl|cons b r=>exact h.elim
theorem Abs.cons_left{a:α}{l:List α}{m:List β}(h:Abs R (a::l) m):∃b r,m=b::r∧R a b∧Abs R l r:=by
 cases m with
 |nil=>exact h.elim
 |cons b r=>exact⟨b,r,rfl,h.1,h.2⟩
end
def De3:Nat→Option (Array Value):=fun _=>none
def Bvv(f:Nat→Option Obj):Prop:=∀b cs,De3 b=some cs→∃T fr,f b=some (.cells cs T fr)
abbrev Fz:={f:Nat→Option Obj // Bvv f}
instance:CoeFun Fz fun _=>Nat→Option Obj:=⟨Subtype.val⟩
theorem Bvv.up{f f':Nat→Option Obj}(h:Bvv f)(hf:∀b o,f b=some o→f' b=some o):Bvv f':=fun b cs e=>by
 obtain⟨T,fr,h⟩:=h b cs e
 exact⟨T,fr,hf _ _ h⟩
structure Awd where
 bs:List Nat
 cap:Nat
abbrev Rho:=Nat→Awd
def Afk(c:Array Value)(o n:Nat):List Value:=(c.toList.drop o).take n
def RC(F:Fz):(t:Ty)→t.den→List Value→Prop
 | .bool,v,cs=>cs=[.bool v]
 | .int k,v,cs=>cs=[.int k v]
 | .str,v,cs=>cs=[.string ⟨(v:List UInt8).toArray⟩]
 | .pair a b,v,cs=>∃c d,cs=c++d∧RC F a v.1 c∧RC F b v.2 d
 | .list t,v,cs=>∃A cap,cs=[.slice A (List.length v) cap]∧List.length v≤cap∧(A=none→cap=0)∧
   (0<List.length v→∃b o c T fr,A=some ⟨b,o,none⟩∧F b=some (.cells c T fr)∧o+List.length v*t.size≤c.size∧
    ∀i,i<List.length v→RC F t (List.getD v i t.dflt) (Afk c (o+i*t.size) t.size))
theorem RC.length{F:Fz}:∀{t:Ty} {v:t.den} {cs:List Value},RC F t v cs→cs.length=t.size
 | .bool,_,_,h=>by simp only[RC]at h;subst h;rfl
 | .int _,_,_,h=>by simp only[RC]at h;subst h;rfl
 | .str,_,_,h=>by simp only[RC]at h;subst h;rfl
 | .list _,_,_,h=>by obtain⟨A,cap,rfl,_⟩:=h;rfl
 | .pair a b,v,cs,h=>by
  obtain⟨c,d,rfl,hc,hd⟩:=h
  simp[Ty.size,RC.length hc,RC.length hd]
theorem RC.mono{F F':Fz}(hF:∀b o,F b=some o→F' b=some o):∀{t:Ty} {v:t.den} {cs:List Value},RC F t v cs→RC F' t v cs
 | .bool,_,_,h=>h
 | .int _,_,_,h=>h
 | .str,_,_,h=>h
 | .list t,v,cs,h=>by
  obtain⟨A,cap,rfl,hl,hn,hc⟩:=h
  refine⟨A,cap,rfl,hl,hn,fun hp=>?_⟩
  obtain⟨b,o,c,T,fr,rfl,hb,ho,hr⟩:=hc hp
  exact⟨b,o,c,T,fr,rfl,hF _ _ hb,ho,fun i hi=>(hr i hi).mono hF⟩
 | .pair a b,v,cs,h=>by
  obtain⟨c,d,rfl,hc,hd⟩:=h
  exact⟨c,d,rfl,hc.mono hF,hd.mono hF⟩
theorem RC.of_flat{F F':Fz}:∀{t:Ty} {v:t.den} {cs:List Value},t.flat=true→RC F t v cs→RC F' t v cs
 | .bool,_,_,_,h=>h
 | .int _,_,_,_,h=>h
 | .str,_,_,_,h=>h
 | .list _,_,_,hf,_=>by simp[Ty.flat]at hf
 | .pair a b,v,cs,hf,h=>by
  simp only[Ty.flat,Bool.and_eq_true]at hf
  obtain⟨c,d,rfl,hc,hd⟩:=h
  exact⟨c,d,rfl,hc.of_flat hf.1,hd.of_flat hf.2⟩
theorem Ty.size_pos:∀t:Ty,0<t.size
 | .bool | .int _ | .str | .list _=>by simp[Ty.size]
 | .pair a b=>by have:=a.size_pos;simp[Ty.size];omega
def Aau.isMap:Aau→Bool
 | .amap _ _ _ _=>true
 | .fmap _ _ _=>true
 | .pmap _ _ _ _=>true
 | _=>false
def PoR(bs:List Nat):Option Nat→Value→Prop
 |none,r=>r = .pointer none
 |some k,r=>∃bb,bs[k]? = some bb∧r = .pointer (some ⟨bb,0,none⟩)
def RA(F:Fz)(ρ:Rho)(hp:Aam):Apg→Value→Prop
 | .undef,_=>True
 | .val t v,r=>RC F t v [r]
 | .nilsl,r=>r = .slice none 0 0
 | .ecap,r=>∃A,r = .slice A 0 0
 | .nvl t xs,r=>RC F (.list t) xs [r]∧∀l c,r≠.slice none l c
 | .nilptr,r=>r = .pointer none
 | .nilmap,r=>r = .map none
 | .nilfn,r=>r = .nilFunc
 | .nilif,r=>r = .nilIface
 | .slf id ver,r=>∃b,hp id=some b∧ver≤b.ver∧∃A l c,r = .slice A l c∧(b.ver=ver→match b with
   | .row _ _ _ _ xs=>l=xs.length∧c=(ρ id).cap∧∀bb,(ρ id).bs=[bb]→A=some ⟨bb,0,none⟩
   | _=>False)
 | .sl id ver off len,r=>∃b,hp id=some b∧ver≤b.ver∧∃A l c,r = .slice A l c∧(b.ver=ver→match b with
   | .row _ t _ _ xs=>l=len∧off+len≤xs.length∧xs.length≤off+c∧off+c≤(ρ id).cap∧
     ∀bb,(ρ id).bs=[bb]→c=0∨A=some ⟨bb,off*t.size,none⟩
   | _=>False)
 | .ptr id ver idx fld,r=>∃b,hp id=some b∧ver≤b.ver∧∃ad,r = .pointer (some ad)∧(b.ver=ver→match b with
   | .cells _ _=>idx=0∧∃bb,(ρ id).bs=[bb]∧ad=⟨bb,fld,none⟩
   | .row _ t _ _ xs=>idx<xs.length∧∃bb,(ρ id).bs=[bb]∧ad=⟨bb,idx*t.size+fld,none⟩
   | _=>False)
 | .fptr t xs idx fld,r=>idx<List.length xs∧∃b o c T fr,r = .pointer (some ⟨b,o+fld,none⟩)∧F b=some (.cells c T fr)∧
   o+t.size≤c.size∧RC F t (List.getD xs idx t.dflt) (Afk c o t.size)
 | .mp id,r=>∃b bb,hp id=some b∧b.isMap=true∧(ρ id).bs=[bb]∧r = .map (some bb)
 | .vs id n,r=>∃b,hp id=some b∧∃A l c,r = .slice A l c∧match b with
   | .cells _ _=>l=n∧c=n∧∃bb,(ρ id).bs=[bb]∧A=some ⟨bb,0,none⟩
   | _=>True
 | .pr id k fld,r=>∃T t xs,hp id=some (.pool T t xs)∧∃bb,(ρ id).bs[k]? = some bb∧r = .pointer (some ⟨bb,fld,none⟩)
 | .po id o,r=>(o.isSome=true→∃T t xs,hp id=some (.pool T t xs))∧PoR (ρ id).bs o r
def Abm(F:Fz)(ρ:Rho)(hp:Aam):Aby→Value→Prop
 | .a x,r=>RA F ρ hp x r
 | .func f caps,r=>∃cs:Array Value,r = .func (.func f) #[] cs∧Abs (RA F ρ hp) caps cs.toList
 | .meth f rs,r=>∃cs:Array Value,r = .func (.func f) cs #[]∧Abs (RA F ρ hp) rs cs.toList
 | .iface T cs,r=>∃v:Value,r = .iface T v∧Abs (RA F ρ hp) cs v.cells.toList
def RV1(F:Fz)(ρ:Rho)(hp:Aam):V1→Value→Prop
 | .one c,r=>Abm F ρ hp c r
 | .agg cs,r=>∃rs:Array Value,r = .agg rs∧Abs (Abm F ρ hp) cs rs.toList
def RV(F:Fz)(ρ:Rho)(hp:Aam):AV→Value→Prop
 | .v x,r=>RV1 F ρ hp x r
 | .tup xs,r=>∃rs:Array Value,r = .tuple rs∧Abs (RV1 F ρ hp) xs rs.toList
 | .z n v,r=>r.cells=Array.replicate n v
theorem RV.undef{F:Fz}{ρ:Rho}{hp:Aam}{r:Value}:RV F ρ hp (.at .undef) r:=trivial
def NF(fr:Nat×Nat)(n:Nat):Prop:=∀o,o<n→¬(fr.1≤o∧o<fr.2)
def BR(F:Fz)(ρ:Rho)(hp:Aam)(W:World)(id:Nat):Aau→Prop
 | .cells T cs=>∃bb rs fr,(ρ id).bs=[bb]∧W.heap[bb]? = some (.cells rs T fr)∧NF fr rs.size∧Abs (Abm F ρ hp) cs rs.toList
 | .row E t _ fz xs=>((ρ id).bs=[]∧xs=[]∧(ρ id).cap=0)∨
   ∃bb rs fr,(ρ id).bs=[bb]∧W.heap[bb]? = some (.cells rs E fr)∧NF fr rs.size∧rs.size=(ρ id).cap*t.size∧xs.length≤(ρ id).cap∧
    (∀i,i<xs.length→RC F t (xs.getD i t.dflt) (Afk rs (i*t.size) t.size))∧(fz=true→F bb=some (.cells rs E fr))
 | .amap _ kt et m=>∃bb es clk,(ρ id).bs=[bb]∧W.heap[bb]? = some (.map es clk)∧
   Abs (fun (kv:kt.den×et.den) (e:MapEntry)=>RC F kt kv.1 [e.key]∧RC F et kv.2 [e.val]) m es.toList
 | .fmap _ k m=>∃bb es clk,(ρ id).bs=[bb]∧W.heap[bb]? = some (.map es clk)∧
   Abs (fun (kv:Int×Aby) (e:MapEntry)=>e.key = .int k kv.1∧Abm F ρ hp kv.2 e.val) m es.toList
 | .pool T t xs=>(ρ id).bs.Nodup∧(ρ id).bs.length=xs.length∧∀(k:Nat) (x:t.den×Option Nat),xs[k]? = some x→∃(bb:Nat) (rs:List Value) (fr:Nat×Nat) (v:Value),(ρ id).bs[k]? = some bb∧W.heap[bb]? = some (.cells (rs++[v]).toArray T fr)∧NF fr (rs.length+1)∧
   RC F t x.1 rs∧PoR (ρ id).bs x.2 v
 | .pmap _ k pid m=>(∃T t xs,hp pid=some (.pool T t xs))∧∃bb es clk,(ρ id).bs=[bb]∧W.heap[bb]? = some (.map es clk)∧
   Abs (fun (kv:Int×Nat) (e:MapEntry)=>e.key = .int k kv.1∧PoR (ρ pid).bs (some kv.2) e.val) m es.toList
def Aau.fz:Aau→Bool
 | .row _ _ _ fz _=>fz
 | _=>false
def Own(hp:Aam)(ρ:Rho)(b:Nat):Prop:=∃id blk,hp id=some blk∧blk.fz=false∧b∈(ρ id).bs
structure Abx(F:Fz)(ρ:Rho)(hp:Aam)(W:World):Prop where
 blocks:∀id b,hp id=some b→BR F ρ hp W id b
 inj:∀i j x y b,hp i=some x→hp j=some y→b∈(ρ i).bs→b∈(ρ j).bs→i=j
 fz:∀b o,F b=some o→W.heap[b]? = some o
 apart:∀b,Own hp ρ b→F b=none
structure Ax5(n:Nat)(F:Fz)(ρ:Rho)(st:ASt)(a:Act)(W:World):Prop where
 size:a.tmps.size=n
 env:∀s,RV F ρ st.hp (st.env s) (a.tmps.getD s undef)
 heap:Abx F ρ st.hp W
def Evo(grow:Bool)(f f':Awd):Aau→Aau→Prop
 | .cells T cs,.cells T' cs'=>T=T'∧cs.length=cs'.length∧f'=f
 | .row E t _ fz xs,.row E' t' _ fz' xs'=>E=E'∧t=t'∧fz=fz'∧(grow=false→xs'.length=xs.length∧f'=f)
 | .amap T kt et _,.amap T' kt' et' _=>T=T'∧kt=kt'∧et=et'∧f'=f
 | .fmap T k _,.fmap T' k' _=>T=T'∧k=k'∧f'=f
 | .pool T t _,.pool T' t' _=>T=T'∧t=t'∧∀(k bb:Nat),f.bs[k]? = some bb→f'.bs[k]? = some bb
 | .pmap T k pid _,.pmap T' k' pid' _=>T=T'∧k=k'∧pid=pid'∧f'=f
 | _,_=>False
theorem Evo.refl(g:Bool)(f:Awd)(b:Aau):Evo g f f b b:=by cases b<;>simp[Evo]
theorem Evo.trans{g:Bool}{f f' f'':Awd}{a b c:Aau}(h:Evo g f f' a b)(k:Evo g f' f'' b c):Evo g f f'' a c:=by
 cases a<;>cases b<;>simp only[Evo]at h<;>cases c<;>simp only[Evo]at k ⊢
 ·obtain⟨rfl,h1,rfl⟩:=h;obtain⟨rfl,k1,rfl⟩:=k;exact⟨rfl,h1.trans k1,rfl⟩
 ·obtain⟨rfl,rfl,rfl,h1⟩:=h;obtain⟨rfl,rfl,rfl,k1⟩:=k
  exact⟨rfl,rfl,rfl,fun hg=>⟨(k1 hg).1.trans (h1 hg).1,(k1 hg).2.trans (h1 hg).2⟩⟩
 ·obtain⟨rfl,rfl,rfl,rfl⟩:=h;obtain⟨rfl,rfl,rfl,rfl⟩:=k;exact⟨rfl,rfl,rfl,rfl⟩
 ·obtain⟨rfl,rfl,rfl⟩:=h;obtain⟨rfl,rfl,rfl⟩:=k;exact⟨rfl,rfl,rfl⟩
 ·obtain⟨rfl,rfl,h1⟩:=h;obtain⟨rfl,rfl,k1⟩:=k;exact⟨rfl,rfl,fun i b e=>k1 i b (h1 i b e)⟩
 ·obtain⟨rfl,rfl,rfl,rfl⟩:=h;obtain⟨rfl,rfl,rfl,rfl⟩:=k;exact⟨rfl,rfl,rfl,rfl⟩
structure Ext(g:List Bool)(F:Fz)(ρ:Rho)(hp:Aam)(W:World)(F':Fz)(ρ':Rho)(hp':Aam)(W':World):Prop where
 os:W'.os=W.os
 tape:W'.tape=W.tape
 output:W'.output=W.output
 size:W.heap.size≤W'.heap.size
 frame:∀b,b<W.heap.size→¬Own hp ρ b→W'.heap[b]? = W.heap[b]?
 prov:∀b,Own hp' ρ' b→Own hp ρ b∨W.heap.size≤b
 fmono:∀b o,F b=some o→F' b=some o
 fprov:∀b,F' b≠none→F b≠none∨Own hp ρ b∨W.heap.size≤b
 evo:∀id,id<32→∀blk,hp id=some blk→∃blk',hp' id=some blk'∧Evo (g.getD id false) (ρ id) (ρ' id) blk blk'
 keep:Aqs g=true→∀id,id<32→∀blk,hp id=some blk→ρ' id=ρ id∧∀b,b∈(ρ id).bs→W'.heap[b]? = W.heap[b]?
theorem Ext.refl(g:List Bool)(F:Fz)(ρ:Rho)(hp:Aam)(W:World):Ext g F ρ hp W F ρ hp W :=
 ⟨rfl,rfl,rfl,Nat.le_refl _,fun _ _ _=>rfl,fun _ h=>.inl h,fun _ _ h=>h,fun _ h=>.inl h,fun _ _ b hb=>⟨b,hb,Evo.refl _ _ _⟩,fun _ _ _ _ _=>⟨rfl,fun _ _=>rfl⟩⟩
theorem Ext.trans{g:List Bool}{F F' F'':Fz}{ρ ρ' ρ'':Rho}{hp hp' hp'':Aam}{W W' W'':World}(h:Ext g F ρ hp W F' ρ' hp' W')(k:Ext g F' ρ' hp' W' F'' ρ'' hp'' W''):Ext g F ρ hp W F'' ρ'' hp'' W'':=by
 refine⟨k.os.trans h.os,k.tape.trans h.tape,k.output.trans h.output,Nat.le_trans h.size k.size,fun b hb ho=>?_,fun b hb=>?_,fun b o hb=>k.fmono b o (h.fmono b o hb),fun b hb=>?_,fun id hid blk hblk=>?_,fun hr id hid blk hblk=>?_⟩
 ·rw[k.frame b (Nat.lt_of_lt_of_le hb h.size) (fun hc=>(h.prov b hc).elim ho (by omega)),h.frame b hb ho]
 ·rcases k.prov b hb with h1|h1
  ·exact h.prov b h1
  ·exact .inr (Nat.le_trans h.size h1)
 ·rcases k.fprov b hb with h1|h1|h1
  ·exact h.fprov b h1
  ·exact .inr (h.prov b h1)
  ·exact .inr (.inr (Nat.le_trans h.size h1))
 ·obtain⟨b1,hb1,e1⟩:=h.evo id hid blk hblk
  obtain⟨b2,hb2,e2⟩:=k.evo id hid b1 hb1
  exact⟨b2,hb2,e1.trans e2⟩
 ·obtain⟨b1,hb1,_⟩:=h.evo id hid blk hblk
  obtain⟨p1,p2⟩:=h.keep hr id hid blk hblk
  obtain⟨q1,q2⟩:=k.keep hr id hid b1 hb1
  exact⟨q1.trans p1,fun b hb=>(q2 b (by rw[p1];exact hb)).trans (p2 b hb)⟩
def Ex.to:Ex→Exit
 | .normal=>.normal
 | .exit id=>.exit id
 | .ret=>.ret
def Alh(n:Nat)(g:List Bool)(F:Fz)(ρ:Rho)(hp:Aam)(a:Act)(W:World)(st':ASt)(a':Act)(W':World):Prop :=
 a'.defers=a.defers∧∃F' ρ',Ax5 n F' ρ' st' a' W'∧Ext g F ρ hp W F' ρ' st'.hp W'
def C3z(P:Program)(g:List Bool)(f:FuncId)(args:List AV)(bl:List Aau)(v:AV)(bl' nw:List Aau):Prop :=
 ∀F ρ W rargs,Abs (RV F ρ (Af4 bl [])) args rargs.toList→Abx F ρ (Af4 bl []) W→
  Calls P f rargs W fun e W'=>∃r F' ρ',e = .returned r∧RV F' ρ' (Af4 bl' nw) v r∧Abx F' ρ' (Af4 bl' nw) W'∧
   Ext g F ρ (Af4 bl []) W F' ρ' (Af4 bl' nw) W'
def Azb(P:Program)(f:FuncId)(s:Aad):Prop :=
 ∀R args bl (K:AV→List Aau→List Aau→Option R) r,s.run R args bl K=some r→
  ∃v bl' nw,K v bl' nw=some r∧C3z P s.grow f args bl v bl' nw
def Aif(g:List Bool)(F:Fz)(ρ:Rho)(hp:Aam)(W:World)(hp':Aam)(v:AV)(r:Value)(W':World):Prop :=
 ∃F' ρ',Abx F' ρ' hp' W'∧(∀x y,RV F ρ hp x y→RV F' ρ' hp' x y)∧RV F' ρ' hp' v r∧Ext g F ρ hp W F' ρ' hp' W'
theorem Aif.val{g:List Bool}{F:Fz}{ρ:Rho}{hp:Aam}{W:World}{v:AV}{r:Value}(h:Abx F ρ hp W)(hv:RV F ρ hp v r) :
  Aif g F ρ hp W hp v r W:=⟨F,ρ,h,fun _ _ h=>h,hv,Ext.refl _ _ _ _ _⟩
def OpS(P:Program)(n:Nat)(g:List Bool)(o:Oper)(st st':ASt):Prop :=
 ∀F ρ a W,Ax5 n F ρ st a W→∀(K:Act→World→Prop) (Q:Exit→Act→World→Prop),
  (∀a' W',Alh n g F ρ st.hp a W st' a' W'→K a' W')→o.wp P a W K Q
theorem Ax5.put{n:Nat}{F F':Fz}{ρ ρ':Rho}{st:ASt}{a:Act}{W W':World}{hp':Aam}{d:Option Tmp}{v:AV}{r:Value}(h:Ax5 n F ρ st a W)(hd:∀t,d=some t→t<n)(hh:Abx F' ρ' hp' W')(hm:∀x y,RV F ρ st.hp x y→RV F' ρ' hp' x y)(hv:RV F' ρ' hp' v r) :
  Ax5 n F' ρ' (ASt.set ⟨st.env,hp'⟩ d v) (a.put d r) W':=by
 cases d with
 |none=>exact⟨h.size,fun s=>hm _ _ (h.env s),hh⟩
 |some t=>
  refine⟨by simp[Act.put,h.size],fun s=>?_,hh⟩
  have ht:=hd t rfl
  simp only[ASt.set,Act.put]
  by_cases hs:s=t
  ·subst hs
   have:Nat.beq s s=true:=by simp
   rw[this]
   have hlt:s<a.tmps.size:=by rw[h.size];exact ht
   simpa [Array.getD_eq_getD_getElem?,Array.getElem?_setIfInBounds,hlt]using hv
  ·have:Nat.beq s t=false:=by cases h:Nat.beq s t with|false=>rfl|true=>exact absurd (Nat.eq_of_beq_eq_true h) hs
   rw[this]
   have e:(a.tmps.setIfInBounds t r).getD s undef=a.tmps.getD s undef:=by
    simp[Array.getD_eq_getD_getElem?,Array.getElem?_setIfInBounds_ne (Ne.symm hs)]
   rw[e]
   exact hm _ _ (h.env s)
theorem Alh.of_good{n:Nat}{g:List Bool}{F:Fz}{ρ:Rho}{st:ASt}{a:Act}{W W':World}{hp':Aam}{d:Option Tmp}{v:AV}{r:Value}(h:Ax5 n F ρ st a W)(hd:∀t,d=some t→t<n)(hg:Aif g F ρ st.hp W hp' v r W') :
  Alh n g F ρ st.hp a W (ASt.set ⟨st.env,hp'⟩ d v) (a.put d r) W':=by
 obtain⟨F',ρ',hh,hm,hv,he⟩:=hg
 refine⟨by cases d<;>rfl,F',ρ',h.put hd hh hm hv,?_⟩
 have:(ASt.set ⟨st.env,hp'⟩ d v).hp=hp':=by cases d<;>rfl
 rw[this];exact he
end
end Go.AX
namespace Go.AX
noncomputable section
def Ch7(f:Awd)(b:Aau)(f':Awd)(b':Aau):Prop:=match b with
 | .pool _ _ _=>(match b' with | .pool _ _ _=>∀(k bb:Nat),f.bs[k]? = some bb→f'.bs[k]? = some bb | _=>False)
 | _=>True
theorem Ch7.trans{f f' f'':Awd}{a b c:Aau}(h:Ch7 f a f' b)(k:Ch7 f' b f'' c):Ch7 f a f'' c:=by
 cases a<;>try trivial
 cases b<;>try exact h.elim
 cases c<;>try exact k.elim
 exact fun i bb e=>k i bb (h i bb e)
def Aml(f:Awd)(b:Aau)(f':Awd)(b':Aau):Prop :=
 b.ver≤b'.ver∧(b.isMap=true→b'.isMap=true∧f'=f)∧(b'.ver=b.ver→match b,b' with
  | .cells _ _,.cells _ _=>f'=f
  | .row _ t _ _ xs,.row _ t' _ _ xs'=>t=t'∧xs'.length=xs.length∧f'=f
  | .amap _ _ _ _,.amap _ _ _ _=>f'=f
  | .fmap _ _ _,.fmap _ _ _=>f'=f
  | .cells _ _,.row _ _ _ _ xs'=>f'.bs=f.bs∧0<xs'.length
  | .pool _ _ _,.pool _ _ _=>True
  | .pmap _ _ _ _,.pmap _ _ _ _=>f'=f
  | _,_=>False)∧Ch7 f b f' b'
theorem Aml.refl(f:Awd)(b:Aau):Aml f b f b:=⟨Nat.le_refl _,fun h=>⟨h,rfl⟩,fun _=>by cases b<;>simp,by cases b<;>first|trivial|exact fun _ _ h=>h⟩
theorem Aml.pool{f f':Awd}{T:TypeId}{t:Ty}{xs:List (t.den×Option Nat)}{b':Aau}(h:Aml f (.pool T t xs) f' b'):∃T' t' xs',b' = .pool T' t' xs'∧∀(k bb:Nat),f.bs[k]? = some bb→f'.bs[k]? = some bb:=by
 have h:=h.2.2.2
 unfold Ch7 at h
 cases b' with
 |pool T' t' xs'=>exact⟨T',t',xs',rfl,h⟩
 | _=>exact h.elim
theorem PoR.mono{bs bs':List Nat}(h:∀(k bb:Nat),bs[k]? = some bb→bs'[k]? = some bb):∀{o:Option Nat} {r:Value},PoR bs o r→PoR bs' o r
 |none,_,hr=>hr
 |some _,_,⟨bb,h1,h2⟩=>⟨bb,h _ _ h1,h2⟩
theorem RA.mono{F F':Fz}{ρ ρ':Rho}{hp hp':Aam}(hF:∀b o,F b=some o→F' b=some o)(hk:∀id b,hp id=some b→∃b',hp' id=some b'∧Aml (ρ id) b (ρ' id) b'):∀{x:Apg} {r:Value},RA F ρ hp x r→RA F' ρ' hp' x r
 | .undef,_,_=>trivial
 | .val _ _,_,h=>RC.mono hF h
 | .nilsl,_,h=>h
 | .ecap,_,h=>h
 | .nvl _ _,_,h=>⟨RC.mono hF h.1,h.2⟩
 | .nilptr,_,h=>h
 | .nilmap,_,h=>h
 | .nilfn,_,h=>h
 | .nilif,_,h=>h
 | .slf id ver,r,h=>by
  obtain⟨b,hb,hv,A,l,c,rfl,hc⟩:=h
  obtain⟨b',hb',hle,_,hsh,_⟩:=hk id b hb
  refine⟨b',hb',Nat.le_trans hv hle,A,l,c,rfl,fun e=>?_⟩
  have e1:b.ver=ver:=by omega
  have hs:=hsh (by omega)
  have hc:=hc e1
  cases b<;>cases b'<;>simp only at hs hc ⊢<;>try exact hc.elim
  obtain⟨rfl,hl,hf⟩:=hs
  rw[hf,hl];exact hc
 | .sl id ver off len,r,h=>by
  obtain⟨b,hb,hv,A,l,c,rfl,hc⟩:=h
  obtain⟨b',hb',hle,_,hsh,_⟩:=hk id b hb
  refine⟨b',hb',Nat.le_trans hv hle,A,l,c,rfl,fun e=>?_⟩
  have e1:b.ver=ver:=by omega
  have hs:=hsh (by omega)
  have hc:=hc e1
  cases b<;>cases b'<;>simp only at hs hc ⊢<;>try exact hc.elim
  obtain⟨rfl,hl,hf⟩:=hs
  rw[hf,hl];exact hc
 | .ptr id ver idx fld,r,h=>by
  obtain⟨b,hb,hv,ad,rfl,hc⟩:=h
  obtain⟨b',hb',hle,_,hsh,_⟩:=hk id b hb
  refine⟨b',hb',Nat.le_trans hv hle,ad,rfl,fun e=>?_⟩
  have e1:b.ver=ver:=by omega
  have hs:=hsh (by omega)
  have hc:=hc e1
  cases b<;>cases b'<;>simp only at hs hc ⊢<;>try exact hc.elim
  ·rw[hs];exact hc
  ·obtain⟨rfl,bb,h1,rfl⟩:=hc
   exact⟨hs.2,bb,by rw[hs.1];exact h1,by simp⟩
  ·obtain⟨rfl,hl,hf⟩:=hs
   rw[hf,hl];exact hc
 | .fptr t xs idx fld,r,h=>by
  obtain⟨hi,b,o,c,T,fr,rfl,hb,ho,hr⟩:=h
  exact⟨hi,b,o,c,T,fr,rfl,hF _ _ hb,ho,hr.mono hF⟩
 | .mp id,r,h=>by
  obtain⟨b,bb,hb,hi,hbs,rfl⟩:=h
  obtain⟨b',hb',hle,hm,hsh,_⟩:=hk id _ hb
  obtain⟨h1,h2⟩:=hm hi
  exact⟨_,bb,hb',h1,by rw[h2];exact hbs,rfl⟩
 | .vs id n,r,h=>by
  obtain⟨b,hb,A,l,c,rfl,hc⟩:=h
  obtain⟨b',hb',hle,hm,hsh,_⟩:=hk id b hb
  refine⟨b',hb',A,l,c,rfl,?_⟩
  cases b'<;>try trivial
  have e:b.ver=0:=Nat.le_zero.1 hle
  replace hsh:=hsh e.symm
  cases b<;>simp only at hsh hc
  simp only[hsh]
  exact hc
 | .pr id k fld,r,h=>by
  obtain⟨T,t,xs,hb,bb,h1,rfl⟩:=h
  obtain⟨b',hb',hK⟩:=hk id _ hb
  obtain⟨T',t',xs',rfl,hbs⟩:=hK.pool
  exact⟨T',t',xs',hb',bb,hbs _ _ h1,rfl⟩
 | .po id none,r,h=>⟨fun e=>(by cases e),h.2⟩
 | .po id (some k),r,h=>by
  obtain⟨h0,h1⟩:=h
  obtain⟨T,t,xs,hb⟩:=h0 rfl
  obtain⟨b',hb',hK⟩:=hk id _ hb
  obtain⟨T',t',xs',rfl,hbs⟩:=hK.pool
  exact⟨fun _=>⟨T',t',xs',hb'⟩,h1.mono hbs⟩
theorem Abm.mono{F F':Fz}{ρ ρ':Rho}{hp hp':Aam}(hF:∀b o,F b=some o→F' b=some o)(hk:∀id b,hp id=some b→∃b',hp' id=some b'∧Aml (ρ id) b (ρ' id) b'){x:Aby}{r:Value}(h:Abm F ρ hp x r):Abm F' ρ' hp' x r:=by
 cases x with
 |a x=>exact RA.mono hF hk h
 |func f caps=>obtain⟨cs,rfl,h⟩:=h;exact⟨cs,rfl,h.mono fun _ _=>RA.mono hF hk⟩
 |meth f caps=>obtain⟨cs,rfl,h⟩:=h;exact⟨cs,rfl,h.mono fun _ _=>RA.mono hF hk⟩
 |iface T cs=>obtain⟨v,rfl,h⟩:=h;exact⟨v,rfl,h.mono fun _ _=>RA.mono hF hk⟩
theorem RV1.mono{F F':Fz}{ρ ρ':Rho}{hp hp':Aam}(hF:∀b o,F b=some o→F' b=some o)(hk:∀id b,hp id=some b→∃b',hp' id=some b'∧Aml (ρ id) b (ρ' id) b'){x:V1}{r:Value}(h:RV1 F ρ hp x r):RV1 F' ρ' hp' x r:=by
 cases x with
 |one c=>exact Abm.mono hF hk h
 |agg cs=>obtain⟨rs,rfl,h⟩:=h;exact⟨rs,rfl,h.mono fun _ _=>Abm.mono hF hk⟩
theorem RV.mono{F F':Fz}{ρ ρ':Rho}{hp hp':Aam}(hF:∀b o,F b=some o→F' b=some o)(hk:∀id b,hp id=some b→∃b',hp' id=some b'∧Aml (ρ id) b (ρ' id) b'){x:AV}{r:Value}(h:RV F ρ hp x r):RV F' ρ' hp' x r:=by
 cases x with
 |v x=>exact RV1.mono hF hk h
 |tup xs=>obtain⟨rs,rfl,h⟩:=h;exact⟨rs,rfl,h.mono fun _ _=>RV1.mono hF hk⟩
 |z n v=>exact h
theorem BR.mono{F F':Fz}{ρ ρ':Rho}{hp hp':Aam}{W W':World}{id:Nat}{b:Aau}(hF:∀b o,F b=some o→F' b=some o)(hk:∀id b,hp id=some b→∃b',hp' id=some b'∧Aml (ρ id) b (ρ' id) b')(hρ:ρ' id=ρ id)(hW:∀k,k∈(ρ id).bs→W'.heap[k]? = W.heap[k]?)(h:BR F ρ hp W id b):BR F' ρ' hp' W' id b:=by
 cases b with
 |cells T cs=>
  obtain⟨bb,rs,fr,h1,h2,h3,h4⟩:=h
  exact⟨bb,rs,fr,by rw[hρ];exact h1,by rw[hW bb (by simp[h1])];exact h2,h3,h4.mono fun _ _=>Abm.mono hF hk⟩
 |row E t ver fz xs=>
  rcases h with ⟨h1,h2,h3⟩|⟨bb,rs,fr,h1,h2,h3,h4,h5,h6,h7⟩
  ·exact .inl ⟨by rw[hρ];exact h1,h2,by rw[hρ];exact h3⟩
  ·exact .inr ⟨bb,rs,fr,by rw[hρ];exact h1,by rw[hW bb (by simp[h1])];exact h2,h3,by rw[hρ];exact h4,by rw[hρ];exact h5,fun i hi=>(h6 i hi).mono hF,fun e=>hF _ _ (h7 e)⟩
 |amap T kt et m=>
  obtain⟨bb,es,clk,h1,h2,h3⟩:=h
  exact⟨bb,es,clk,by rw[hρ];exact h1,by rw[hW bb (by simp[h1])];exact h2,h3.mono fun _ _ ⟨p,q⟩=>⟨p.mono hF,q.mono hF⟩⟩
 |fmap T k m=>
  obtain⟨bb,es,clk,h1,h2,h3⟩:=h
  exact⟨bb,es,clk,by rw[hρ];exact h1,by rw[hW bb (by simp[h1])];exact h2,h3.mono fun _ _ ⟨p,q⟩=>⟨p,Abm.mono hF hk q⟩⟩
 |pool T t xs=>
  obtain⟨h1,h2,h3⟩:=h
  refine⟨by rw[hρ];exact h1,by rw[hρ];exact h2,fun k x hx=>?_⟩
  obtain⟨bb,rs,fr,v,g1,g2,g3,g4,g5⟩:=h3 k x hx
  exact⟨bb,rs,fr,v,by rw[hρ];exact g1,by rw[hW bb (List.mem_of_getElem? g1)];exact g2,g3,g4.mono hF,by rw[hρ];exact g5⟩
 |pmap T k pid m=>
  obtain⟨⟨Tp,tp,xp,hp0⟩,bb,es,clk,h1,h2,h3⟩:=h
  obtain⟨b',hb',hK⟩:=hk pid _ hp0
  obtain⟨T',t',xs',rfl,hbs⟩:=hK.pool
  exact⟨⟨T',t',xs',hb'⟩,bb,es,clk,by rw[hρ];exact h1,by rw[hW bb (by simp[h1])];exact h2,h3.mono fun _ _ ⟨p,q⟩=>⟨p,q.mono hbs⟩⟩
theorem A4p{a b:Nat}(h:a≠b):Nat.beq a b=false:=by
 cases e:Nat.beq a b with
 |false=>rfl
 |true=>exact absurd (Nat.eq_of_beq_eq_true e) h
theorem Bg2(a:Nat):Nat.beq a a=true:=by simp
theorem Aa8{a b:Nat}(h:Nat.beq a b=true):a=b:=Nat.eq_of_beq_eq_true h
@[simp] theorem Afw(hp:Aam)(id:Nat)(b:Aau):Aht hp id b id=some b:=by simp[Aht]
theorem Ad6{hp:Aam}{id j:Nat}{b:Aau}(h:j≠id):Aht hp id b j=hp j:=by simp[Aht,A4p h]
theorem BR.lt{F:Fz}{ρ:Rho}{hp:Aam}{W:World}{id:Nat}{b:Aau}(h:BR F ρ hp W id b){k:Nat}(hk:k∈(ρ id).bs):k<W.heap.size:=by
 have lt:∀{o:Obj} {bb:Nat},W.heap[bb]? = some o→bb<W.heap.size:=fun h=>by
  rcases Nat.lt_or_ge _ W.heap.size with h' |h'
  ·exact h'
  ·rw[Array.getElem?_eq_none h']at h;cases h
 cases b with
 |cells T cs=>obtain⟨bb,rs,fr,h1,h2,_⟩:=h;rw[h1]at hk;simp at hk;subst hk;exact lt h2
 |row E t ver fz xs=>
  rcases h with ⟨h1,_⟩|⟨bb,rs,fr,h1,h2,_⟩
  ·rw[h1]at hk;simp at hk
  ·rw[h1]at hk;simp at hk;subst hk;exact lt h2
 |amap T kt et m=>obtain⟨bb,es,clk,h1,h2,_⟩:=h;rw[h1]at hk;simp at hk;subst hk;exact lt h2
 |fmap T k m=>obtain⟨bb,es,clk,h1,h2,_⟩:=h;rw[h1]at hk;simp at hk;subst hk;exact lt h2
 |pool T t xs=>
  obtain⟨_,h2,h3⟩:=h
  obtain⟨i,hi,rfl⟩:=List.getElem_of_mem hk
  obtain⟨bb,rs,fr,v,g1,g2,_⟩:=h3 i xs[i] (List.getElem?_eq_getElem (by omega))
  rw[List.getElem?_eq_getElem hi]at g1
  cases g1
  exact lt g2
 |pmap T k pid m=>obtain⟨_,bb,es,clk,h1,h2,_⟩:=h;rw[h1]at hk;simp at hk;subst hk;exact lt h2
theorem Abx.flt{F:Fz}{ρ:Rho}{hp:Aam}{W:World}(h:Abx F ρ hp W){b:Nat}(hb:F b≠none):b<W.heap.size:=by
 cases e:F b with
 |none=>exact absurd e hb
 |some o=>
  have:=h.fz b o e
  rcases Nat.lt_or_ge b W.heap.size with h' |h'
  ·exact h'
  ·rw[Array.getElem?_eq_none h']at this;cases this
def Bk5(ρ:Rho)(id:Nat)(f:Awd):Rho:=fun i=>if i=id then f else ρ i
@[simp] theorem Bb5(ρ:Rho)(id:Nat)(f:Awd):Bk5 ρ id f id=f:=by simp[Bk5]
theorem At5{ρ:Rho}{id j:Nat}{f:Awd}(h:j≠id):Bk5 ρ id f j=ρ j:=by simp[Bk5,h]
structure Ayk(g:List Bool)(F:Fz)(ρ:Rho)(hp:Aam)(W:World)(id:Nat)(f:Awd)(b:Aau)(W':World):Prop where
 os:W'.os=W.os
 tape:W'.tape=W.tape
 output:W'.output=W.output
 size:W.heap.size≤W'.heap.size
 frame:∀k,k<W.heap.size→(∀b0,hp id=some b0→k∉(ρ id).bs)→W'.heap[k]? = W.heap[k]?
 prov:∀k,k∈f.bs→(∃b0,hp id=some b0∧k∈(ρ id).bs)∨W.heap.size≤k
 old:∀b0,hp id=some b0→b0.fz=false∧Aml (ρ id) b0 f b∧(id<32→Evo (g.getD id false) (ρ id) f b0 b)
 new:hp id=none→32≤id
 fz:b.fz=false
 ro:Aqs g=true→32≤id
theorem Ayk.keep{g:List Bool}{F:Fz}{ρ:Rho}{hp:Aam}{W W':World}{id:Nat}{f:Awd}{b:Aau}(h:Ayk g F ρ hp W id f b W') :
  ∀i x,hp i=some x→∃y,Aht hp id b i=some y∧Aml (ρ i) x (Bk5 ρ id f i) y:=by
 intro i x hx
 by_cases e:i=id
 ·subst e;exact⟨b,by simp,by simpa using (h.old x hx).2.1⟩
 ·exact⟨x,by rw[Ad6 e];exact hx,by rw[At5 e];exact Aml.refl _ _⟩
theorem Ayk.good{g:List Bool}{F:Fz}{ρ:Rho}{hp:Aam}{W W':World}{id:Nat}{f:Awd}{b:Aau}{v:AV}{r:Value}(ho:Abx F ρ hp W)(h:Ayk g F ρ hp W id f b W')(hb:BR F (Bk5 ρ id f) (Aht hp id b) W' id b)(hv:RV F (Bk5 ρ id f) (Aht hp id b) v r) :
  Aif g F ρ hp W (Aht hp id b) v r W':=by
 have hk:=h.keep
 have unown:∀k,F k≠none→∀b0,hp id=some b0→k∉(ρ id).bs:=by
  intro k hk b0 h0 hm
  exact hk (ho.apart k ⟨id,b0,h0,(h.old b0 h0).1,hm⟩)
 refine⟨F,Bk5 ρ id f,⟨?_,?_,?_,?_⟩,fun x y=>RV.mono (fun _ _ h=>h) hk,hv,⟨h.os,h.tape,h.output,h.size,?_,?_,fun _ _ h=>h,fun _ h=>.inl h,?_,?_⟩⟩
 ·intro i x hx
  by_cases e:i=id
  ·subst e;rw[Afw]at hx;cases hx;exact hb
  ·rw[Ad6 e]at hx
   refine BR.mono (fun _ _ h=>h) hk (At5 e) ?_ (ho.blocks i x hx)
   intro k hk'
   refine h.frame k ((ho.blocks i x hx).lt hk') ?_
   intro b0 h0 hm
   exact e (ho.inj i id x b0 k hx h0 hk' hm)
 ·intro i j x y k hx hy hi hj
  by_cases ei:i=id<;>by_cases ej:j=id
  ·rw[ei,ej]
  ·subst ei;rw[Ad6 ej]at hy;rw[At5 ej]at hj;rw[Bb5]at hi
   rcases h.prov k hi with ⟨b0,h0,hm⟩|hm
   ·exact ho.inj i j b0 y k h0 hy hm hj
   ·have:=(ho.blocks j y hy).lt hj;omega
  ·subst ej;rw[Ad6 ei]at hx;rw[At5 ei]at hi;rw[Bb5]at hj
   rcases h.prov k hj with ⟨b0,h0,hm⟩|hm
   ·exact ho.inj i j x b0 k hx h0 hi hm
   ·have:=(ho.blocks i x hx).lt hi;omega
  ·rw[Ad6 ei]at hx;rw[Ad6 ej]at hy;rw[At5 ei]at hi;rw[At5 ej]at hj
   exact ho.inj i j x y k hx hy hi hj
 ·intro k o hf
  rw[h.frame k (ho.flt (by rw[hf];simp)) (unown k (by rw[hf];simp))]
  exact ho.fz k o hf
 ·rintro k ⟨i,x,hx,hz,hm⟩
  by_cases e:i=id
  ·subst e;rw[Bb5]at hm
   rcases h.prov k hm with ⟨b0,h0,hm'⟩|hm'
   ·exact ho.apart k ⟨i,b0,h0,(h.old b0 h0).1,hm'⟩
   ·cases hf:F k with
    |none=>rfl
    |some o=>have:=ho.flt (b:=k) (by rw[hf];simp);omega
  ·rw[Ad6 e]at hx;rw[At5 e]at hm
   exact ho.apart k ⟨i,x,hx,hz,hm⟩
 ·intro k hlt hno
  refine h.frame k hlt ?_
  intro b0 h0 hm
  exact hno ⟨id,b0,h0,(h.old b0 h0).1,hm⟩
 ·rintro k ⟨i,x,hx,hz,hm⟩
  by_cases e:i=id
  ·subst e;rw[Bb5]at hm
   rcases h.prov k hm with ⟨b0,h0,hm'⟩|hm'
   ·exact .inl ⟨i,b0,h0,(h.old b0 h0).1,hm'⟩
   ·exact .inr hm'
  ·rw[Ad6 e]at hx;rw[At5 e]at hm
   exact .inl ⟨i,x,hx,hz,hm⟩
 ·intro i hi x hx
  by_cases e:i=id
  ·subst e;exact⟨b,by simp,by simpa using (h.old x hx).2.2 hi⟩
  ·exact⟨x,by rw[Ad6 e];exact hx,by rw[At5 e];exact Evo.refl _ _ _⟩
 ·intro hr i hi x hx
  have h32:=h.ro hr
  have e:i≠id:=by omega
  refine⟨At5 e,fun k hk'=>h.frame k ((ho.blocks i x hx).lt hk') fun b0 h0 hm=>?_⟩
  exact e (ho.inj i id x b0 k hx h0 hk' hm)
theorem Aif.seq{g:List Bool}{F:Fz}{ρ:Rho}{hp hp1 hp2:Aam}{W W1 W2:World}{v1 v2:AV}{r1 r2:Value}(h:Aif g F ρ hp W hp1 v1 r1 W1)(k:∀F1 ρ1,Abx F1 ρ1 hp1 W1→(∀x y,RV F ρ hp x y→RV F1 ρ1 hp1 x y)→(∀b o,F b=some o→F1 b=some o)→RV F1 ρ1 hp1 v1 r1→Aif g F1 ρ1 hp1 W1 hp2 v2 r2 W2) :
  Aif g F ρ hp W hp2 v2 r2 W2:=by
 obtain⟨F1,ρ1,a1,b1,c1,d1⟩:=h
 obtain⟨F2,ρ2,a2,b2,c2,d2⟩:=k F1 ρ1 a1 b1 d1.fmono c1
 exact⟨F2,ρ2,a2,fun x y h=>b2 x y (b1 x y h),c2,d1.trans d2⟩
theorem Azc(hp:Aam)(l m:List (Nat×Aau)):Aa3 hp (l++m)=Aa3 (Aa3 hp l) m:=by
 induction l generalizing hp with
 |nil=>rfl
 |cons p r ih=>obtain⟨id,b⟩:=p;simp[Aa3,ih]
end
end Go.AX
namespace Go.AX
noncomputable section
def Abz(P:Program):TypeDesc→TD→Prop
 | .bool,.bool=>True
 | .int k,.int k'=>k=k'
 | .string,.str=>True
 | .pointer e,.ptr e'=>e=e'
 | .slice e,.slice e'=>e=e'
 | .array n e,.arr n' e'=>n=n'∧e=e'
 | .map k e,.map k' e'=>k=k'∧e=e'
 | .struct fs,.struct gs=>gs=fs.toList.map fun f=>(f.offset,P.cellsOf f.type,f.type)
 | .func _ _ _,.func=>True
 | .interface _,.iface=>True
 | .struct _,.other | .array _ _,.other=>False
 | _,.other=>True
 | _,_=>False
structure Dcb(P:Program)(T:TypeId)(i:TI):Prop where
 under:∃u,P.underlying T=some u∧Abz P u i.d
 info:∃f,P.info? T=some f∧f.size=i.size∧f.bytes=i.bytes∧∀zs,i.zero=some zs→∃z,f.zero=some z∧z.cells.toList.map A0a=zs∧(i.d.agg=false→z.cells = #[z])
 fields:∀fs,P.underlying T=some (.struct fs)→∀f∈fs.toList,∃fi,P.info? f.type=some fi
 big:∀v n E,i.big=some v→i.d = .arr n E→∃f z,P.info? T=some f∧f.zero=some z∧z.cells=Array.replicate n v
 eqok:i.eqok=true→P.stoodInHeld T=false∧P.eqGuardType P.depth T=false∧∀fs,P.underlying T=some (.struct fs)→∀f∈fs.toList,f.name≠ "_"
def Aj1(P:Program)(tt:TT):Prop:=∀T i,tt.get T=some i→Dcb P T i
section
variable {P:Program}
theorem Aaj{T:TypeId}{u:TypeDesc}(h:P.underlying T=some u)(W:World):(underlying T).run P W = .ok u W:=by
 simp[underlying,h]
theorem Aqu{T:TypeId}{f:TypeInfo}(h:P.info? T=some f)(W:World):(typeInfo T).run P W = .ok f W:=by
 simp[typeInfo,h]
theorem Agq{T:TypeId}{f:TypeInfo}(h:P.info? T=some f)(W:World):(sizeOf T).run P W = .ok f.size W:=by
 simp[sizeOf,Aqu h]
theorem Bt4{T:TypeId}{u:TypeDesc}{d:TD}(h:P.underlying T=some u)(hm:Abz P u d)(W:World):(isAgg T).run P W = .ok d.agg W:=by
 simp only[isAgg,Sem.run_bind,Aaj h,Result.andThen_ok]
 cases u<;>cases d<;>simp[Abz]at hm<;>simp[TD.agg]
theorem Afx(F:Fz)(ρ:Rho)(hp:Aam)(v:Value):Abm F ρ hp (A0a v) v:=by
 unfold A0a
 split<;>simp[Abm,RA,RC]
theorem C0x(F:Fz)(ρ:Rho)(hp:Aam):∀v:Value,RV F ρ hp (Czr v) v
 | .agg cs=>⟨cs,rfl,Abs.map (Abs.of_get rfl fun i a b ha hb=>by rw[ha]at hb;cases hb;exact Afx F ρ hp _)⟩
 | .tuple _=>trivial
 | .bool a=>Afx F ρ hp (.bool a)
 | .int a b=>Afx F ρ hp (.int a b)
 | .float a b=>Afx F ρ hp (.float a b)
 | .complex a b c=>Afx F ρ hp (.complex a b c)
 | .string a=>Afx F ρ hp (.string a)
 | .pointer a=>Afx F ρ hp (.pointer a)
 | .slice a b c=>Afx F ρ hp (.slice a b c)
 | .map a=>Afx F ρ hp (.map a)
 | .chan a=>Afx F ρ hp (.chan a)
 | .func a b c=>Afx F ρ hp (.func a b c)
 | .nilFunc=>Afx F ρ hp (.nilFunc)
 | .iface a b=>Afx F ρ hp (.iface a b)
 | .nilIface=>Afx F ρ hp (.nilIface)
theorem C30{n:Nat}{F:Fz}{ρ:Rho}{st:ASt}{a:Act}{W:World}(h:Ax5 n F ρ st a W)(x:Operand):RV F ρ st.hp (evs st.env x) (a.eval x):=by
 cases x with
 |tmp t=>exact h.env t
 |const v=>exact C0x F ρ st.hp v
 |global g=>exact RV.undef
 |func f=>exact⟨#[],rfl,trivial⟩
structure Ctj(dst:Nat)(st:ASt)(ev:Operand→AV)(hp:Aam):Prop where
 sev:∀x,ev x=evs st.env x∨ev x = .at .undef
 shp:∀id b,hp id=some b→st.hp id=some b
 snew:∀j,j<32→hp (Aa5 dst j)=none→st.hp (Aa5 dst j)=none
theorem Ctj.rv{n dst:Nat}{F:Fz}{ρ:Rho}{st:ASt}{a:Act}{W:World}{ev:Operand→AV}{hp:Aam}(s:Ctj dst st ev hp)(h:Ax5 n F ρ st a W)(x:Operand) :
  RV F ρ st.hp (ev x) (a.eval x):=by
 rcases s.sev x with e|e
 ·rw[e];exact C30 h x
 ·rw[e];exact RV.undef
def Ctk(P:Program)(g:List Bool)(o:Oper)(F:Fz)(ρ:Rho)(hp:Aam)(a:Act)(W:World)(hp':Aam)(v:AV):Prop :=
 (∃r W',((execOp a.eval o).run P W = .ok (.value r) W'∨((execOp a.eval o).run P W = .ok .skip W'∧r=undef))∧Aif g F ρ hp W hp' v r W')∨
 (∃f args W1,(execOp a.eval o).run P W = .ok (.enter f args) W1∧Calls P f args W1 fun e W'=>∃r,e = .returned r∧Aif g F ρ hp W hp' v r W')
theorem Ctk.ops{n:Nat}{g:List Bool}{o:Oper}{st:ASt}{l:List (Nat×Aau)}{v:AV}(hd:∀t,o.dst=some t→t<n)(h:∀F ρ a W,Ax5 n F ρ st a W→Ctk P g o F ρ st.hp a W (Aa3 st.hp l) v):OpS P n g o st (st.upd o.dst l v):=by
 intro F ρ a W hs K Q hK
 rcases h F ρ a W hs with ⟨r,W',hr,hg⟩|⟨f,args,W1,hr,hc⟩
 ·have:=hK _ _ (Alh.of_good hs hd hg)
  unfold Oper.wp
  rcases hr with hr|⟨hr,rfl⟩
  ·rw[hr,Oper.upon_value];exact this
  ·rw[hr,Oper.upon_skip];exact this
 ·unfold Oper.wp
  rw[hr,Oper.upon_enter]
  refine hc.mono ?_
  rintro e W' ⟨r,rfl,hg⟩
  exact hK _ _ (Alh.of_good hs hd hg)
theorem Ctk.val{g:List Bool}{o:Oper}{F:Fz}{ρ:Rho}{hp:Aam}{a:Act}{W:World}{v:AV}{r:Value}(hh:Abx F ρ hp W)(hr:(execOp a.eval o).run P W = .ok (.value r) W)(hv:RV F ρ hp v r):Ctk P g o F ρ hp a W hp v:=.inl ⟨r,W,.inl hr,Aif.val hh hv⟩
theorem Apg.get_ok{F:Fz}{ρ:Rho}{hp:Aam}{t:Ty}{x:Apg}{v:t.den}{r:Value}(h:x.get t=some v)(hr:RA F ρ hp x r):RC F t v [r]:=by
 cases x<;>simp only[Apg.get]at h<;>try (cases h;done)
 ·rename_i t' w
  split at h
  ·rename_i e;subst e;cases h;exact hr
  ·cases h
 ·cases t<;>simp at h
  subst h;simp only[RA]at hr;subst hr
  exact⟨none,0,rfl,by simp,fun _=>rfl,fun h=>by simp at h⟩
 ·cases t<;>simp at h
  subst h;obtain⟨A,rfl⟩:=hr
  exact⟨A,0,rfl,by simp,fun _=>rfl,fun h=>by simp at h⟩
 ·rename_i t' w
  split at h
  ·rename_i e;subst e;cases h;exact hr.1
  ·cases h
theorem Aby.get_ok{F:Fz}{ρ:Rho}{hp:Aam}{t:Ty}{c:Aby}{v:t.den}{r:Value}(h:c.get t=some v)(hr:Abm F ρ hp c r):RC F t v [r]:=by
 cases c with
 |a x=>exact Apg.get_ok h hr
 |func f caps=>cases h
 |meth f caps=>cases h
 |iface T cs=>cases h
theorem AV.get_ok{F:Fz}{ρ:Rho}{hp:Aam}{t:Ty}{x:AV}{v:t.den}{r:Value}(h:x.get t=some v)(hr:RV F ρ hp x r):RC F t v [r]:=by
 cases x with
 |v x=>cases x with
  |one c=>exact Aby.get_ok h hr
  |agg cs=>cases h
 |tup xs=>cases h
 |z n v=>cases h
theorem Bb6{F:Fz}{ρ:Rho}{hp:Aam}:∀{t:Ty} {cs:List Aby} {v:t.den} {rs:List Value},Bar t cs=some v→Abs (Abm F ρ hp) cs rs→RC F t v rs
 | .pair a b,cs,v,rs,h,hr=>by
  simp only[Bar]at h
  split at h
  ·rename_i x y hx hy
   cases h
   refine⟨rs.take a.size,rs.drop a.size,(List.take_append_drop _ _).symm,Bb6 hx (hr.take _),Bb6 hy (hr.drop _)⟩
  ·cases h
 | .bool,cs,v,rs,h,hr=>by
  simp only[Bar]at h
  split at h
  ·obtain⟨b,rfl,hb⟩:=hr.one;exact Aby.get_ok h hb
  ·cases h
 | .int k,cs,v,rs,h,hr=>by
  simp only[Bar]at h
  split at h
  ·obtain⟨b,rfl,hb⟩:=hr.one;exact Aby.get_ok h hb
  ·cases h
 | .str,cs,v,rs,h,hr=>by
  simp only[Bar]at h
  split at h
  ·obtain⟨b,rfl,hb⟩:=hr.one;exact Aby.get_ok h hb
  ·cases h
 | .list t,cs,v,rs,h,hr=>by
  simp only[Bar]at h
  split at h
  ·obtain⟨b,rfl,hb⟩:=hr.one;exact Aby.get_ok h hb
  ·cases h
theorem Awn{F:Fz}{ρ:Rho}{hp:Aam}:∀{t:Ty} {v:t.den} {rs:List Value},RC F t v rs→Abs (Abm F ρ hp) (cellsOf t v) rs
 | .pair a b,v,rs,h=>by
  obtain⟨c,d,rfl,hc,hd⟩:=h
  exact (Awn hc).append (Awn hd)
 | .bool,v,rs,h=>by simp only[RC]at h;subst h;exact⟨rfl,trivial⟩
 | .int k,v,rs,h=>by simp only[RC]at h;subst h;exact⟨rfl,trivial⟩
 | .str,v,rs,h=>by simp only[RC]at h;subst h;exact⟨rfl,trivial⟩
 | .list t,v,rs,h=>by
  have h':=h
  obtain⟨A,cap,rfl,_⟩:=h'
  exact⟨h,trivial⟩
theorem A63:∀{t:Ty} {v:t.den},(cellsOf t v).length=t.size
 | .pair a b,v=>by simp[cellsOf,Ty.size,A63]
 | .bool,v=>rfl
 | .int k,v=>rfl
 | .str,v=>rfl
 | .list t,v=>rfl
theorem Bpr{F:Fz}{ρ:Rho}{hp:Aam}{t:Ty}:∀{n:Nat} {cs:List Aby} {xs:List t.den} {rs:List Value},Bim t n cs=some xs→Abs (Abm F ρ hp) cs rs→
  xs.length=n∧rs.length=n*t.size∧∀i,i<n→RC F t (xs.getD i t.dflt) ((rs.drop (i*t.size)).take t.size)
 |0,cs,xs,rs,h,hr=>by
  simp only[Bim]at h
  split at h
  ·cases h;have:=hr.nil_left;subst this;exact⟨rfl,by simp,fun i hi=>by omega⟩
  ·cases h
 |n+1,cs,xs,rs,h,hr=>by
  simp only[Bim]at h
  split at h
  ·rename_i x r hx hr'
   cases h
   obtain⟨h1,h2,h3⟩:=Bpr hr' (hr.drop t.size)
   have h0:=Bb6 hx (hr.take t.size)
   have hl:=h0.length
   have hle:t.size≤rs.length:=by simp at hl;omega
   refine⟨by simp[h1],by simp at h2;rw[Nat.add_mul,Nat.one_mul];omega,fun i hi=>?_⟩
   cases i with
   |zero=>simpa using h0
   |succ i=>
    have:=h3 i (by omega)
    rw[List.drop_drop]at this
    have e:t.size+i*t.size=(i+1)*t.size:=by rw[Nat.add_mul];omega
    rw[e]at this
    simpa using this
  ·cases h
theorem Dcc{F:Fz}{ρ:Rho}{hp:Aam}{W:World}{id:Nat}{E:TypeId}{t:Ty}{ver:Nat}{fz:Bool}{xs:List t.den}(hh:Abx F ρ hp W)(hb:hp id=some (.row E t ver fz xs))(F':Fz)(hF:∀b o,F b=some o→F' b=some o)(hid:∀k,k∈(ρ id).bs→F' k=W.heap[k]?){A:Option Addr}(hA:∀bb,(ρ id).bs=[bb]→A=some ⟨bb,0,none⟩):xs.length≤(ρ id).cap∧(0<xs.length→∃b o c T fr,A=some ⟨b,o,none⟩∧F' b=some (.cells c T fr)∧
   o+xs.length*t.size≤c.size∧∀i,i<xs.length→RC F' t (xs.getD i t.dflt) (Afk c (o+i*t.size) t.size)):=by
 rcases hh.blocks id _ hb with ⟨h1,h2,h3⟩|⟨bb,rs,fr,h1,h2,h3,h4,h5,h6,h7⟩
 ·subst h2;simp
 ·refine⟨h5,fun _=>⟨bb,0,rs,E,fr,hA bb h1,?_,?_,fun i hi=>?_⟩⟩
  ·rw[hid bb (by simp[h1])];exact h2
  ·rw[h4,Nat.zero_add];exact Nat.mul_le_mul_right _ h5
  ·rw[Nat.zero_add];exact (h6 i hi).mono hF
theorem Apg.frz_ok{F:Fz}{ρ:Rho}{hp hq:Aam}{W:World}(hh:Abx F ρ hp W)(hs:∀id b,hq id=some b→hp id=some b){x y:Apg}{l:List Nat}{r:Value}(h:x.frz hq=some (y,l))(hr:RA F ρ hp x r)(F':Fz)(hF:∀b o,F b=some o→F' b=some o)(hl:∀id,id∈l→∀k,k∈(ρ id).bs→F' k=W.heap[k]?):RA F' ρ hp y r:=by
 have keep:=RA.mono (F:=F) (F':=F') (ρ:=ρ) (ρ':=ρ) (hp:=hp) (hp':=hp) hF (fun _ b hb=>⟨b,hb,Aml.refl _ _⟩) hr
 cases x<;>simp only[Apg.frz]at h<;>try (cases h;exact keep)
 ·rename_i id ver
  split at h
  ·rename_i E t ver' fz xs hb
   split at h
   ·rename_i e;cases h;have e:=Aa8 e;subst e
    have hb':=hs _ _ hb
    obtain⟨b,hb2,hv,A,len,c,rfl,hc⟩:=hr
    rw[hb']at hb2;cases hb2
    obtain⟨rfl,rfl,hA⟩:=hc rfl
    obtain⟨h1,h2⟩:=Dcc hh hb' F' hF (hl id (by simp)) hA
    refine⟨A,_,rfl,h1,?_,h2⟩
    intro hn
    subst hn
    rcases hh.blocks id _ hb' with ⟨_,_,h3⟩|⟨bb,rs,fr,h3,_⟩
    ·exact h3
    ·have:=hA bb h3;cases this
   ·cases h
  ·cases h
 ·rename_i id ver off len
  split at h
  ·rename_i E t ver' fz xs hb
   split at h
   ·rename_i e;cases h;have e:=Aa8 e;subst e
    have hb':=hs _ _ hb
    obtain⟨b,hb2,hv,A,l',c,rfl,hc⟩:=hr
    rw[hb']at hb2;cases hb2
    obtain⟨e0,h2,h3,h4,hA⟩:=hc rfl
    subst l'
    rcases hh.blocks id _ hb' with ⟨i1,i2,i3⟩|⟨bb,rs,fr,i1,i2,i3,i4,i5,i6,i7⟩
    ·subst i2
     have hz:len=0:=by simp at h2;omega
     have hcz:c=0:=by omega
     subst hz hcz
     exact⟨A,0,by simp,by simp,fun _=>rfl,fun h=>by simp at h⟩
    ·have hlen:(List.take len (List.drop off xs)).length=len:=by simp;omega
     have hA':=hA bb i1
     refine⟨A,c,by rw[hlen],by rw[hlen];omega,fun hn=>?_,fun hp'=>?_⟩
     ·subst hn;rcases hA' with h|h
      ·exact h
      ·cases h
     ·rw[hlen]at hp'
      rcases hA' with h|h
      ·omega
      ·refine⟨bb,off*t.size,rs,E,fr,h,?_,?_,fun i hi=>?_⟩
       ·rw[hl id (by simp) bb (by simp[i1])];exact i2
       ·rw[hlen,i4,←Nat.add_mul];exact Nat.mul_le_mul_right _ (by omega)
       ·rw[hlen]at hi
        have:=(i6 (off+i) (by omega)).mono hF
        have e1:(List.take len (List.drop off xs)).getD i t.dflt=xs.getD (off+i) t.dflt:=by
         simp[List.getD_eq_getElem?_getD,List.getElem?_drop,hi]
        rw[e1,←Nat.add_mul];exact this
   ·cases h
  ·cases h
theorem Aby.frz_ok{F:Fz}{ρ:Rho}{hp hq:Aam}{W:World}(hh:Abx F ρ hp W)(hs:∀id b,hq id=some b→hp id=some b){x y:Aby}{l:List Nat}{r:Value}(h:x.frz hq=some (y,l))(hr:Abm F ρ hp x r)(F':Fz)(hF:∀b o,F b=some o→F' b=some o)(hl:∀id,id∈l→∀k,k∈(ρ id).bs→F' k=W.heap[k]?):Abm F' ρ hp y r:=by
 have keep:=Abm.mono (F:=F) (F':=F') (ρ:=ρ) (ρ':=ρ) (hp:=hp) (hp':=hp) hF (fun _ b hb=>⟨b,hb,Aml.refl _ _⟩) hr
 cases x with
 |a x=>
  simp only[Aby.frz]at h
  split at h
  ·rename_i z m hz;cases h;exact Apg.frz_ok hh hs hz hr F' hF hl
  ·cases h
 |func f caps=>cases h;exact keep
 |meth f caps=>cases h;exact keep
 |iface T cs=>cases h;exact keep
theorem Biq{F:Fz}{ρ:Rho}{hp hq:Aam}{W:World}(hh:Abx F ρ hp W)(hs:∀id b,hq id=some b→hp id=some b):∀{cs ds:List Aby} {l:List Nat} {rs:List Value},
  Apy hq cs=some (ds,l)→Abs (Abm F ρ hp) cs rs→∀(F':Fz),(∀b o,F b=some o→F' b=some o)→(∀id,id∈l→∀k,k∈(ρ id).bs→F' k=W.heap[k]?)→Abs (Abm F' ρ hp) ds rs
 |[],ds,l,rs,h,hr,F',hF,hl=>by cases h;have:=hr.nil_left;subst this;trivial
 |c::cs,ds,l,rs,h,hr,F',hF,hl=>by
  simp only[Apy]at h
  split at h
  ·rename_i d l1 s m hd hs'
   cases h
   obtain⟨b,r,rfl,h1,h2⟩:=hr.cons_left
   exact⟨Aby.frz_ok hh hs hd h1 F' hF fun id hi=>hl id (by simp[hi]),Biq hh hs hs' h2 F' hF fun id hi=>hl id (by simp[hi])⟩
  ·cases h
end
end
end Go.AX
namespace Go.AX
noncomputable section
section
variable {P:Program}
theorem Awo(b o n:Nat):(⟨b,o,none⟩:Addr).add n=⟨b,o+n,none⟩:=by
 unfold Addr.add;split
 ·rename_i h;subst h;rfl
 ·rfl
theorem Ca6{W:World}{b o:Nat}{c:Array Value}{T:TypeId}{fr:Nat×Nat}(h:W.heap[b]? = some (.cells c T fr)):W.cell? ⟨b,o,none⟩=c[o]?:=by
 simp[World.cell?,h]
theorem Cpf{W:World}{b o:Nat}{c:Array Value}{T:TypeId}{fr:Nat×Nat}(h:W.heap[b]? = some (.cells c T fr))(hn:NF fr c.size)(ho:o<c.size) :
  W.frozen? ⟨b,o,none⟩=false:=by
 have:=hn o ho
 simp[World.frozen?,h]
 intro h1
 rcases Nat.lt_or_ge o fr.2 with h2|h2
 ·exact absurd ⟨h1,h2⟩ this
 ·exact h2
theorem Bg3{c:Array Value}{o n i:Nat}(hi:i<n):(Afk c o n)[i]? = c[o+i]?:=by
 simp[Afk,hi,List.getElem?_drop]
theorem Bmv(W:World)(a:Addr):∀(vs:List Value) (i:Nat) (acc:Array Value),
  (∀j v,vs[j]? = some v→W.cell? (a.add (i+j))=some v)→(loadCellsFrom a i vs.length acc).run P W = .ok (acc++vs.toArray) W
 |[],i,acc,_=>by simp[loadCellsFrom]
 |v::r,i,acc,h=>by
  have h0:=h 0 v (by simp)
  simp only[Nat.add_zero]at h0
  simp only[List.length_cons,loadCellsFrom,Sem.run_bind,run_load,h0,Result.andThen_ok]
  rw[Bmv W a r (i+1) (acc.push v) (fun j x hx=>by
   have:=h (j+1) x (by simpa using hx)
   rwa [show i+1+j=i+(j+1) by omega])]
  congr 1
  apply Array.ext';simp
theorem Bk6{W:World}{b o n:Nat}{c:Array Value}{T:TypeId}{fr:Nat×Nat}(h:W.heap[b]? = some (.cells c T fr))(hn:o+n≤c.size) :
  (loadCells ⟨b,o,none⟩ n).run P W = .ok (Afk c o n).toArray W:=by
 have hl:(Afk c o n).length=n:=by simp[Afk];omega
 have:=Bmv (P:=P) W ⟨b,o,none⟩ (Afk c o n) 0 #[] (fun j v hv=>by
  have hj:j<n:=by
   rcases Nat.lt_or_ge j n with h|h
   ·exact h
   ·rw[List.getElem?_eq_none (by omega)]at hv;cases hv
  rw[Bg3 hj]at hv
  rw[Awo,Ca6 h,Nat.zero_add];exact hv)
 rw[hl]at this
 simpa [loadCells]using this
theorem Czt{F:Fz}{ρ:Rho}{hp:Aam}{agg:Bool}{cs:List Aby}{v:AV}{vs:List Value}(h:Cfc agg cs=some v)(hr:Abs (Abm F ρ hp) cs vs) :
  (agg=true∧RV F ρ hp v (.agg vs.toArray))∨(agg=false∧∃x,vs=[x]∧RV F ρ hp v x):=by
 unfold Cfc at h
 split at h
 ·cases h;exact .inl ⟨rfl,vs.toArray,rfl,by simpa using hr⟩
 ·split at h
  ·cases h
   obtain⟨b,rfl,hb⟩:=hr.one
   exact .inr ⟨rfl,b,rfl,hb⟩
  ·cases h
theorem A9c{tt:TT}(htt:Aj1 P tt){T:TypeId}{i:TI}(hi:tt.get T=some i){F:Fz}{ρ:Rho}{hp:Aam}{W:World}{b o:Nat}{c:Array Value}{U:TypeId}{fr:Nat×Nat}(h:W.heap[b]? = some (.cells c U fr))(hn:o+i.size≤c.size){cs:List Aby}{v:AV}(hm:Cfc i.d.agg cs=some v)(hr:Abs (Abm F ρ hp) cs (Afk c o i.size)) :
  ∃r,(loadVar T ⟨b,o,none⟩).run P W = .ok r W∧RV F ρ hp v r:=by
 obtain⟨u,hu,hd⟩:=(htt T i hi).under
 obtain⟨f,hf,hs,hby,_⟩:=(htt T i hi).info
 rcases Czt hm hr with ⟨ha,hv⟩|⟨ha,x,hx,hv⟩
 ·refine⟨_,?_,hv⟩
  simp[loadVar,Bt4 hu hd,ha,Agq hf,hs,Bk6 h hn]
 ·refine⟨x,?_,hv⟩
  have hl:i.size=1:=by
   have:=congrArg List.length hx
   simp[Afk]at this
   omega
  have h0:c[o]? = some x:=by
   have:=Bg3 (c:=c) (o:=o) (n:=i.size) (i:=0) (by omega)
   rw[hx]at this;simpa using this.symm
  simp[loadVar,Bt4 hu hd,ha,Ca6 h,h0]
theorem Ctl{tt:TT}(htt:Aj1 P tt){hq:Aam}{T:TypeId}{x:AV}{R:Type}{K:AV→Option R}{res:R}(h:Csd tt hq T x K=some res) :
  ∃v,K v=some res∧∀F ρ hp W rx,Abx F ρ hp W→(∀id b,hq id=some b→hp id=some b)→RV F ρ hp x rx→∃r,(Instr.loadAt T rx).run P W = .ok r W∧RV F ρ hp v r:=by
 unfold Csd at h
 split at h
 ·cases h
 rename_i i hi
 have fin:∀{cs:List Aby} {fld:Nat},(match Nat.ble (fld+i.size) cs.length with
   |true=>match Cfc i.d.agg ((cs.drop fld).take i.size) with
    |some v=>K v
    |none=>none
   |false=>none)=some res→∃v,K v=some res∧Cfc i.d.agg ((cs.drop fld).take i.size)=some v∧fld+i.size≤cs.length:=by
  intro cs fld h
  split at h
  ·rename_i hle
   split at h
   ·rename_i v hv;exact⟨v,h,hv,Nat.le_of_ble_eq_true hle⟩
   ·cases h
  ·cases h
 split at h
 ·rename_i id ver idx fld
  split at h
  ·rename_i T' cs hb
   obtain⟨v,hK,hm,hle⟩:=fin h
   refine⟨v,hK,fun F ρ hp W rx hh hs hx=>?_⟩
   obtain⟨b,hb2,hv,ad,rfl,hc⟩:=hx
   have hb':=hs _ _ hb
   rw[hb']at hb2;cases hb2
   simp only[Aau.ver,Nat.le_zero]at hv
   subst hv
   obtain⟨rfl,bb,hbs,rfl⟩:=hc rfl
   obtain⟨bb',rs,fr,h1,h2,h3,h4⟩:=hh.blocks id _ hb'
   rw[h1]at hbs;cases hbs
   have hl:=h4.length
   have hl':rs.size=cs.length:=by simpa using hl.symm
   have:=A9c htt hi (F:=F) (ρ:=ρ) (hp:=hp) h2 (o:=fld) (by omega) hm (by
    simpa [Afk]using (h4.drop fld).take i.size)
   simpa [Instr.loadAt,Instr.sureAddr]using this
  ·rename_i E t ver' fz xs hb
   split at h
   ·rename_i e;have e:=Aa8 e;subst e
    obtain⟨v,hK,hm,hle⟩:=fin h
    refine⟨v,hK,fun F ρ hp W rx hh hs hx=>?_⟩
    obtain⟨b,hb2,hv,ad,rfl,hc⟩:=hx
    have hb':=hs _ _ hb
    rw[hb']at hb2;cases hb2
    obtain⟨hidx,bb,hbs,rfl⟩:=hc rfl
    rcases hh.blocks id _ hb' with ⟨i1,_⟩|⟨bb',rs,fr,h1,h2,h3,h4,h5,h6,h7⟩
    ·rw[i1]at hbs;cases hbs
    ·rw[h1]at hbs;cases hbs
     have hr:=h6 idx hidx
     have hcs:=Awn (ρ:=ρ) (hp:=hp) hr
     rw[A63]at hle
     have hsz:idx*t.size+t.size≤rs.size:=by
      rw[h4,←Nat.succ_mul];exact Nat.mul_le_mul_right _ (by omega)
     have:=A9c htt hi (F:=F) (ρ:=ρ) (hp:=hp) h2 (o:=idx*t.size+fld) (by omega) hm (by
      have:=(hcs.drop fld).take i.size
      rw[show ((Afk rs (idx*t.size) t.size).drop fld).take i.size=Afk rs (idx*t.size+fld) i.size by
       unfold Afk
       rw[List.drop_take,List.drop_drop,List.take_take,Nat.min_eq_left (by omega)]]at this
      exact this)
     simpa [Instr.loadAt,Instr.sureAddr]using this
   ·cases h
  ·cases h
 ·rename_i t xs idx fld
  obtain⟨v,hK,hm,hle⟩:=fin h
  refine⟨v,hK,fun F ρ hp W rx hh hs hx=>?_⟩
  obtain⟨hidx,b,o,c,U,fr,rfl,hF,ho,hr⟩:=hx
  have hcs:=Awn (ρ:=ρ) (hp:=hp) hr
  rw[A63]at hle
  have:=A9c htt hi (F:=F) (ρ:=ρ) (hp:=hp) (hh.fz _ _ hF) (o:=o+fld) (by omega) hm (by
   have:=(hcs.drop fld).take i.size
   rw[show ((Afk c o t.size).drop fld).take i.size=Afk c (o+fld) i.size by
    unfold Afk
    rw[List.drop_take,List.drop_drop,List.take_take,Nat.min_eq_left (by omega)]]at this
   exact this)
  simpa [Instr.loadAt,Instr.sureAddr]using this
 ·rename_i id k fld
  split at h
  case h_2=>cases h
  rename_i T' t xs hb
  split at h
  ·rename_i hcond
   simp only[Bool.and_eq_true,Bool.not_eq_true']at hcond
   obtain⟨hf,hz,hagg⟩:=hcond
   have hf:=Aa8 hf
   have hz:=Aa8 hz
   refine⟨_,h,fun F ρ hp W rx hh hs hx=>?_⟩
   have hb':=hs _ _ hb
   obtain⟨T2,t2,xs2,hb2,bb,hbs,rfl⟩:=hx
   rw[hb']at hb2;cases hb2
   obtain⟨h1,h2,h3⟩:=hh.blocks id _ hb'
   have hk:k<xs.length:=by rw[←h2];exact (List.getElem?_eq_some_iff.1 hbs).1
   obtain⟨bb',rs,fr,v,g1,g2,g3,g4,g5⟩:=h3 k xs[k] (List.getElem?_eq_getElem hk)
   rw[hbs]at g1;cases g1
   have hx:xs.getD k (t.dflt,none)=xs[k]:=by rw[List.getD_eq_getElem?_getD,List.getElem?_eq_getElem hk];rfl
   have hl:=g4.length
   have:=A9c htt hi (F:=F) (ρ:=ρ) (hp:=hp) g2 (o:=fld) (by simp;omega) (cs:=[.a (.po id (xs.getD k (t.dflt,none)).2)]) (v:=.at (.po id (xs.getD k (t.dflt,none)).2)) (by rw[hagg];rfl) (by
    rw[hx,show Afk (rs++[v]).toArray fld i.size=[v] by
     unfold Afk;rw[hz,hf,←hl];simp]
    exact⟨⟨fun _=>⟨T',t,xs,hb'⟩,g5⟩,trivial⟩)
   simpa [Instr.loadAt,Instr.sureAddr]using this
  ·obtain⟨v,hK,hm,hle⟩:=fin h
   refine⟨v,hK,fun F ρ hp W rx hh hs hx=>?_⟩
   have hb':=hs _ _ hb
   obtain⟨T2,t2,xs2,hb2,bb,hbs,rfl⟩:=hx
   rw[hb']at hb2;cases hb2
   obtain⟨h1,h2,h3⟩:=hh.blocks id _ hb'
   have hk:k<xs.length:=by rw[←h2];exact (List.getElem?_eq_some_iff.1 hbs).1
   obtain⟨bb',rs,fr,v',g1,g2,g3,g4,g5⟩:=h3 k xs[k] (List.getElem?_eq_getElem hk)
   rw[hbs]at g1;cases g1
   have hx:xs.getD k (t.dflt,none)=xs[k]:=by rw[List.getD_eq_getElem?_getD,List.getElem?_eq_getElem hk];rfl
   have hl:=g4.length
   have hcs:=Awn (ρ:=ρ) (hp:=hp) g4
   rw[A63]at hle
   have:=A9c htt hi (F:=F) (ρ:=ρ) (hp:=hp) g2 (o:=fld) (by simp;omega) hm (by
    have:=(hcs.drop fld).take i.size
    rw[hx,show Afk (rs++[v']).toArray fld i.size=(rs.drop fld).take i.size by
     unfold Afk
     rw[show (rs++[v']).toArray.toList=rs++[v'] from rfl,List.drop_append_of_le_length (by omega),List.take_append_of_le_length (by simp;omega)]]
    exact this)
   simpa [Instr.loadAt,Instr.sureAddr]using this
 ·cases h
theorem RC.one{F:Fz}{t:Ty}{v:t.den}{r:Value}(h:RC F t v [r]):r.oneCell'=true:=by
 cases t with
 |bool=>simp only[RC]at h;cases h;rfl
 |int k=>simp only[RC]at h;cases h;rfl
 |str=>simp only[RC]at h;cases h;rfl
 |list t=>obtain⟨A,cap,h,_⟩:=h;cases h;rfl
 |pair a b=>
  have:=h.length
  have:=a.size_pos;have:=b.size_pos
  simp[Ty.size]at *
  omega
theorem Abm.one{F:Fz}{ρ:Rho}{hp:Aam}{c:Aby}{r:Value}(h:Abm F ρ hp c r)(ho:c.ok=true):r.oneCell'=true:=by
 cases c with
 |a x=>
  cases x<;>simp only[Abm,RA]at h
  ·simp[Aby.ok]at ho
  ·exact h.one
  ·subst h;rfl
  ·subst h;rfl
  ·subst h;rfl
  ·subst h;rfl
  ·subst h;rfl
  ·obtain⟨A,rfl⟩:=h;rfl
  ·exact RC.one h.1
  ·obtain⟨_,_,_,A,l,c,rfl,_⟩:=h;rfl
  ·obtain⟨_,_,_,A,l,c,rfl,_⟩:=h;rfl
  ·obtain⟨_,_,_,ad,rfl,_⟩:=h;rfl
  ·obtain⟨_,_,_,_,_,_,rfl,_⟩:=h;rfl
  ·obtain⟨_,_,_,_,_,_,_,rfl⟩:=h;rfl
  ·obtain⟨_,_,A,l,c,rfl,_⟩:=h;rfl
  ·obtain⟨_,_,_,_,_,_,rfl⟩:=h;rfl
  ·obtain⟨_,h⟩:=h
   rename_i o _
   cases o with
   |none=>rw[show r = .pointer none from h];rfl
   |some k=>obtain⟨bb,_,rfl⟩:=h;rfl
 |func f caps=>obtain⟨cs,rfl,_⟩:=h;rfl
 |meth f caps=>obtain⟨cs,rfl,_⟩:=h;rfl
 |iface T cs=>obtain⟨v,rfl,_⟩:=h;rfl
theorem A64{F:Fz}{ρ:Rho}{hp:Aam}{v:AV}{new:List Aby}{r:Value}(h:Bg0 v=some new)(hr:RV F ρ hp v r) :
  Abs (Abm F ρ hp) new r.cells.toList∧∀x∈r.cells.toList,x.oneCell'=true:=by
 cases v with
 |tup xs=>cases h
 |z n v=>cases h
 |v x=>
  cases x with
  |one c=>
   simp only[Bg0]at h
   split at h
   ·rename_i ho
    cases h
    have h1:=Abm.one hr ho
    have e:r.cells = #[r]:=by cases r<;>first|rfl|cases h1
    rw[e]
    exact⟨⟨hr,trivial⟩,fun x hx=>by simp at hx;subst hx;exact h1⟩
   ·cases h
  |agg cs=>
   simp only[Bg0]at h
   split at h
   ·rename_i ho
    cases h
    obtain⟨rs,rfl,hrs⟩:=hr
    refine⟨hrs,fun x hx=>?_⟩
    have:∀{cs:List Aby} {rs:List Value},Abs (Abm F ρ hp) cs rs→cs.all Aby.ok=true→∀x∈rs,x.oneCell'=true:=by
     intro cs
     induction cs with
     |nil=>intro rs h _ x hx;have:=h.nil_left;subst this;cases hx
     |cons c cs ih=>
      intro rs h ha x hx
      obtain⟨b,r,rfl,h1,h2⟩:=h.cons_left
      simp only[List.all_cons,Bool.and_eq_true]at ha
      simp only[List.mem_cons]at hx
      rcases hx with rfl|hx
      ·exact Abm.one h1 ha.1
      ·exact ih h2 ha.2 x hx
    exact this hrs ho x hx
   ·cases h
structure Cln(W:World)(b:Nat)(c':List Value)(T:TypeId)(fr:Nat×Nat)(W':World):Prop where
 os:W'.os=W.os
 tape:W'.tape=W.tape
 output:W'.output=W.output
 size:W'.heap.size=W.heap.size
 ne:∀k,k≠b→W'.heap[k]? = W.heap[k]?
 at_:W'.heap[b]? = some (.cells c'.toArray T fr)
theorem B53{W:World}{b o:Nat}{c:Array Value}{T:TypeId}{fr:Nat×Nat}(h:W.heap[b]? = some (.cells c T fr))(v:Value) :
  Cln W b (c.toList.set o v) T fr (W.setCell ⟨b,o,none⟩ v):=by
 refine⟨rfl,rfl,rfl,by simp[World.setCell],fun k hk=>?_,?_⟩
 ·simp[World.setCell,Array.getElem?_modify,Ne.symm hk]
 ·simp[World.setCell,Array.getElem?_modify,h]
  apply Array.ext';simp
theorem Bk7{α:Type}:∀(l:List α) (n:Nat) (v:α),n<l.length→(l.set n v).take (n+1)=l.take n++[v]
 |[],n,v,h=>by simp at h
 |x::l,0,v,h=>by simp
 |x::l,n+1,v,h=>by
  have:=Bk7 l n v (by simpa using h)
  simpa using this
theorem Azd{b:Nat}{T:TypeId}{fr:Nat×Nat}:∀(vs:List Value) (W:World) (c:Array Value) (o i:Nat),W.heap[b]? = some (.cells c T fr)→NF fr c.size→(o+i)+vs.length≤c.size→
  (∀x∈vs,x.oneCell'=true)→∃W',(storeCells ⟨b,o,none⟩ vs i).run P W = .ok () W'∧Cln W b (c.toList.take (o+i)++vs++c.toList.drop (o+i+vs.length)) T fr W'
 |[],W,c,o,i,h,_,_,_=>⟨W,by simp[storeCells],rfl,rfl,rfl,rfl,fun _ _=>rfl,by simpa using h⟩
 |v::r,W,c,o,i,h,hn,hl,hone=>by
  simp only[List.length_cons]at hl
  have hlt:o+i<c.size:=by omega
  have hcell:W.cell? ⟨b,o+i,none⟩=some c[o+i]:=by rw[Ca6 h];simp[hlt]
  have hfr:=Cpf h hn hlt
  have s1:=B53 (o:=o+i) h v
  obtain⟨W',hr,s2⟩:=Azd r (W.setCell ⟨b,o+i,none⟩ v) (c.toList.set (o+i) v).toArray o (i+1) s1.at_ (by simpa using hn) (by simp;omega) (fun x hx=>hone x (by simp[hx]))
  refine⟨W',?_,s2.os.trans s1.os,s2.tape.trans s1.tape,s2.output.trans s1.output,s2.size.trans s1.size,fun k hk=>(s2.ne k hk).trans (s1.ne k hk),?_⟩
  ·have e:(⟨b,o,none⟩:Addr).add i=⟨b,o+i,none⟩:=Awo _ _ _
   simp only[storeCells,e,Sem.run_bind]
   rw[run_store P W _ _ _ (hone v (by simp)),hcell]
   simp[hfr,hr]
  ·have e:=s2.at_
   rw[e]
   congr 2
   simp only[List.length_cons]
   congr 1
   have h1:(c.toList.set (o+i) v).take (o+(i+1))=c.toList.take (o+i)++[v]:=by
    rw[show o+(i+1)=(o+i)+1 by omega]
    exact Bk7 _ _ _ (by simpa using hlt)
   have h2:(c.toList.set (o+i) v).drop (o+(i+1)+r.length)=c.toList.drop (o+i+(r.length+1)):=by
    rw[List.drop_set_of_lt (by omega)];congr 1;omega
   rw[List.toList_toArray,h1,h2];simp
theorem Bct{tt:TT}(htt:Aj1 P tt){T:TypeId}{i:TI}(hi:tt.get T=some i){W:World}{b o:Nat}{c:Array Value}{U:TypeId}{fr:Nat×Nat}(h:W.heap[b]? = some (.cells c U fr))(hn:NF fr c.size){v:Value}(hsz:v.cells.size=i.size)(hl:o+i.size≤c.size)(hone:∀x∈v.cells.toList,x.oneCell'=true) :
  ∃W',(storeVar T ⟨b,o,none⟩ v).run P W = .ok () W'∧Cln W b (c.toList.take o++v.cells.toList++c.toList.drop (o+i.size)) U fr W':=by
 obtain⟨f,hf,hs,_,_⟩:=(htt T i hi).info
 obtain⟨W',hr,s⟩:=Azd (P:=P) v.cells.toList W c o 0 h hn (by simp;omega) hone
 refine⟨W',?_,by simpa [hsz]using s⟩
 simp[storeVar,Agq hf,hs,hsz,hr]
end
end
end Go.AX
namespace Go.AX
noncomputable section
theorem Ans(ρ:Rho)(id:Nat):Bk5 ρ id (ρ id)=ρ:=by
 funext i;unfold Bk5;split
 ·rename_i h;rw[h]
 ·rfl
theorem Ca7{hp:Aam}{id:Nat}{b:Aau}(h:hp id=some b):Aht hp id b=hp:=by
 funext i
 by_cases e:i=id
 ·subst e;rw[Afw,h]
 ·rw[Ad6 e]
structure Ch8(g:List Bool)(F:Fz)(ρ:Rho)(hp:Aam)(W:World)(F':Fz)(hp':Aam)(fr:List Nat):Prop where
 ok:Abx F' ρ hp' W
 keep:∀i x,hp i=some x→∃y,hp' i=some y∧Aml (ρ i) x (ρ i) y
 ext:Ext g F ρ hp W F' ρ hp' W
 rows:∀i E t ver fz xs,hp i=some (.row E t ver fz xs)→∃fz',hp' i=some (.row E t ver fz' xs)
 none:∀i,hp i=none→hp' i=none
 same:∀i,i∉fr→hp' i=hp i
 snap:∀i,i∈fr→∀k,k∈(ρ i).bs→F' k=W.heap[k]?
theorem C9n(g:List Bool){F:Fz}{ρ:Rho}{hp:Aam}{W:World}{id:Nat}{E:TypeId}{t:Ty}{ver:Nat}{fz:Bool}{xs:List t.den}(ho:Abx F ρ hp W)(hb:hp id=some (.row E t ver fz xs))(h32:fz=false→32≤id) :
  ∃F',Ch8 g F ρ hp W F' (Aht hp id (.row E t ver true xs)) [id]:=by
 cases fz with
 |true=>
  refine⟨F,?_⟩
  rw[Ca7 hb]
  refine⟨ho,fun i x hx=>⟨x,hx,Aml.refl _ _⟩,Ext.refl _ _ _ _ _,fun i E t ver fz xs h=>⟨fz,h⟩,fun _ h=>h,fun _ _=>rfl,fun i hi k hk=>?_⟩
  simp at hi;subst hi
  rcases ho.blocks i _ hb with ⟨h1,_⟩|⟨bb,rs,fr,h1,h2,_,_,_,_,h7⟩
  ·rw[h1]at hk;simp at hk
  ·rw[h1]at hk;simp at hk;subst hk
   rw[h7 rfl,h2]
 |false=>
  have h32:=h32 rfl
  have hFF:∀b o,F b=some o→(if b∈(ρ id).bs then W.heap[b]? else F b)=some o:=by
   intro k o hf
   split
   ·exact ho.fz k o hf
   ·exact hf
  let F':Fz:=⟨fun k=>if k∈(ρ id).bs then W.heap[k]? else F k,F.2.up hFF⟩
  have hk:∀i x,hp i=some x→∃y,Aht hp id (.row E t ver true xs) i=some y∧Aml (ρ i) x (ρ i) y:=by
   intro i x hx
   by_cases e:i=id
   ·subst e;rw[hb]at hx;cases hx
    exact⟨.row E t ver true xs,by simp,Nat.le_refl _,fun h=>(by simp[Aau.isMap]at h),fun _=>⟨rfl,rfl,rfl⟩,trivial⟩
   ·exact⟨x,by rw[Ad6 e];exact hx,Aml.refl _ _⟩
  refine⟨F',⟨?_,?_,?_,?_⟩,hk,⟨rfl,rfl,rfl,Nat.le_refl _,fun _ _ _=>rfl,?_,hFF,?_,?_,fun _ _ _ _ _=>⟨rfl,fun _ _=>rfl⟩⟩,?_,?_,?_,?_⟩
  ·intro i x hx
   by_cases e:i=id
   ·subst e;rw[Afw]at hx;cases hx
    rcases ho.blocks i _ hb with h|⟨bb,rs,fr,h1,h2,h3,h4,h5,h6,h7⟩
    ·exact .inl h
    ·refine .inr ⟨bb,rs,fr,h1,h2,h3,h4,h5,fun i hi=>(h6 i hi).mono hFF,fun _=>?_⟩
     simp only[F',h1];simpa using h2
   ·rw[Ad6 e]at hx
    exact BR.mono hFF hk rfl (fun _ _=>rfl) (ho.blocks i x hx)
  ·intro i j x y k hx hy hi hj
   have e:∀{i x},Aht hp id (.row E t ver true xs) i=some x→∃z,hp i=some z:=by
    intro i x hx
    by_cases e:i=id
    ·subst e;exact⟨_,hb⟩
    ·rw[Ad6 e]at hx;exact⟨x,hx⟩
   obtain⟨x',hx'⟩:=e hx;obtain⟨y',hy'⟩:=e hy
   exact ho.inj i j x' y' k hx' hy' hi hj
  ·intro k o hf
   simp only[F']at hf
   split at hf
   ·exact hf
   ·exact ho.fz k o hf
  ·rintro k ⟨i,x,hx,hz,hm⟩
   have e:i≠id:=by rintro rfl;rw[Afw]at hx;cases hx;simp[Aau.fz]at hz
   rw[Ad6 e]at hx
   have hn:k∉(ρ id).bs:=fun hm'=>e (ho.inj i id x _ k hx hb hm hm')
   simp only[F',hn,if_false]
   exact ho.apart k ⟨i,x,hx,hz,hm⟩
  ·rintro k ⟨i,x,hx,hz,hm⟩
   have e:i≠id:=by rintro rfl;rw[Afw]at hx;cases hx;simp[Aau.fz]at hz
   rw[Ad6 e]at hx
   exact .inl ⟨i,x,hx,hz,hm⟩
  ·intro k hf
   simp only[F']at hf
   split at hf
   ·rename_i hm;exact .inr (.inl ⟨id,_,hb,rfl,hm⟩)
   ·exact .inl hf
  ·intro i hi x hx
   have e:i≠id:=by omega
   exact⟨x,by rw[Ad6 e];exact hx,Evo.refl _ _ _⟩
  ·intro i E' t' ver' fz' xs' h
   by_cases e:i=id
   ·subst e;rw[hb]at h;cases h;exact⟨true,by simp⟩
   ·exact⟨fz',by rw[Ad6 e];exact h⟩
  ·intro i h
   have e:i≠id:=by rintro rfl;rw[hb]at h;cases h
   rw[Ad6 e];exact h
  ·intro i hi
   have e:i≠id:=by simpa using hi
   exact Ad6 e
  ·intro i hi k hm
   simp at hi;subst hi
   exact if_pos hm
def Bps(hq:Aam)(fr:List Nat):Prop:=∀id,id∈fr→∃E t ver fz xs,hq id=some (.row E t ver fz xs)
theorem Bir(g:List Bool){F:Fz}{ρ:Rho}{hp hq:Aam}{W:World}(ho:Abx F ρ hp W):∀{fr:List Nat} (_:Bps hq fr) (_:∀id E t ver fz xs,hq id=some (.row E t ver fz xs)→id∈fr→∃fz',hp id=some (.row E t ver fz' xs)∧(fz=true→fz'=true))
  (_:∀id,id∈fr→∀E t ver xs,hq id=some (.row E t ver false xs)→32≤id),
  ∃F',Ch8 g F ρ hp W F' (Aa3 hp (Agv hq fr)) fr
 |[],_,_,_=>⟨F,ho,fun i x hx=>⟨x,hx,Aml.refl _ _⟩,Ext.refl _ _ _ _ _,fun i E t ver fz xs h=>⟨fz,h⟩,fun _ h=>h,fun _ _=>rfl,fun i hi=>by simp at hi⟩
 |id::r,hr,hs,h32=>by
  obtain⟨E,t,ver,fz,xs,hb⟩:=hr id (by simp)
  obtain⟨fz',hb',himp⟩:=hs id E t ver fz xs hb (by simp)
  cases fz with
  |true=>
   have e:Agv hq (id::r)=Agv hq r:=by simp[Agv,hb]
   rw[e]
   obtain⟨F',h⟩:=Bir g ho (fr:=r) (fun i hi=>hr i (by simp[hi])) (fun i E t ver fz xs h hi=>hs i E t ver fz xs h (by simp[hi])) (fun i hi=>h32 i (by simp[hi]))
   refine⟨F',h.ok,h.keep,h.ext,h.rows,h.none,fun i hi=>h.same i (fun hm=>hi (by simp[hm])),fun i hi k hk=>?_⟩
   simp at hi
   rcases hi with rfl|hi
   ·have hz:=himp rfl
    subst hz
    rcases ho.blocks i _ hb' with ⟨h1,_⟩|⟨bb,rs,fr,h1,h2,_,_,_,_,h7⟩
    ·rw[h1]at hk;simp at hk
    ·rw[h1]at hk;simp at hk;subst hk
     rw[h.ext.fmono _ _ (h7 rfl),h2]
   ·exact h.snap i hi k hk
  |false=>
   have e:Agv hq (id::r)=(id,.row E t ver true xs)::Agv hq r:=by simp[Agv,hb]
   rw[e]
   simp only[Aa3]
   obtain⟨F1,h1⟩:=C9n g ho hb' (fun _=>h32 id (by simp) E t ver xs hb)
   obtain⟨F2,h2⟩:=Bir g h1.ok (fr:=r) (fun i hi=>hr i (by simp[hi])) (fun i E' t' ver' fz'' xs' h hi=>by
    obtain⟨fz1,hb1,hi1⟩:=hs i E' t' ver' fz'' xs' h (by simp[hi])
    by_cases e:i=id
    ·subst e;rw[hb]at h;cases h;exact⟨true,by simp,fun _=>rfl⟩
    ·exact⟨fz1,by rw[Ad6 e];exact hb1,hi1⟩) (fun i hi=>h32 i (by simp[hi]))
   refine⟨F2,h2.ok,fun i x hx=>?_,h1.ext.trans h2.ext,fun i E t ver fz xs h=>?_,fun i h=>h2.none i (h1.none i h),fun i hi=>?_,fun i hi k hk=>?_⟩
   ·obtain⟨y,hy,ky⟩:=h1.keep i x hx
    obtain⟨z,hz,kz⟩:=h2.keep i y hy
    refine⟨z,hz,Nat.le_trans ky.1 kz.1,fun hm=>⟨(kz.2.1 (ky.2.1 hm).1).1,rfl⟩,fun hv=>?_,Ch7.trans ky.2.2.2 kz.2.2.2⟩
    have hv1:y.ver=x.ver:=by have:=ky.1;have:=kz.1;omega
    have a1:=ky.2.2.1 hv1
    have a2:=kz.2.2.1 (by omega)
    cases x<;>cases y<;>simp only at a1<;>cases z<;>simp only at a2 ⊢<;>first|exact a1.elim|exact a2.elim|(try exact a2.elim)
    ·exact⟨trivial,a2.2⟩
    ·exact⟨trivial,by have:=a2.2.1;omega⟩
    ·exact⟨a1.1.trans a2.1,a2.2.1.trans a1.2.1,trivial⟩
   ·obtain⟨fz',h'⟩:=h1.rows i E t ver fz xs h
    exact h2.rows i E t ver fz' xs h'
   ·have e:i≠id:=fun e=>hi (by simp[e])
    rw[h2.same i (fun hm=>hi (by simp[hm])),h1.same i (by simpa using e)]
   ·by_cases e:i=id
    ·subst e
     have:=h1.snap i (by simp) k hk
     have hlt:=(ho.blocks i _ hb').lt hk
     rw[show W.heap[k]? = some W.heap[k] by simp[hlt]]at this ⊢
     exact h2.ext.fmono _ _ this
    ·simp[e]at hi
     exact h2.snap i hi k hk
theorem Ayk.inplace{g:List Bool}{F:Fz}{ρ:Rho}{hp:Aam}{W W':World}{id bb:Nat}{b0 b:Aau}{c':List Value}{T:TypeId}{fr:Nat×Nat}(h0:hp id=some b0)(hz0:b0.fz=false)(hz:b.fz=false)(hbs:(ρ id).bs=[bb])(hs:Cln W bb c' T fr W')(hk:Aml (ρ id) b0 (ρ id) b)(he:id<32→Evo (g.getD id false) (ρ id) (ρ id) b0 b)(hro:Aqs g=true→32≤id):Ayk g F ρ hp W id (ρ id) b W':=by
 refine⟨hs.os,hs.tape,hs.output,by rw[hs.size];exact Nat.le_refl _,fun k _ hn=>hs.ne k ?_,fun k hk=>.inl ⟨b0,h0,hk⟩,fun b1 h1=>?_,fun h=>?_,hz,hro⟩
 ·rintro rfl;exact hn b0 h0 (by simp[hbs])
 ·rw[h0]at h1;cases h1;exact⟨hz0,hk,he⟩
 ·rw[h0]at h;cases h
theorem Ayk.inplaceM{g:List Bool}{F:Fz}{ρ:Rho}{hp:Aam}{W W':World}{id bb:Nat}{b0 b:Aau}{c':List Value}{T:TypeId}{fr:Nat×Nat}(h0:hp id=some b0)(hz0:b0.fz=false)(hz:b.fz=false)(hbs:bb∈(ρ id).bs)(hs:Cln W bb c' T fr W')(hk:Aml (ρ id) b0 (ρ id) b)(he:id<32→Evo (g.getD id false) (ρ id) (ρ id) b0 b)(hro:Aqs g=true→32≤id):Ayk g F ρ hp W id (ρ id) b W':=by
 refine⟨hs.os,hs.tape,hs.output,by rw[hs.size];exact Nat.le_refl _,fun k _ hn=>hs.ne k ?_,fun k hk=>.inl ⟨b0,h0,hk⟩,fun b1 h1=>?_,fun h=>?_,hz,hro⟩
 ·rintro rfl;exact hn b0 h0 hbs
 ·rw[h0]at h1;cases h1;exact⟨hz0,hk,he⟩
 ·rw[h0]at h;cases h
theorem BR.pool_set{F:Fz}{ρ:Rho}{hp hp':Aam}{W W':World}{id k bb:Nat}{T:TypeId}{t:Ty}{xs:List (t.den×Option Nat)}{fr:Nat×Nat}{rs':List Value}{v':Value}{y:t.den}{o':Option Nat}(h:BR F ρ hp W id (.pool T t xs))(hb:(ρ id).bs[k]? = some bb)(hset:Cln W bb (rs'++[v']) T fr W')(hfr:NF fr (rs'.length+1))(hy:RC F t y rs')(ho:PoR (ρ id).bs o' v') :
  BR F ρ hp' W' id (.pool T t (xs.set k (y,o'))):=by
 obtain⟨h1,h2,h3⟩:=h
 refine⟨h1,by rw[List.length_set];exact h2,fun j x hx=>?_⟩
 by_cases e:j=k
 ·subst e
  have hk:j<xs.length:=by have:=(List.getElem?_eq_some_iff.1 hx).1;simpa using this
  rw[List.getElem?_set_self hk]at hx
  cases hx
  exact⟨bb,rs',fr,v',hb,hset.at_,hfr,hy,ho⟩
 ·rw[List.getElem?_set_ne (fun h=>e h.symm)]at hx
  obtain⟨b2,rs,fr2,v,g1,g2,g3,g4,g5⟩:=h3 j x hx
  refine⟨b2,rs,fr2,v,g1,?_,g3,g4,g5⟩
  rw[hset.ne b2 (fun hh=>e ?_)]
  ·exact g2
  ·subst hh
   obtain⟨i1,e1⟩:=List.getElem?_eq_some_iff.1 g1
   obtain⟨i2,e2⟩:=List.getElem?_eq_some_iff.1 hb
   exact (List.getElem_inj h1).1 (e1.trans e2.symm)
theorem Cbt{cs new:List Aby}{o:Nat}(h:o+new.length≤cs.length):(Aqd cs o new).length=cs.length:=by
 simp[Aqd];omega
theorem A92{R:Aby→Value→Prop}{cs new:List Aby}{rs vs:List Value}{o:Nat}(h:Abs R cs rs)(k:Abs R new vs) :
  Abs R (Aqd cs o new) (rs.take o++vs++rs.drop (o+vs.length)):=by
 rw[←k.length]
 exact ((h.take o).append k).append (h.drop _)
theorem C9o{F:Fz}{t:Ty}{xs:List t.den}{rs:List Value}{idx:Nat}{y:t.den}{new:List Value}(hl:xs.length*t.size≤rs.length)(h:∀i,i<xs.length→RC F t (xs.getD i t.dflt) ((rs.drop (i*t.size)).take t.size))(hi:idx<xs.length)(hy:RC F t y new) :
  ∀i,i<(xs.set idx y).length→RC F t ((xs.set idx y).getD i t.dflt) (((rs.take (idx*t.size)++new++rs.drop (idx*t.size+t.size)).drop (i*t.size)).take t.size):=by
 have hn:=hy.length
 have hle:(idx+1)*t.size≤xs.length*t.size:=Nat.mul_le_mul_right _ (by omega)
 rw[Nat.add_mul,Nat.one_mul]at hle
 intro i hlt
 simp only[List.length_set]at hlt
 have hlei:(i+1)*t.size≤xs.length*t.size:=Nat.mul_le_mul_right _ (by omega)
 rw[Nat.add_mul,Nat.one_mul]at hlei
 have e1:(rs.take (idx*t.size)).length=idx*t.size:=by simp;omega
 by_cases e:i=idx
 ·subst e
  have e2:(xs.set i y).getD i t.dflt=y:=by simp[List.getD_eq_getElem?_getD,hi]
  rw[e2,List.append_assoc,List.drop_append_of_le_length (by omega),List.drop_of_length_le (by omega),List.nil_append,List.take_append_of_le_length (by omega),List.take_of_length_le (by omega)]
  exact hy
 ·have e2:(xs.set idx y).getD i t.dflt=xs.getD i t.dflt:=by simp[List.getD_eq_getElem?_getD,List.getElem?_set_ne (Ne.symm e)]
  rw[e2]
  have:=h i hlt
  have e3:(((rs.take (idx*t.size)++new++rs.drop (idx*t.size+t.size)).drop (i*t.size)).take t.size)=(rs.drop (i*t.size)).take t.size:=by
   apply List.ext_getElem?
   intro j
   by_cases hj:j<t.size
   ·simp only[List.getElem?_take,hj,if_true,List.getElem?_drop]
    by_cases hlt':i<idx
    ·have:(i+1)*t.size≤idx*t.size:=Nat.mul_le_mul_right _ (by omega)
     rw[Nat.add_mul,Nat.one_mul]at this
     rw[List.append_assoc,List.getElem?_append_left (by omega),List.getElem?_take]
     simp;omega
    ·have:(idx+1)*t.size≤i*t.size:=Nat.mul_le_mul_right _ (by omega)
     rw[Nat.add_mul,Nat.one_mul]at this
     rw[List.getElem?_append_right (by simp;omega)]
     simp only[List.length_append,e1,hn,List.getElem?_drop]
     congr 1;omega
   ·rw[List.getElem?_eq_none (by simp;omega),List.getElem?_eq_none (by simp;omega)]
  rw[e3];exact this
section
variable {P:Program}
theorem A65{g:List Bool}{hp:Aam}{id:Nat}{b:Aau}{l:List (Nat×Aau)}(h:Af5 g hp ((id,b)::l)=true):Af5 g hp l=true∧
  (id<32→∃b0,hp id=some b0∧match b0,b with
   | .cells _ _,.cells _ _=>True
   | .amap _ _ _ _,.amap _ _ _ _=>True
   | .fmap _ _ _,.fmap _ _ _=>True
   | .pool _ _ _,.pool _ _ _=>True
   | .pmap _ _ p _,.pmap _ _ q _=>p=q
   | .row _ _ v fz _,.row _ _ v' fz' _=>fz=fz'∧(v=v'∨g.getD id false=true)
   | _,_=>False):=by
 simp only[Af5,Bool.and_eq_true]at h
 refine⟨h.2.2,fun hlt=>?_⟩
 have h1:=h.1
 have:Nat.ble 32 id=false:=by
  cases e:Nat.ble 32 id with
  |false=>rfl
  |true=>have:=Nat.le_of_ble_eq_true e;omega
 rw[this]at h1
 simp only at h1
 cases hb:hp id with
 |none=>rw[hb]at h1;cases h1
 |some b0=>
  rw[hb]at h1
  refine⟨b0,rfl,?_⟩
  cases b0<;>cases b<;>simp at h1 ⊢
  ·exact⟨h1.1,h1.2.imp (fun h=>h) (fun h=>h)⟩
  ·exact h1
theorem Bt5{g:List Bool}{hp:Aam}:∀{l:List (Nat×Aau)},Af5 g hp l=true→Aqs g=true→∀p,p∈l→32≤p.1
 |(id,b)::l,h,hr,p,hm=>by
  simp only[Af5,Bool.and_eq_true,hr,Bool.not_true,Bool.false_or]at h
  rcases List.mem_cons.1 hm with rfl|hm
  ·exact Nat.le_of_ble_eq_true h.2.1
  ·exact Bt5 h.2.2 hr p hm
theorem Alb{g:List Bool}{hp:Aam}{id:Nat}{b:Aau}{l:List (Nat×Aau)}(h:Af5 g hp ((id,b)::l)=true)(hr:Aqs g=true):32≤id :=
 Bt5 h hr (id,b) (List.mem_cons_self ..)
theorem A93{g:List Bool}{hp:Aam}:∀{l m:List (Nat×Aau)},Af5 g hp (l++m)=true→Af5 g hp l=true∧Af5 g hp m=true
 |[],m,h=>⟨rfl,h⟩
 |(id,b)::l,m,h=>by
  simp only[List.cons_append,Af5,Bool.and_eq_true]at h ⊢
  have:=A93 h.2.2
  exact⟨⟨h.1,h.2.1,this.1⟩,this.2⟩
theorem Ch9{g:List Bool}{hp hq:Aam}:∀{fr:List Nat},(∀id b,hq id=some b→hp id=some b)→Af5 g hp (Agv hq fr)=true→∀id,id∈fr→∀E t ver xs,hq id=some (.row E t ver false xs)→32≤id
 |[],_,_,id,hi,_,_,_,_,_=>by simp at hi
 |i::r,hs,h,id,hi,E,t,ver,xs,hb=>by
  by_cases e:id=i
  ·subst e
   have e:Agv hq (id::r)=(id,.row E t ver true xs)::Agv hq r:=by simp[Agv,hb]
   rw[e]at h
   rcases Nat.lt_or_ge id 32 with hlt|hge
   ·obtain⟨b0,h0,hm⟩:=(A65 h).2 hlt
    rw[hs _ _ hb]at h0;cases h0
    simp at hm
   ·exact hge
  ·have hr:Af5 g hp (Agv hq r)=true:=by
    simp only[Agv]at h
    split at h
    ·exact (A65 h).1
    ·exact h
   exact Ch9 hs hr id (by simp[e]at hi;exact hi) E t ver xs hb
theorem B2d{hq:Aam}{x y:Apg}{l:List Nat}(h:x.frz hq=some (y,l)):Bps hq l:=by
 cases x<;>simp only[Apg.frz]at h<;>try (cases h;intro id hi;simp at hi;done)
 ·split at h
  ·split at h
   ·cases h;intro id hi;simp at hi;subst hi;exact⟨_,_,_,_,_,by assumption⟩
   ·cases h
  ·cases h
 ·split at h
  ·split at h
   ·cases h;intro id hi;simp at hi;subst hi;exact⟨_,_,_,_,_,by assumption⟩
   ·cases h
  ·cases h
theorem B2e{hq:Aam}{x y:Aby}{l:List Nat}(h:x.frz hq=some (y,l)):Bps hq l:=by
 cases x with
 |a x=>
  simp only[Aby.frz]at h
  split at h
  ·rename_i z m hz;cases h;exact B2d hz
  ·cases h
 |func f caps=>cases h;intro id hi;simp at hi
 |meth f caps=>cases h;intro id hi;simp at hi
 |iface T cs=>cases h;intro id hi;simp at hi
theorem A66{hq:Aam}:∀{cs ds:List Aby} {l:List Nat},Apy hq cs=some (ds,l)→Bps hq l
 |[],ds,l,h=>by cases h;intro id hi;simp at hi
 |c::cs,ds,l,h=>by
  simp only[Apy]at h
  split at h
  ·rename_i d l1 s m hd hs
   cases h
   intro id hi
   simp at hi
   rcases hi with hi|hi
   ·exact B2e hd id hi
   ·exact A66 hs id hi
  ·cases h
theorem Ahf{x:Nat}:∀{l:List Nat},Aos x l=true ↔ x∈l
 |[]=>by simp[Aos]
 |y::r=>by
  simp only[Aos,List.mem_cons]
  cases e:Nat.beq x y with
  |true=>simp[Aa8 e]
  |false=>
   have:x≠y:=fun h=>by subst h;rw[Bg2]at e;cases e
   simp[Ahf (l:=r),this]
theorem Cpg{g:List Bool}{F:Fz}{ρ:Rho}{hp hq:Aam}{W:World}(hh:Abx F ρ hp W)(hs:∀id b,hq id=some b→hp id=some b){fr:List Nat}(hr:Bps hq fr)(hg:Af5 g hp (Agv hq fr)=true):∃F',Ch8 g F ρ hp W F' (Aa3 hp (Agv hq fr)) fr :=
 Bir g hh hr (fun _ _ _ _ fz _ hb _=>⟨fz,hs _ _ hb,fun h=>h⟩) (Ch9 hs hg)
theorem Aif.frozen{g:List Bool}{F F1:Fz}{ρ:Rho}{hp hp1 hp2:Aam}{W W2:World}{fr:List Nat}{v:AV}{r:Value}(h:Ch8 g F ρ hp W F1 hp1 fr)(k:Aif g F1 ρ hp1 W hp2 v r W2):Aif g F ρ hp W hp2 v r W2:=by
 obtain⟨F2,ρ2,a,b,c,d⟩:=k
 exact⟨F2,ρ2,a,fun x y hx=>b x y (RV.mono h.ext.fmono h.keep hx),c,h.ext.trans d⟩
theorem C31{tt:TT}(htt:Aj1 P tt){g:List Bool}{hq:Aam}{T:TypeId}{x v:AV}{R:Type}{K:KD R}{res:R}(h:Cte tt hq T x v K=some res) :
  ∃l,K l (.at .undef)=some res∧∀F ρ hp W rx rv,Abx F ρ hp W→(∀id b,hq id=some b→hp id=some b)→Af5 g hp l=true→RV F ρ hp x rx→RV F ρ hp v rv→
   ∃W',(Instr.storeAt T rx rv).run P W = .ok () W'∧Aif g F ρ hp W (Aa3 hp l) (.at .undef) undef W':=by
 unfold Cte at h
 split at h
 case h_2=>cases h
 rename_i i new hi hnew
 split at h
 ·cases h
 rename_i hlen
 have hlen:=Aa8 hlen
 split at h
 case h_3=>cases h
 case h_2=>
  rename_i id k fld
  split at h
  case h_2=>cases h
  rename_i E t xs hb
  split at h
  case h_2=>cases h
  rename_i c hcc
  have hone:i.size=1:=by simpa using hlen.symm
  have obj:∀{F:Fz} {ρ:Rho} {hp:Aam} {W:World} {rx:Value},Abx F ρ hp W→hp id=some (.pool E t xs)→RA F ρ hp (.pr id k fld) rx→
    ∃bb rs fr v,k<xs.length∧rx = .pointer (some ⟨bb,fld,none⟩)∧(ρ id).bs[k]? = some bb∧W.heap[bb]? = some (.cells (rs++[v]).toArray E fr)∧NF fr (rs.length+1)∧RC F t (xs.getD k (t.dflt,none)).1 rs∧PoR (ρ id).bs (xs.getD k (t.dflt,none)).2 v:=by
   intro F ρ hp W rx hh hb' hx
   obtain⟨T2,t2,xs2,hb2,bb,hbs,rfl⟩:=hx
   rw[hb']at hb2;cases hb2
   obtain⟨h1,h2,h3⟩:=hh.blocks id _ hb'
   have hk:k<xs.length:=by rw[←h2];exact (List.getElem?_eq_some_iff.1 hbs).1
   obtain⟨bb',rs,fr,v,g1,g2,g3,g4,g5⟩:=h3 k xs[k] (List.getElem?_eq_getElem hk)
   rw[hbs]at g1;cases g1
   have hx:xs.getD k (t.dflt,none)=xs[k]:=by rw[List.getD_eq_getElem?_getD,List.getElem?_eq_getElem hk];rfl
   exact⟨bb,rs,fr,v,hk,rfl,hbs,g2,g3,by rw[hx];exact g4,by rw[hx];exact g5⟩
  have keep:∀(ρ:Rho) (ys:List (t.den×Option Nat)),Aml (ρ id) (.pool E t xs) (ρ id) (.pool E t ys):=fun ρ ys=>⟨Nat.le_refl _,fun h=>(by simp[Aau.isMap]at h),fun _=>trivial,fun _ _ h=>h⟩
  have last:∀o',K [(id,.pool E t (xs.set k ((xs.getD k (t.dflt,none)).1,o')))] (.at .undef)=some res→fld=t.size→
    (∀(F:Fz) (ρ:Rho) (hp:Aam) (rv:Value),hp id=some (.pool E t xs)→Abm F ρ hp c rv→PoR (ρ id).bs o' rv)→
    ∃l,K l (.at .undef)=some res∧∀F ρ hp W rx rv,Abx F ρ hp W→(∀id b,hq id=some b→hp id=some b)→Af5 g hp l=true→RV F ρ hp (.at (.pr id k fld)) rx→RV F ρ hp v rv→
     ∃W',(Instr.storeAt T rx rv).run P W = .ok () W'∧Aif g F ρ hp W (Aa3 hp l) (.at .undef) undef W':=by
   intro o' hK hf hpo
   refine⟨_,hK,fun F ρ hp W rx rv hh hs hg hx hv=>?_⟩
   have hb':=hs _ _ hb
   obtain⟨bb,rs,fr,v0,hk,rfl,hbs,g2,g3,g4,g5⟩:=obj hh hb' hx
   obtain⟨hn1,hn2⟩:=A64 hnew hv
   have hsz:rv.cells.size=i.size:=by have:=hn1.length;simp at this;omega
   have hl:=g4.length
   obtain⟨W',hrun,hset⟩:=Bct htt hi g2 (by simpa using g3) hsz (o:=fld) (by simp;omega) hn2
   refine⟨W',by simpa [Instr.storeAt,Instr.sureAddr]using hrun,?_⟩
   obtain⟨v2,hv2⟩:∃v2,rv.cells.toList=[v2]:=by
    have:rv.cells.toList.length=1:=by simpa [hone]using hsz
    match hq:rv.cells.toList with
    |[a]=>exact⟨a,rfl⟩
    |[]=>rw[hq]at this;cases this
    | _::_::_=>rw[hq]at this;simp at this
   rw[hv2]at hn1
   have e:(rs++[v0]).toArray.toList.take fld++rv.cells.toList++(rs++[v0]).toArray.toList.drop (fld+i.size)=rs++[v2]:=by
    rw[hv2,hf,←hl];simp[hone]
   rw[e]at hset
   have hpt:=Ayk.inplaceM (g:=g) (F:=F) (b:=.pool E t (xs.set k ((xs.getD k (t.dflt,none)).1,o'))) hb' rfl rfl (List.mem_of_getElem? hbs) hset (keep ρ _) (fun _=>⟨rfl,rfl,fun _ _ h=>h⟩) (Alb hg)
   refine hpt.good hh ?_ trivial
   rw[Ans]
   exact (hh.blocks id _ hb').pool_set hbs hset g3 g4 (hpo F ρ hp v2 hb' hn1.1)
  split at h
  ·rename_i hf
   have hf:=Aa8 hf
   split at h
   ·exact last _ h hf fun F ρ hp rv _ hr=>hr
   ·rename_i id' o
    split at h
    case h_2=>cases h
    rename_i he
    have he:=Aa8 he
    subst he
    exact last _ h hf fun F ρ hp rv _ hr=>hr.2
   ·rename_i id' k'
    split at h
    case h_2=>cases h
    rename_i he
    have he:=Aa8 he
    subst he
    refine last _ h hf fun F ρ hp rv _ hr=>?_
    obtain⟨_,_,_,_,bb,h1,h2⟩:=hr
    exact⟨bb,h1,h2⟩
   ·cases h
  ·split at h
   case h_2=>cases h
   rename_i _ _ _ y hle hfl hy
   have hle:=Nat.le_of_ble_eq_true hle
   refine⟨_,h,fun F ρ hp W rx rv hh hs hg hx hv=>?_⟩
   have hb':=hs _ _ hb
   obtain⟨bb,rs,fr,v0,hk,rfl,hbs,g2,g3,g4,g5⟩:=obj hh hb' hx
   obtain⟨hn1,hn2⟩:=A64 hnew hv
   have hsz:rv.cells.size=i.size:=by have:=hn1.length;simp at this;omega
   have hl:=g4.length
   obtain⟨W',hrun,hset⟩:=Bct htt hi g2 (by simpa using g3) hsz (o:=fld) (by simp;omega) hn2
   refine⟨W',by simpa [Instr.storeAt,Instr.sureAddr]using hrun,?_⟩
   have hlen2:rv.cells.toList.length=1:=by simpa [hone]using hsz
   have e:(rs++[v0]).toArray.toList.take fld++rv.cells.toList++(rs++[v0]).toArray.toList.drop (fld+i.size)=(rs.take fld++rv.cells.toList++rs.drop (fld+rv.cells.toList.length))++[v0]:=by
    rw[show (rs++[v0]).toArray.toList=rs++[v0] from rfl,hlen2,hone,List.take_append_of_le_length (by omega),List.drop_append_of_le_length (by omega)]
    simp[List.append_assoc]
   rw[e]at hset
   have hyv:=Bb6 hy (A92 (o:=fld) (Awn (ρ:=ρ) (hp:=hp) g4) hn1)
   have hpt:=Ayk.inplaceM (g:=g) (F:=F) (b:=.pool E t (xs.set k (y,(xs.getD k (t.dflt,none)).2))) hb' rfl rfl (List.mem_of_getElem? hbs) hset (keep ρ _) (fun _=>⟨rfl,rfl,fun _ _ h=>h⟩) (Alb hg)
   refine hpt.good hh ?_ trivial
   rw[Ans]
   refine (hh.blocks id _ hb').pool_set hbs hset ?_ hyv g5
   rw[show (rs.take fld++rv.cells.toList++rs.drop (fld+rv.cells.toList.length)).length=rs.length by simp;omega]
   exact g3
 rename_i id ver idx fld
 split at h
 ·rename_i T' cs hb
  split at h
  case h_2=>cases h
  rename_i hle
  have hle:=Nat.le_of_ble_eq_true hle
  refine⟨_,h,fun F ρ hp W rx rv hh hs hg hx hv=>?_⟩
  obtain⟨b,hb2,hvl,ad,rfl,hc⟩:=hx
  have hb':=hs _ _ hb
  rw[hb']at hb2;cases hb2
  simp only[Aau.ver,Nat.le_zero]at hvl
  subst hvl
  obtain⟨rfl,bb,hbs,rfl⟩:=hc rfl
  obtain⟨bb',rs,fr,h1,h2,h3,h4⟩:=hh.blocks id _ hb'
  rw[h1]at hbs;cases hbs
  obtain⟨hn1,hn2⟩:=A64 hnew hv
  have hsz:rv.cells.size=i.size:=by have:=hn1.length;simp at this;omega
  have hrl:rs.size=cs.length:=by simpa using h4.length.symm
  obtain⟨W',hrun,hset⟩:=Bct htt hi h2 h3 hsz (o:=fld) (by omega) hn2
  refine⟨W',by simpa [Instr.storeAt,Instr.sureAddr]using hrun,?_⟩
  have hk:Aml (ρ id) (.cells T' cs) (ρ id) (.cells T' (Aqd cs fld new)):=⟨Nat.le_refl _,fun h=>(by simp[Aau.isMap]at h),fun _=>rfl,trivial⟩
  have hpt:=Ayk.inplace (g:=g) (F:=F) (b:=.cells T' (Aqd cs fld new)) hb' rfl rfl h1 hset hk (fun _=>⟨rfl,(Cbt hle).symm,rfl⟩) (Alb hg)
  refine hpt.good hh ?_ trivial
  have hkeep:=hpt.keep
  rw[Ans]at hkeep ⊢
  refine⟨bb,_,fr,h1,hset.at_,?_,?_⟩
  ·have:(rs.toList.take fld++rv.cells.toList++rs.toList.drop (fld+i.size)).toArray.size=rs.size:=by simp;omega
   rw[this];exact h3
  ·have:=A92 (R:=Abm F ρ (Aht hp id (.cells T' (Aqd cs fld new)))) (o:=fld) (h4.mono fun _ _=>Abm.mono (fun _ _ h=>h) hkeep) (hn1.mono fun _ _=>Abm.mono (fun _ _ h=>h) hkeep)
   have e:rv.cells.toList.length=i.size:=by simpa using hsz
   rw[e]at this
   simpa using this
 ·rename_i E t ver' xs hb
  split at h
  case h_2=>cases h
  rename_i new' fr0 hv1 hfr
  have hv1:=Aa8 hv1;subst hv1
  split at h
  case h_2=>cases h
  rename_i hnm hle
  have hle:=Nat.le_of_ble_eq_true hle
  split at h
  case h_2=>cases h
  rename_i y hy
  refine⟨_,h,fun F ρ hp W rx rv hh hs hg hx hv=>?_⟩
  obtain⟨hg1,hg2⟩:=A93 hg
  rw[Azc]
  obtain⟨F1,hfz⟩:=Cpg hh hs (A66 hfr) hg1
  obtain⟨b,hb2,hvl,ad,rfl,hc⟩:=hx
  have hb':=hs _ _ hb
  rw[hb']at hb2;cases hb2
  obtain⟨hidx,bb,hbs,rfl⟩:=hc rfl
  have hnot:id∉fr0:=fun hm=>by rw[Ahf.2 hm]at hnm;cases hnm
  have hb1:Aa3 hp (Agv hq fr0) id=some (.row E t ver false xs):=by rw[hfz.same id hnot];exact hb'
  rcases hh.blocks id _ hb' with ⟨i1,_⟩|⟨bb',rs,fr,h1,h2,h3,h4,h5,h6,h7⟩
  ·rw[i1]at hbs;cases hbs
  rw[h1]at hbs;cases hbs
  obtain⟨hn1,hn2⟩:=A64 hnew hv
  have hsz:rv.cells.size=i.size:=by have:=hn1.length;simp at this;omega
  have hnl:new'.length=new.length:=by
   have:∀{cs ds:List Aby} {l:List Nat},Apy hq cs=some (ds,l)→ds.length=cs.length:=by
    intro cs
    induction cs with
    |nil=>intro ds l h;cases h;rfl
    |cons c cs ih=>
     intro ds l h
     simp only[Apy]at h
     split at h
     ·rename_i hd hs';cases h;simp[ih hs']
     ·cases h
   exact this hfr
  have hbound:idx*t.size+t.size≤rs.size:=by
   rw[h4,←Nat.succ_mul];exact Nat.mul_le_mul_right _ (by omega)
  obtain⟨W',hrun,hset⟩:=Bct htt hi h2 h3 hsz (o:=idx*t.size+fld) (by omega) hn2
  refine⟨W',by simpa [Instr.storeAt,Instr.sureAddr]using hrun,Aif.frozen hfz ?_⟩
  have hk:Aml (ρ id) (.row E t ver false xs) (ρ id) (.row E t ver false (xs.set idx y)):=⟨Nat.le_refl _,fun h=>(by simp[Aau.isMap]at h),fun _=>⟨rfl,by simp,rfl⟩,trivial⟩
  have hpt:=Ayk.inplace (g:=g) (F:=F1) (b:=.row E t ver false (xs.set idx y)) hb1 rfl rfl h1 hset hk (fun _=>⟨rfl,rfl,rfl,fun _=>⟨by simp,rfl⟩⟩) (Alb hg2)
  refine hpt.good hfz.ok ?_ trivial
  rw[Ans]
  refine .inr ⟨bb,_,fr,h1,hset.at_,?_,?_,by simpa using h5,?_,fun h=>by cases h⟩
  ·have:(rs.toList.take (idx*t.size+fld)++rv.cells.toList++rs.toList.drop (idx*t.size+fld+i.size)).toArray.size=rs.size:=by simp;omega
   rw[this];exact h3
  ·rw[←h4];simp;omega
  ·-- the element's cells,one part of them replaced
   have hnewv:=Biq hh hs hfr hn1 F1 hfz.ext.fmono hfz.snap
   have hel:=(h6 idx hidx).mono hfz.ext.fmono
   have hcs:=Awn (ρ:=ρ) (hp:=hp) hel
   have hrep:=A92 (o:=fld) hcs hnewv
   have hyv:=Bb6 hy hrep
   have hlen2:rv.cells.toList.length=i.size:=by simpa using hsz
   have hl6:xs.length*t.size≤rs.toList.length:=by simp;rw[h4];exact Nat.mul_le_mul_right _ h5
   have:=C9o (rs:=rs.toList) hl6 (fun j hj=>(h6 j hj).mono hfz.ext.fmono) hidx hyv
   have e:rs.toList.take (idx*t.size)++((Afk rs (idx*t.size) t.size).take fld++rv.cells.toList++(Afk rs (idx*t.size) t.size).drop (fld+rv.cells.toList.length))++rs.toList.drop (idx*t.size+t.size)
     = rs.toList.take (idx*t.size+fld)++rv.cells.toList++rs.toList.drop (idx*t.size+fld+i.size):=by
    rw[hlen2]
    unfold Afk
    rw[List.take_take,Nat.min_eq_left (by omega),List.drop_take,List.drop_drop,List.take_add]
    simp only[List.append_assoc]
    congr 2
    congr 1
    have hlt:fld+i.size≤t.size:=by omega
    rw[show rs.toList.drop (idx*t.size+fld+i.size)=rs.toList.drop (idx*t.size+(fld+i.size)) by congr 1;omega]
    have:=List.take_append_drop (t.size-(fld+i.size)) (rs.toList.drop (idx*t.size+(fld+i.size)))
    rw[List.drop_drop]at this
    rw[show idx*t.size+t.size=idx*t.size+(fld+i.size)+(t.size-(fld+i.size)) by omega]
    exact this
   rw[e]at this
   simpa [Afk]using this
 ·cases h
end
end
end Go.AX

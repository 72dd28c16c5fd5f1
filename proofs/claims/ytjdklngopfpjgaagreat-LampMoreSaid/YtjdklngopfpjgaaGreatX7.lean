/- A reading of the model's code over typed data,proved sound: library functions,plain words. -/
import Derived.Test.YtjdklngopfpjgaaGreatX6
import Derived.Shelf.Strings.Builder1
import Derived.Shelf.Small.Strs
import Derived.Shelf.Strconv.Itoa3
import Derived.Lib.ItoaLen
import Derived.IntWalk
namespace Go.AX
noncomputable section
def Bxh(s:List UInt8)(c:Int):Int:=Lib.indexByte s c.toNat.toUInt8
def Bk9:Aad where
 pure:=[true,true]
 grow:=[]
 mat:=false
 run _ args bl K:=match args with
  |[.v (.one (.a (.val .str s))),.v (.one (.a (.val (.int .u8) c)))]=>K (vi (Bxh s c)) bl []
  | _=>none
theorem Ct5{P:Program}{f:FuncId}(h:∀(s:ByteArray) (c:Int) (w:World),Calls P f #[.string s,.int .u8 c] w fun e w'=>e = .returned (.int .i64 (Lib.indexByte s.data.toList c.toNat.toUInt8))∧w'=w):Azb P f Bk9:=by
 intro R args bl K r hrun
 simp only[Bk9]at hrun
 split at hrun
 case h_2=>cases hrun
 rename_i s c
 refine⟨_,bl,[],hrun,fun F ρ W rargs hargs hh=>?_⟩
 obtain⟨x,r1,e1,hx,h1⟩:=hargs.cons_left
 obtain⟨y,r2,e2,hy,h2⟩:=h1.cons_left
 have h2:=h2.nil_left
 have hx:[x]=[Value.string ⟨(s:List UInt8).toArray⟩]:=hx
 have hy:[y]=[Value.int .u8 c]:=hy
 have hx:x = .string ⟨(s:List UInt8).toArray⟩:=by simpa using hx
 have hy:y = .int .u8 c:=by simpa using hy
 have hr:rargs = #[.string ⟨(s:List UInt8).toArray⟩,.int .u8 c]:=by
  apply Array.ext'
  rw[e1,e2,h2,hx,hy]
 subst hr
 refine (h _ _ W).mono ?_
 rintro e w' ⟨rfl,rfl⟩
 exact⟨_,F,ρ,rfl,by show [_]=[_];simp[Bxh],hh,Ext.refl _ _ _ _ _⟩
end
end Go.AX
namespace Go.AX
noncomputable section
open Go.Proofs Go.Shelf Go.RowKit
theorem Amt(a b:Aau)(id:Nat):Af4 [a,b] [] id=if id=0 then some a else if id=1 then some b else none:=by
 simp only[Af4]
 cases e:Nat.ble 32 id with
 |true=>
  have:=Nat.le_of_ble_eq_true e
  simp
  rw[if_neg (by omega),if_neg (by omega)]
 |false=>
  match id with
  |0=>rfl
  |1=>rfl
  |n+2=>simp
def C1a(hp:Aam)(T:TypeId):Aam:=AX.Aht hp 0 (.cells T [.a (.ptr 0 0 0 0),.a (.slf 1 0)])
def Bla(T E:TypeId):Aad where
 pure:=[false]
 grow:=[]
 mat:=true
 run _ args bl K:=match args,bl with
  |[.v (.one (.a (.ptr 0 0 0 0)))],[.cells T' [.a x0,.a (.slf 1 0)],.row E' (.int .u8) 0 false xs]=>match Nat.beq T' T,x0 with
   |true,.nilptr=>K (.tup []) [.cells T' [.a (.ptr 0 0 0 0),.a (.slf 1 0)],.row E' (.int .u8) 0 false xs] []
   |true,.ptr 0 0 0 0=>K (.tup []) [.cells T' [.a (.ptr 0 0 0 0),.a (.slf 1 0)],.row E' (.int .u8) 0 false xs] []
   | _,_=>none
  | _,_=>none
theorem Ct6{P:Program}{f:FuncId}{T E:TypeId}(hu:∀(b:Nat) (w:World),w.cell? ⟨b,0,none⟩=some (.pointer (some ⟨b,0,none⟩))→Calls P f #[.pointer (some ⟨b,0,none⟩)] w fun e w'=>e = .returned (.tuple #[])∧w'=w)(hf:∀(b:Nat) (w:World),w.cell? ⟨b,0,none⟩=some (.pointer none)→w.shape? b=some (T,2)→w.frozen? ⟨b,0,none⟩=false→Calls P f #[.pointer (some ⟨b,0,none⟩)] w fun e w'=>e = .returned (.tuple #[])∧w'=w.setCell ⟨b,0,none⟩ (.pointer (some ⟨b,0,none⟩))) :
  Azb P f (Bla T E):=by
 intro R args bl K r hrun
 simp only[Bla]at hrun
 split at hrun
 case h_2=>cases hrun
 rename_i T' x0 E' xs
 have start:∀(x0:Apg) F ρ W (rargs:Array Value),Abs (RV F ρ (Af4 [.cells T' [.a x0,.a (.slf 1 0)],.row E' (.int .u8) 0 false xs] [])) [.v (.one (.a (.ptr 0 0 0 0)))] rargs.toList→
   Abx F ρ (Af4 [.cells T' [.a x0,.a (.slf 1 0)],.row E' (.int .u8) 0 false xs] []) W→
   ∃bb v0 v1 fr,rargs = #[.pointer (some ⟨bb,0,none⟩)]∧(ρ 0).bs=[bb]∧W.heap[bb]? = some (.cells #[v0,v1] T' fr)∧NF fr 2∧RA F ρ (Af4 [.cells T' [.a x0,.a (.slf 1 0)],.row E' (.int .u8) 0 false xs] []) x0 v0∧
    RA F ρ (Af4 [.cells T' [.a x0,.a (.slf 1 0)],.row E' (.int .u8) 0 false xs] []) (.slf 1 0) v1:=by
  intro x0 F ρ W rargs hargs hh
  obtain⟨x,r1,e1,hx,hr1⟩:=hargs.cons_left
  have hr1:=hr1.nil_left
  obtain⟨b0,hb0,_,ad,rfl,had⟩:=hx
  rw[Amt]at hb0
  simp only[if_true,Option.some.injEq]at hb0
  subst hb0
  obtain⟨_,bb,hbs,rfl⟩:=had rfl
  obtain⟨bb',rs,fr,h1,h2,h3,h4⟩:=hh.blocks 0 _ (by rw[Amt];rfl)
  rw[hbs]at h1;cases h1
  obtain⟨v0,m,e2,g0,h5⟩:=h4.cons_left
  obtain⟨v1,m',e3,g1,h6⟩:=h5.cons_left
  have h6:=h6.nil_left
  subst h6
  have:rs = #[v0,v1]:=by apply Array.ext';rw[e2,e3]
  subst this
  refine⟨bb,v0,v1,fr,?_,hbs,h2,by simpa using h3,g0,g1⟩
  apply Array.ext';rw[e1,hr1]
 split at hrun
 case h_3=>cases hrun
 ·-- fresh
  rename_i hT
  have hT:=Aa8 hT
  subst hT
  refine⟨_,_,_,hrun,fun F ρ W rargs hargs hh=>?_⟩
  obtain⟨bb,v0,v1,fr,rfl,hbs,hheap,hnf,g0,g1⟩:=start .nilptr F ρ W rargs hargs hh
  have g0:v0 = .pointer none:=g0
  subst g0
  refine (hf bb W (by simp[World.cell?,hheap]) (by simp[World.shape?,hheap]) (Cpf hheap (by simpa using hnf) (by simp))).mono ?_
  rintro e w' ⟨rfl,rfl⟩
  have hset:=B53 hheap (.pointer (some ⟨bb,0,none⟩)) (o:=0)
  have hp0:Af4 [.cells T' [.a .nilptr,.a (.slf 1 0)],.row E' (.int .u8) 0 false xs] [] 0=some (.cells T' [.a .nilptr,.a (.slf 1 0)]):=by rw[Amt];rfl
  have Aht:Ayk [] F ρ (Af4 [.cells T' [.a .nilptr,.a (.slf 1 0)],.row E' (.int .u8) 0 false xs] []) W 0 (ρ 0) (.cells T' [.a (.ptr 0 0 0 0),.a (.slf 1 0)]) (W.setCell ⟨bb,0,none⟩ (.pointer (some ⟨bb,0,none⟩))) :=
   Ayk.inplace hp0 rfl rfl hbs hset ⟨Nat.le_refl _,fun h=>(by cases h),fun _=>rfl,trivial⟩ (fun _=>⟨rfl,rfl,rfl⟩) (fun h=>(by cases h))
  have hhp:C1a (Af4 [.cells T' [.a .nilptr,.a (.slf 1 0)],.row E' (.int .u8) 0 false xs] []) T'=Af4 [.cells T' [.a (.ptr 0 0 0 0),.a (.slf 1 0)],.row E' (.int .u8) 0 false xs] []:=by
   funext id
   by_cases e:id=0
   ·subst e;simp[C1a,Amt,Afw]
   ·rw[C1a,Ad6 e,Amt,Amt]
    simp[e]
  have hgood:=Aht.good (v:=.tup []) (r:=.tuple #[]) hh ?_ ⟨#[],rfl,trivial⟩
  ·obtain⟨F',ρ',k1,k2,k3,k4⟩:=hgood
   rw[show AX.Aht (Af4 [.cells T' [.a .nilptr,.a (.slf 1 0)],.row E' (.int .u8) 0 false xs] []) 0 (.cells T' [.a (.ptr 0 0 0 0),.a (.slf 1 0)])=_ from hhp]at k1 k3 k4
   exact⟨_,F',ρ',rfl,k3,k1,k4⟩
  ·refine⟨bb,_,fr,by simpa using hbs,hset.at_,by simpa using hnf,?_,?_,trivial⟩
   ·refine⟨_,Afw ..,Nat.le_refl _,_,rfl,fun _=>⟨rfl,bb,by simpa using hbs,rfl⟩⟩
   ·exact RA.mono (fun _ _ h=>h) Aht.keep g1
 ·-- used
  rename_i hT
  have hT:=Aa8 hT
  subst hT
  refine⟨_,_,_,hrun,fun F ρ W rargs hargs hh=>?_⟩
  obtain⟨bb,v0,v1,fr,rfl,hbs,hheap,hnf,g0,g1⟩:=start (.ptr 0 0 0 0) F ρ W rargs hargs hh
  obtain⟨b0,hb0,_,ad,rfl,had⟩:=g0
  rw[Amt]at hb0
  simp only[if_true,Option.some.injEq]at hb0
  subst hb0
  obtain⟨_,bb',hbs',rfl⟩:=had rfl
  rw[hbs]at hbs';cases hbs'
  refine (hu bb W (by simp[World.cell?,hheap])).mono ?_
  rintro e w' ⟨rfl,rfl⟩
  exact⟨_,F,ρ,rfl,⟨#[],rfl,trivial⟩,hh,Ext.refl _ _ _ _ _⟩
def Auh(xs:List Int):Bool:=xs.all fun n=>decide (0≤n∧n<256)
def Bn5(xs:List Int):List UInt8:=xs.map fun n=>UInt8.ofNat n.toNat
def Bn6(T E:TypeId):Aad where
 pure:=[false]
 grow:=List.replicate 32 true
 mat:=false
 run _ args bl K:=match args,bl with
  |[.v (.one (.a (.ptr 0 0 0 0)))],[.cells T' [.a x0,.a (.slf 1 0)],.row E' (.int .u8) 0 false xs]=>match Nat.beq T' T&&Nat.beq E' E,x0 with
   |true,.ptr 0 0 0 0=>if 0<List.length xs∧List.length xs≤LIM∧Auh xs=true then K (.at (.val .str (Bn5 xs))) [.cells T' [.a (.ptr 0 0 0 0),.a .undef],.row E' (.int .u8) 0 false []] [] else none
   | _,_=>none
  |[.v (.one (.a (.ptr 0 0 0 0)))],[.cells T' [.a .nilptr,.a .nilsl]]=>match Nat.beq T' T with
   |true=>K (.at (.val .str ([]:List UInt8))) [.cells T' [.a .nilptr,.a .nilsl]] []
   |false=>none
  | _,_=>none
structure Bub(b g:Nat)(w w':World):Prop where
 os:w'.os=w.os
 tape:w'.tape=w.tape
 output:w'.output=w.output
 size:w.heap.size≤w'.heap.size
 ne:∀k,k<w.heap.size→k≠g→w'.heap[k]? = w.heap[k]?
end
end Go.AX
namespace Go.AX
open Go.Proofs Go.Shelf Go.RowKit
variable {P:Program} {ρ:Go.Shelf.Ren}
theorem Bub.refl(b g:Nat)(w:World):Bub b g w w:=⟨rfl,rfl,rfl,Nat.le_refl _,fun _ _ _=>rfl⟩
theorem Bub.drew{b g:Nat}{w w':World}(h:Bub b g w w'):Bub b g w w'.drew:=⟨h.os,h.tape,h.output,h.size,h.ne⟩
theorem Bub.alloc{b g:Nat}{w w':World}(h:Bub b g w w')(o:Obj):Bub b g w (w'.alloc o) :=
 ⟨h.os,h.tape,h.output,by have:=h.size;simp;omega,fun k hk hg=>by
  rw[←h.ne k hk hg]
  exact Below.heap_alloc _ _ _ (Nat.lt_of_lt_of_le hk h.size)⟩
theorem Bub.freeze{b g:Nat}{w w':World}(h:Bub b g w w')(o n:Nat):Bub b g w (w'.freeze ⟨g,o,none⟩ n):=by
 unfold World.freeze
 split
 ·exact h
 ·exact⟨h.os,h.tape,h.output,by have:=h.size;simpa using this,fun k hk hg=>by
   rw[←h.ne k hk hg]
   simp only[Array.getElem?_modify]
   rw[if_neg (Ne.symm hg)]⟩
set_option maxHeartbeats 1000000 in
set_option maxRecDepth 100000 in
theorem Cef(L:Lays.n169 P ρ)(X:Builder.Extra P ρ)(b g cap:Nat)(cur:Array Value)(p:Value)(f1 f2:Nat×Nat)(l:List UInt8)(w:World)(hbk:w.heap[b]? = some (.cells #[p,.slice (some ⟨g,0,none⟩) l.length cap] (ρ.t 72) f1))(hg:w.heap[g]? = some (.cells cur (ρ.t 5) f2))(hnc:l.length≤cap)(hcm:l.length≤9223372036854775807)(hcs:l.length≤cur.size)(hown:∀j x,l[j]? = some x→w.cell? ((⟨g,0,none⟩:Addr).add j)=some (.int .u8 x.toNat))(h0:l≠[]) :
  Calls P (ρ.f 169) #[.pointer (some ⟨b,0,none⟩)] w fun e w'=>e = .returned (.string ⟨l.toArray⟩)∧Bub b g w w':=by
 have hl0:l.length≠0:=by simpa using h0
 have c1:w.drew.cell? ⟨b,1,none⟩=some (.slice (some ⟨g,0,none⟩) l.length cap):=by
  have:w.drew.heap[b]? = some (.cells #[p,.slice (some ⟨g,0,none⟩) l.length cap] (ρ.t 72) f1):=hbk
  simp[World.cell?,this]
 have hSD:(Builtin.unsafeSliceData_ #[(ρ.t 37)] (ρ.t 127) #[.slice (some ⟨g,0,none⟩) l.length cap]).run P w.drew = .ok (.pointer (some ⟨g,0,none⟩)) w.drew :=
  Lib.run_unsafeSliceData_row _ _ _ _ _ _ (by omega)
 have hUS:(Builtin.unsafeString_ #[(ρ.t 127),(ρ.t 3)] (ρ.t 9) #[.pointer (some ⟨g,0,none⟩),.int .i64 l.length]).run P w.drew = .ok (.string ⟨l.toArray⟩) (w.drew.freeze ⟨g,0,none⟩ l.length):=by
  refine Lib.run_unsafeString_row w.drew (ρ.t 127) (ρ.t 3) (ρ.t 9) (ρ.t 5) L.t127 X.cellsByte g cur.size (by have hg':w.drew.heap[g]? = some (.cells cur (ρ.t 5) f2):=hg;simp[World.shape?,hg']) l h0 hcs hcm ?_
  exact hown
 clear hown hnc hcm hcs
 have mixed:=L.mixed
 have t72:=L.t72;have a72:=L.a72;have z72:=L.z72;have v72:=L.v72;have u72:=Aaj L.t72
 have t70:=L.t70;have a70:=L.a70;have z70:=L.z70;have v70:=L.v70;have u70:=Aaj L.t70
 have t37:=L.t37;have a37:=L.a37;have z37:=L.z37;have v37:=L.v37;have u37:=Aaj L.t37
 have t127:=L.t127;have a127:=L.a127;have z127:=L.z127;have v127:=L.v127;have u127:=Aaj L.t127
 have t3:=L.t3;have a3:=L.a3;have z3:=L.z3;have v3:=L.v3;have u3:=Aaj L.t3
 have t9:=L.t9;have a9:=L.a9;have z9:=L.z9;have v9:=L.v9;have u9:=Aaj L.t9
 have t5:=X.t5;have a5:=X.a5;have z5:=X.z5;have v5:=X.v5;have u5:=Aaj X.t5
 go_enter L.f169,Body.n169_ntmps ρ
 go_wp2
 go_region_o
 all_goals (go_wp2;go_ret;exact⟨rfl,(Bub.refl b g w).drew.freeze 0 _⟩)
set_option maxHeartbeats 1000000 in
set_option maxRecDepth 100000 in
theorem C1b(L:Lays.n169 P ρ)(X:Builder.Extra P ρ)(b:Nat)(p:Value)(f1:Nat×Nat)(w:World)(hbk:w.heap[b]? = some (.cells #[p,.slice none 0 0] (ρ.t 72) f1)) :
  Calls P (ρ.f 169) #[.pointer (some ⟨b,0,none⟩)] w fun e w'=>e = .returned (.string ⟨#[]⟩)∧w'=w.drew:=by
 have hUS:=Any.unsafeString_none L X
 have c1:w.drew.cell? ⟨b,1,none⟩=some (.slice none 0 0):=by
  have:w.drew.heap[b]? = some (.cells #[p,.slice none 0 0] (ρ.t 72) f1):=hbk
  rw[Lib.cell_of_heap this];rfl
 have hSD:(Builtin.unsafeSliceData_ #[(ρ.t 37)] (ρ.t 127) #[.slice none 0 0]).run P w.drew = .ok (.pointer none) w.drew:=rfl
 have mixed:=L.mixed
 have t72:=L.t72;have a72:=L.a72;have z72:=L.z72;have v72:=L.v72;have u72:=Aaj L.t72
 have t70:=L.t70;have a70:=L.a70;have z70:=L.z70;have v70:=L.v70;have u70:=Aaj L.t70
 have t37:=L.t37;have a37:=L.a37;have z37:=L.z37;have v37:=L.v37;have u37:=Aaj L.t37
 have t127:=L.t127;have a127:=L.a127;have z127:=L.z127;have v127:=L.v127;have u127:=Aaj L.t127
 have t3:=L.t3;have a3:=L.a3;have z3:=L.z3;have v3:=L.v3;have u3:=Aaj L.t3
 have t9:=L.t9;have a9:=L.a9;have z9:=L.z9;have v9:=L.v9;have u9:=Aaj L.t9
 have t5:=X.t5;have a5:=X.a5;have z5:=X.z5;have v5:=X.v5;have u5:=Aaj X.t5
 go_enter L.f169,Body.n169_ntmps ρ
 go_wp2
 go_region_o
 all_goals (go_wp2;go_ret;exact⟨rfl,rfl⟩)
theorem C4i(L:Lays.n169 P ρ)(X:Builder.Extra P ρ):Azb P (ρ.f 169) (Bn6 (ρ.t 72) (ρ.t 5)):=by
 intro R args bl K r hrun
 simp only[Bn6]at hrun
 split at hrun
 case h_3=>cases hrun
 case h_2=>
  rename_i T'
  split at hrun
  case h_2=>cases hrun
  rename_i hT
  have hT:=Aa8 hT
  subst hT
  refine⟨_,_,_,hrun,fun F rh W rargs hargs hh=>?_⟩
  have hp1:Af4 [.cells (ρ.t 72) [.a .nilptr,.a .nilsl]] [] 0=some (.cells (ρ.t 72) [.a .nilptr,.a .nilsl]):=rfl
  obtain⟨x,r1,e1,hx,hr1⟩:=hargs.cons_left
  have hr1:=hr1.nil_left
  obtain⟨b0,hb0,_,ad,rfl,had⟩:=hx
  rw[hp1]at hb0
  cases hb0
  obtain⟨_,bb,hbs,rfl⟩:=had rfl
  obtain⟨bb',rs,fr,h1,h2,h3,h4⟩:=hh.blocks 0 _ hp1
  rw[hbs]at h1;cases h1
  obtain⟨v0,m,e2,g0,h5⟩:=h4.cons_left
  obtain⟨v1,m',e3,g1,h6⟩:=h5.cons_left
  have h6:=h6.nil_left
  subst h6
  have g1:v1 = .slice none 0 0:=g1
  subst g1
  have:rs = #[v0,.slice none 0 0]:=by apply Array.ext';rw[e2,e3]
  subst this
  have hr:rargs = #[.pointer (some ⟨bb,0,none⟩)]:=by apply Array.ext';rw[e1,hr1]
  subst hr
  refine (C1b L X bb v0 fr W h2).mono ?_
  rintro e w' ⟨rfl,rfl⟩
  exact⟨_,F,rh,rfl,by show [_]=[_];rfl,hh.dr,⟨rfl,rfl,rfl,Nat.le_refl _,fun _ _ _=>rfl,fun _ h=>.inl h,fun _ _ h=>h,fun _ h=>.inl h,fun _ _ b hb=>⟨b,hb,Evo.refl _ _ _⟩,fun _ _ _ _ _=>⟨rfl,fun _ _=>rfl⟩⟩⟩
 rename_i T' x0 E' xs
 split at hrun
 case h_2=>cases hrun
 rename_i hT
 simp only[Bool.and_eq_true]at hT
 obtain⟨hT,hE⟩:=hT
 have hT:=Aa8 hT
 have hE:=Aa8 hE
 subst hT hE
 split at hrun
 case isFalse=>cases hrun
 rename_i hc
 obtain⟨hpos,hlim,hby⟩:=hc
 refine⟨_,_,_,hrun,fun F rh W rargs hargs hh=>?_⟩
 obtain⟨x,r1,e1,hx,hr1⟩:=hargs.cons_left
 have hr1:=hr1.nil_left
 obtain⟨b0,hb0,_,ad,rfl,had⟩:=hx
 rw[Amt]at hb0
 simp only[if_true,Option.some.injEq]at hb0
 subst hb0
 obtain⟨_,bb,hbs,rfl⟩:=had rfl
 obtain⟨bb',rs,fr,h1,h2,h3,h4⟩:=hh.blocks 0 _ (by rw[Amt];rfl)
 rw[hbs]at h1;cases h1
 obtain⟨v0,m,e2,g0,h5⟩:=h4.cons_left
 obtain⟨v1,m',e3,g1,h6⟩:=h5.cons_left
 have h6:=h6.nil_left
 subst h6
 have:rs = #[v0,v1]:=by apply Array.ext';rw[e2,e3]
 subst this
 have hr:rargs = #[.pointer (some ⟨bb,0,none⟩)]:=by apply Array.ext';rw[e1,hr1]
 subst hr
 obtain⟨b0,hb0,_,ad,rfl,had⟩:=g0
 rw[Amt]at hb0
 simp only[if_true,Option.some.injEq]at hb0
 subst hb0
 obtain⟨_,bb',hbs',rfl⟩:=had rfl
 rw[hbs]at hbs';cases hbs'
 obtain⟨b1,hb1,_,A,l,c,rfl,hsl⟩:=g1
 rw[Amt]at hb1
 simp only[Nat.one_ne_zero,if_false,if_true,Option.some.injEq]at hb1
 subst hb1
 obtain⟨hl,hcap,hA⟩:=hsl rfl
 subst hl hcap
 rcases hh.blocks 1 _ (by rw[Amt];rfl) with ⟨_,hx0,_⟩|⟨g,cur,f2,hgb,hgh,hnf,hsz,hle,hel,_⟩
 ·subst hx0;simp at hpos
 have hA:=hA g hgb
 subst hA
 have hne:g≠bb:=by
  intro e
  have:=hh.inj 0 1 _ _ bb (by rw[Amt];rfl) (by rw[Amt];rfl) (by rw[hbs];simp) (by rw[hgb,e];simp)
  cases this
 have hlen:(Bn5 xs).length=xs.length:=by simp[Bn5]
 have hsz:cur.size=(rh 1).cap:=by simpa [Ty.size]using hsz
 have hget:∀j x,(Bn5 xs)[j]? = some x→W.cell? ((⟨g,0,none⟩:Addr).add j)=some (.int .u8 x.toNat):=by
  intro j x hx
  have hj:j<xs.length:=by
   have:=(List.getElem?_eq_some_iff.1 hx).1
   omega
  have h7:=hel j hj
  simp only[Ty.size,Nat.mul_one,RC]at h7
  have h8:(Afk cur j 1)[0]? = cur[j+0]?:=Bg3 (by omega)
  rw[h7]at h8
  have h9:x=UInt8.ofNat (xs[j]).toNat:=by
   simp only[Bn5,List.getElem?_map,List.getElem?_eq_getElem hj,Option.map_some,Option.some.injEq]at hx
   exact hx.symm
  have hr:=List.all_eq_true.1 hby xs[j] (List.getElem_mem hj)
  simp only[decide_eq_true_eq]at hr
  have h10:xs.getD j (Ty.int IntKind.u8).dflt=xs[j]:=by rw[List.getD_eq_getElem?_getD,List.getElem?_eq_getElem hj];rfl
  rw[Awo,Ca6 hgh]
  simp only[List.getElem?_cons_zero,Nat.add_zero]at h8
  rw[Nat.zero_add,←h8,h10,h9]
  congr 2
  have:(UInt8.ofNat (xs[j]).toNat).toNat=(xs[j]).toNat:=by
   rw[UInt8.toNat_ofNat']
   exact Nat.mod_eq_of_lt (by omega)
  rw[this];omega
 have hlt:∀k o,W.heap[k]? = some o→k<W.heap.size:=fun k o h=>by
  rcases Nat.lt_or_ge k W.heap.size with h' |h'
  ·exact h'
  ·rw[Array.getElem?_eq_none h']at h;cases h
 refine (Cef L X bb g (rh 1).cap cur _ fr f2 (Bn5 xs) W (by rw[hlen];exact h2) hgh (by omega) (by unfold LIM at hlim;omega) (by omega) hget (by intro h;rw[h]at hlen;simp at hlen;omega)).mono ?_
 rintro e w' ⟨rfl,hk⟩
 have hbb:=hlt bb _ h2
 refine⟨_,F,fun i=>if i=1 then ⟨[],0⟩ else rh i,rfl,?_,⟨?_,?_,?_,?_⟩,⟨hk.os,hk.tape,hk.output,hk.size,?_,?_,fun _ _ h=>h,fun _ h=>.inl h,?_,fun h=>by cases h⟩⟩
 ·show [_]=[_];rfl
 ·intro id blk hblk
  rw[Amt]at hblk
  by_cases e0:id=0
  ·subst e0
   simp only[if_true,Option.some.injEq]at hblk
   subst hblk
   refine⟨bb,_,fr,hbs,(hk.ne bb hbb (Ne.symm hne)).trans h2,h3,?_,trivial,trivial⟩
   exact⟨.cells (ρ.t 72) [.a (.ptr 0 0 0 0),.a .undef],by rw[Amt];rfl,Nat.le_refl _,_,rfl,fun _=>⟨rfl,bb,hbs,rfl⟩⟩
  ·by_cases e1:id=1
   ·subst e1
    simp only[Nat.one_ne_zero,if_false,if_true,Option.some.injEq]at hblk
    subst hblk
    exact .inl ⟨rfl,rfl,rfl⟩
   ·rw[if_neg e0,if_neg e1]at hblk;cases hblk
 ·intro i j x y k hx hy hi hj
  rw[Amt]at hx hy
  have h0:∀i,(∃x,(if i=0 then some (Aau.cells (ρ.t 72) [.a (.ptr 0 0 0 0),.a .undef]) else if i=1 then some (Aau.row (ρ.t 5) (.int .u8) 0 false []) else none)=some x)→k∈((fun i=>if i=1 then (⟨[],0⟩:Awd) else rh i) i).bs→i=0:=by
   intro i ⟨x,hx⟩ hi
   by_cases e0:i=0
   ·exact e0
   ·by_cases e1:i=1
    ·subst e1;simp at hi
    ·rw[if_neg e0,if_neg e1]at hx;cases hx
  rw[h0 i ⟨x,hx⟩ hi,h0 j ⟨y,hy⟩ hj]
 ·intro k o hF
  have h7:=hh.fz k o hF
  have:k≠g:=by
   intro e
   subst e
   have:=hh.apart k ⟨1,_,by rw[Amt];rfl,rfl,by rw[hgb];simp⟩
   rw[this]at hF;cases hF
  rw[hk.ne k (hlt k _ h7) this];exact h7
 ·rintro k ⟨i,x,hx,hz,hm⟩
  rw[Amt]at hx
  by_cases e0:i=0
  ·subst e0
   exact hh.apart k ⟨0,_,by rw[Amt];rfl,rfl,hm⟩
  ·by_cases e1:i=1
   ·subst e1;simp at hm
   ·rw[if_neg e0,if_neg e1]at hx;cases hx
 ·intro k hklt hno
  refine hk.ne k hklt ?_
  intro e
  subst e
  exact hno ⟨1,_,by rw[Amt];rfl,rfl,by rw[hgb];simp⟩
 ·rintro k ⟨i,x,hx,hz,hm⟩
  rw[Amt]at hx
  by_cases e0:i=0
  ·subst e0
   exact .inl ⟨0,_,by rw[Amt];rfl,rfl,hm⟩
  ·by_cases e1:i=1
   ·subst e1;simp at hm
   ·rw[if_neg e0,if_neg e1]at hx;cases hx
 ·intro id _ blk hblk
  rw[Amt]at hblk
  by_cases e0:id=0
  ·subst e0
   simp only[if_true,Option.some.injEq]at hblk
   subst hblk
   exact⟨.cells (ρ.t 72) [.a (.ptr 0 0 0 0),.a .undef],by rw[Amt];rfl,rfl,rfl,rfl⟩
  ·by_cases e1:id=1
   ·subst e1
    simp only[Nat.one_ne_zero,if_false,if_true,Option.some.injEq]at hblk
    subst hblk
    refine⟨.row (ρ.t 5) (.int .u8) 0 false [],by rw[Amt];rfl,rfl,rfl,rfl,fun h=>?_⟩
    exact absurd h (by simp[Bn6])
   ·rw[if_neg e0,if_neg e1]at hblk;cases hblk
end Go.AX
namespace Go.AX
noncomputable section
def Agw(P:Program)(n:Nat)(g:List Bool)(c:Code)(F:Aa6):Prop :=
 ∀(R:Type) (st:ASt) (K:Ex→ASt→Option R) (r:R),F R st K=some r→∃e st',K e st'=some r∧∀F ρ hp a0 W0 a W,Alh n g F ρ hp a0 W0 st a W→Bxc P c (B58 n g F ρ hp a0 W0 e st') a W
theorem Agw.frag{P:Program}{n:Nat}{g:List Bool}{c:Code}{F:Aa6}(h:Agw P n g c F):Ab1 P n g (.loop c) F:=by
 intro R st K r hF
 obtain⟨e,st',h1,h2⟩:=h R st K r hF
 exact⟨e,st',h1,fun F ρ hp a0 W0 a W hl=>(h2 F ρ hp a0 W0 a W hl).loop⟩
theorem Agw.alt{P:Program}{n:Nat}{g:List Bool}{c:Code}{F G:Aa6}{fits:ASt→Bool}(hF:Agw P n g c F)(hG:Agw P n g c G):Agw P n g c (Cz5 F G fits):=by
 intro R st K r h
 unfold Cz5 at h
 split at h
 ·exact hF R st K r h
 ·exact hG R st K r h
theorem Agw.none(P:Program)(n:Nat)(g:List Bool)(c:Code):Agw P n g c (fun _ _ _=>none):=by
 intro R st K r h;cases h
def Ajv{R:Type}(p:Aac)(next:p.den→Option R)(alt:ASt→(Ex→ASt→Option R)→Option R)(K:Ex→ASt→Option R)(outs:Afc):Ex→ASt→Option R
 | .normal,st=>match dec p st with
  |some y=>next y
  |none=>alt st K
 |e,st=>Ak1 K outs e st
section
variable {P:Program} {tt:TT} {Γ:FuncId→Option Aad} {g:List Bool} {n:Nat} {Λ:Nat→Option Aa6} {dom:Nat→Bool}
theorem Af9(hm:P.follows .mixedOrders=true)(htt:Aj1 P tt)(hΓ:A0m P tt Γ)(hdom:∀k,(Λ k).isSome=dom k){c:Code}(hd:Awr dom n c=true)(hc:∀p,p∈Ajk dom c→∀F,Λ p.1=some F→Ab1 P n g p.2 F){p:Aac}{G:Nat→Aa7 p}(outs:Afc){B:Aa6}(hB:Agw P n g c B)(h0:∀R x K,G 0 R x K=none)(h:∀(R:Type) k x K,Aal tt Γ g Λ c (Aaf p x) (Ajv (R:=R) p (fun y=>G k R y K) (B R) K outs)=G (k+1) R x K)(N:Nat) :
  Agw P n g c (Aab p (G N)):=by
 have key:∀(R:Type) (K:Ex→ASt→Option R) r k x,G k R x K=some r→∃e st',K e st'=some r∧∀F ρ hp a0 W0 a W,Alh n g F ρ hp a0 W0 (Aaf p x) a W→Bxc P c (B58 n g F ρ hp a0 W0 e st') a W:=by
  intro R K r k
  induction k with
  |zero=>intro x hG;rw[h0]at hG;cases hG
  |succ k ih=>
   intro x hG
   rw[←h]at hG
   obtain⟨e,st1,h1,h2⟩:=Cfo hm htt hΓ hdom c hd hc R _ _ r hG
   cases e with
   |normal=>
    simp only[Ajv]at h1
    split at h1
    ·rename_i y hy
     obtain⟨e,st',k1,k2⟩:=ih y h1
     refine⟨e,st',k1,fun F ρ hp a0 W0 a W hl=>Bxc.round (wp_mono (h2 F ρ hp a0 W0 a W hl) ?_)⟩
     rintro x' a' W' ⟨rfl,hl'⟩
     ·exact k2 F ρ hp a0 W0 a' W' (Alh.trans hl' fun F1 ρ1 hs=>Bxd hy hs)
    ·obtain⟨e,st',k1,k2⟩:=hB R st1 K r h1
     refine⟨e,st',k1,fun F ρ hp a0 W0 a W hl=>Bxc.round (wp_mono (h2 F ρ hp a0 W0 a W hl) ?_)⟩
     rintro x' a' W' ⟨rfl,hl'⟩
     ·exact k2 F ρ hp a0 W0 a' W' hl'
   |exit id=>
    simp only[Ajv]at h1
    obtain⟨q,y,h3,h4⟩:=Bxg h1
    refine⟨.exit id,Aaf q y,h4,fun F ρ hp a0 W0 a W hl=>Bxc.round (wp_mono ((h2.out h3) F ρ hp a0 W0 a W hl) ?_)⟩
    rintro x' a' W' ⟨rfl,hl'⟩
    ·exact⟨rfl,hl'⟩
   |ret=>
    simp only[Ajv]at h1
    obtain⟨q,y,h3,h4⟩:=Bxg h1
    refine⟨.ret,Aaf q y,h4,fun F ρ hp a0 W0 a W hl=>Bxc.round (wp_mono ((h2.out h3) F ρ hp a0 W0 a W hl) ?_)⟩
    rintro x' a' W' ⟨rfl,hl'⟩
    ·exact⟨rfl,hl'⟩
 intro R st K r hF
 unfold Aab at hF
 split at hF
 case h_2=>cases hF
 rename_i x hx
 obtain⟨e,st',h1,h2⟩:=key R K r N x hF
 exact⟨e,st',h1,fun F ρ hp a0 W0 a W hl=>h2 F ρ hp a0 W0 a W (Alh.trans hl fun F1 ρ1 hs=>Bxd hx hs)⟩
end
end
end Go.AX
namespace Go.AX
noncomputable section
def B0n:Aad where
 pure:=[]
 grow:=[]
 mat:=false
 run _ args bl K:=match args with
  |[]=>K (.v (.one (.a (.val .bool true)))) bl []
  | _=>none
theorem C98{P:Program}{f:FuncId}(h:∀W:World,Calls P f #[] W fun e W'=>e = .returned (.bool true)∧W'.os=W.os∧W'.tape=W.tape∧W'.output=W.output∧W.heap.size≤W'.heap.size∧∀b,b<W.heap.size→W'.heap[b]? = W.heap[b]?):Azb P f B0n:=by
 intro R args bl K r hrun
 simp only[B0n]at hrun
 split at hrun
 case h_2=>cases hrun
 refine⟨_,bl,[],hrun,fun F ρ W rargs hargs hh=>?_⟩
 have hr:rargs = #[]:=by apply Array.ext';exact hargs.nil_left
 subst hr
 refine (h W).mono ?_
 rintro e w' ⟨rfl,h1,h2,h3,h4,h5⟩
 refine⟨_,F,ρ,rfl,rfl,⟨fun id b hb=>?_,hh.inj,fun b o hb=>?_,hh.apart⟩,⟨h1,h2,h3,h4,fun b hb _=>h5 b hb,fun _ h=>.inl h,fun _ _ h=>h,fun _ h=>.inl h,fun _ _ b hb=>⟨b,hb,Evo.refl _ _ _⟩,fun _ id _ b hb=>⟨rfl,fun k hk=>h5 k ((hh.blocks id b hb).lt hk)⟩⟩⟩
 ·have hB:=hh.blocks id b hb
  refine BR.mono (fun _ _ h=>h) (fun id b hb=>⟨b,hb,Aml.refl _ _⟩) rfl (fun k hk=>h5 k (hB.lt hk)) hB
 ·rw[h5 b (hh.flt (by rw[hb];simp))]
  exact hh.fz b o hb
end
end Go.AX
namespace Go.AX
noncomputable section
open Go.Proofs Go.Shelf Go.RowKit
theorem BR.up{F:Fz}{ρ:Rho}{hp:Aam}{W W':World}{id:Nat}{b:Aau}(hm:∀(k:Nat) (o:Obj),W.heap[k]? = some o→W'.heap[k]? = some o)(h:BR F ρ hp W id b):BR F ρ hp W' id b:=by
 cases b with
 |cells T cs=>obtain⟨bb,rs,fr,h1,h2,h3⟩:=h;exact⟨bb,rs,fr,h1,hm _ _ h2,h3⟩
 |row E t v fz xs=>
  rcases h with h|⟨bb,rs,fr,h1,h2,h3⟩
  ·exact .inl h
  ·exact .inr ⟨bb,rs,fr,h1,hm _ _ h2,h3⟩
 |amap T kt et m=>obtain⟨bb,es,c,h1,h2,h3⟩:=h;exact⟨bb,es,c,h1,hm _ _ h2,h3⟩
 |fmap T k m=>obtain⟨bb,es,c,h1,h2,h3⟩:=h;exact⟨bb,es,c,h1,hm _ _ h2,h3⟩
 |pool T t xs=>
  obtain⟨h1,h2,h3⟩:=h
  refine⟨h1,h2,fun k x hx=>?_⟩
  obtain⟨bb,rs,fr,v,g1,g2,g3⟩:=h3 k x hx
  exact⟨bb,rs,fr,v,g1,hm _ _ g2,g3⟩
 |pmap T k p m=>obtain⟨h0,bb,es,c,h1,h2,h3⟩:=h;exact⟨h0,bb,es,c,h1,hm _ _ h2,h3⟩
theorem Abx.up{F:Fz}{ρ:Rho}{hp:Aam}{W W':World}(h:Abx F ρ hp W)(hm:∀(k:Nat) (o:Obj),W.heap[k]? = some o→W'.heap[k]? = some o):Abx F ρ hp W' :=
 ⟨fun id b hb=>(h.blocks id b hb).up hm,h.inj,fun b o hb=>hm _ _ (h.fz b o hb),h.apart⟩
theorem Ext.grown{g:List Bool}{F:Fz}{ρ:Rho}{hp:Aam}{W:World}(k:Nat)(os:Array Obj)(hg:Aqs g=false):Ext g F ρ hp W F ρ hp (Sort.grow (W.drewN k) os) :=
 ⟨rfl,rfl,rfl,by simp[Sort.grow,World.drewN],fun b hb _=>Sort.heap_grow_old _ _ hb,fun _ h=>.inl h,fun _ _ h=>h,fun _ h=>.inl h,fun _ _ b hb=>⟨b,hb,Evo.refl _ _ _⟩,fun h=>by rw[hg]at h;cases h⟩
end
end Go.AX
namespace Go.AX
noncomputable section
open Go.Proofs Go.Shelf Go.RowKit
end
end Go.AX
namespace Go.AX
noncomputable section
theorem TT.get_append{T:TypeId}:∀{l m:TT},TT.get (l++m) T=(match TT.get l T with|some i=>some i|none=>TT.get m T)
 |[],m=>rfl
 |(k,i)::r,m=>by
  simp only[List.cons_append,TT.get]
  cases Nat.beq T k with
  |true=>rfl
  |false=>exact TT.get_append
def isI(n:Int):Value→Bool
 | .int .i64 m=>decide (m=n)
 | _=>false
def A69(n:Int)(m:Nat):List Value→Option (List Value):=Nat.rec (motive:=fun _=>List Value→Option (List Value)) (fun l=>some l)
 (fun _ ih l=>List.rec (motive:=fun _=>Option (List Value)) none (fun x r _=>Bool.rec (motive:=fun _=>Option (List Value)) none (ih r) (isI n x)) l) m
def A9e(n:Int)(c:Nat)(k:Nat):List Value→Bool:=Nat.rec (motive:=fun _=>List Value→Bool) (fun l=>l.isEmpty)
 (fun _ ih l=>Option.rec (motive:=fun _=>Bool) false (fun r=>ih r) (A69 n c l)) k
theorem Dcf{n:Int}{v:Value}(h:isI n v=true):v = .int .i64 n:=by
 unfold isI at h
 split at h
 ·simp only[decide_eq_true_eq]at h;rw[h]
 ·cases h
theorem Bpz{v:Int}:∀(m:Nat) {l r:List Value},A69 v m l=some r→l=List.replicate m (.int .i64 v)++r
 |0,l,r,h=>by
  have h:some l=some r:=h
  cases h;simp
 |m+1,[],r,h=>by
  have h:(none:Option (List Value))=some r:=h
  cases h
 |m+1,x::l,r,h=>by
  have h:Bool.rec (motive:=fun _=>Option (List Value)) none (A69 v m l) (isI v x)=some r:=h
  cases hv:isI v x with
  |false=>rw[hv]at h;cases h
  |true=>
   rw[hv]at h
   have h:A69 v m l=some r:=h
   rw[Dcf hv,Bpz m h];rfl
theorem Bja{v:Int}{c:Nat}:∀(k:Nat) {l:List Value},A9e v c k l=true→l=List.replicate (k*c) (.int .i64 v)
 |0,l,h=>by
  have h:l.isEmpty=true:=h
  cases l with
  |nil=>simp
  |cons _ _=>cases h
 |k+1,l,h=>by
  have h:Option.rec (motive:=fun _=>Bool) false (fun r=>A9e v c k r) (A69 v c l)=true:=h
  cases ht:A69 v c l with
  |none=>rw[ht]at h;cases h
  |some r=>
   rw[ht]at h
   have h:A9e v c k r=true:=h
   rw[Bpz c ht,Bja k h,Nat.add_mul,Nat.one_mul,Nat.add_comm (k*c) c,←List.replicate_append_replicate]
def zeroCells(P:Program)(t:TypeId):List Value:=match P.info? t with
 |some i=>match i.zero with
  |some z=>z.cells.toList
  |none=>[]
 |none=>[]
def Ct7(T n E sz by_:Nat):TT:=[(T,⟨.arr n E,sz,by_,none,false,some (.int .i64 0)⟩)]
theorem Aj1.addBig{P:Program}{tt:TT}{T E sz by_ c k:Nat}(h:Aj1 P tt)(hu:P.underlying T=some (.array (k*c) E))(hi:(P.info? T).map (fun i=>(i.size,i.bytes))=some (sz,by_))(hc:0<k*c)(hz:A9e 0 c k (zeroCells P T)=true):Aj1 P (tt++Ct7 T (k*c) E sz by_):=by
 intro S i hS
 rw[TT.get_append]at hS
 split at hS
 ·rename_i j hj
  cases hS
  exact h S _ hj
 ·simp only[Ct7,TT.get]at hS
  split at hS
  ·rename_i he
   cases hS
   have he:=Aa8 he
   subst he
   have hz:=Bja k hz
   unfold zeroCells at hz
   cases hf:P.info? S with
   |none=>rw[hf]at hi;cases hi
   |some f=>
    rw[hf]at hi hz
    simp only[Option.map_some,Option.some.injEq,Prod.mk.injEq]at hi
    simp only at hz
    refine⟨⟨_,hu,rfl,rfl⟩,⟨f,hf,hi.1,hi.2,fun zs h=>(by cases h)⟩,fun fs h=>(by rw[hu]at h;cases h),fun v n E' hv hd=>?_,fun h=>(by cases h)⟩
    cases hv;cases hd
    cases hzf:f.zero with
    |none=>rw[hzf]at hz;have:=congrArg List.length hz;simp at this;omega
    |some z=>
     rw[hzf]at hz
     refine⟨f,z,hf,hzf,?_⟩
     apply Array.ext'
     simpa using hz
  ·cases hS
end
end Go.AX
namespace Go.AX
@[reducible] def wi(x:Int):Int:=IntKind.i64.wrap x
@[reducible] def len{α:Type}(l:List α):Int:=((List.length l:Nat):Int)
end Go.AX
namespace Go.AX
theorem w64{x:Int}(h:-9223372036854775808≤x∧x≤9223372036854775807):IntKind.i64.wrap x=x:=IntWalk.i64_in x h
theorem C7a{α:Type}{l:List α}{i:Nat}{d:α}(h:i<l.length):l.getD i d∈l:=by
 rw[List.getD_eq_getElem?_getD,List.getElem?_eq_getElem h];simp
def Cip(l:List Int):Prop:=∀x,x∈l→0≤x∧x<256
theorem Cip.get{l:List Int}(h:Cip l){i:Nat}(hi:i<l.length):0≤l.getD i 0∧l.getD i 0<256:=h _ (C7a hi)
theorem Cip.take{l:List Int}(h:Cip l)(n:Nat):Cip (l.take n):=fun x hx=>h x (List.mem_of_mem_take hx)
theorem Cip.drop{l:List Int}(h:Cip l)(n:Nat):Cip (l.drop n):=fun x hx=>h x (List.mem_of_mem_drop hx)
theorem Dcg{n:Int}(h:Wf (.int .i64) n):-9223372036854775808≤n∧n≤9223372036854775807:=by
 simp[Wf,Lit.wf,IntKind.min,IntKind.max,IntKind.signed,IntKind.bits]at h
 omega
end Go.AX

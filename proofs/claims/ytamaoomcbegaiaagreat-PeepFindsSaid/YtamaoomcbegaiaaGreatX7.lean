/- A reading of the model's code over typed data,proved sound: library functions,plain words. -/
import Derived.Test.YtamaoomcbegaiaaGreatX6
import Derived.Shelf.Strings.Builder1
import Derived.Shelf.Small.Strs
import Derived.Shelf.Strconv.Itoa3
import Derived.Lib.ItoaLen
import Derived.IntWalk
namespace Go.AX
noncomputable section
def B1d(s:List UInt8)(c:Int):Int:=Lib.indexByte s c.toNat.toUInt8
def Bpc:Aae where
 pure:=[true,true]
 grow:=[]
 mat:=false
 run _ args bl K:=match args with
  |[.v (.one (.a (.val .str s))),.v (.one (.a (.val (.int .u8) c)))]=>K (vi (B1d s c)) bl []
  | _=>none
theorem C03{P:Program}{f:FuncId}(h:∀(s:ByteArray) (c:Int) (w:World),Calls P f #[.string s,.int .u8 c] w fun e w'=>e = .returned (.int .i64 (Lib.indexByte s.data.toList c.toNat.toUInt8))∧w'=w):A1r P f Bpc:=by
 intro R args bl K r hrun
 simp only[Bpc]at hrun
 split at hrun
 case h_2=>cases hrun
 rename_i s c
 refine⟨_,bl,[],hrun,fun F ρ W rargs hargs hh=>?_⟩
 obtain⟨x,r1,e1,hx,h1⟩:=hargs.cons_left
 obtain⟨y,r2,e2,hy,h2⟩:=h1.cons_left
 have h2:=h2.nil_left
 have hx:[x]=[Value.string ⟨(s:List UInt8).toArray⟩]:=hx
 have hy:[y]=[Value.int .u8 c]:=hy
 have hx:x = .string ⟨(s:List UInt8).toArray⟩:=by simpa using hx
 have hy:y = .int .u8 c:=by simpa using hy
 have hr:rargs = #[.string ⟨(s:List UInt8).toArray⟩,.int .u8 c]:=by
  apply Array.ext'
  rw[e1,e2,h2,hx,hy]
 subst hr
 refine (h _ _ W).mono ?_
 rintro e w' ⟨rfl,rfl⟩
 exact⟨_,F,ρ,rfl,by show [_]=[_];simp[B1d],hh,Ext.refl _ _ _ _ _⟩
end
end Go.AX
namespace Go.AX
noncomputable section
open Go.Proofs Go.Shelf Go.RowKit
theorem Aqb(a b:Aa1)(id:Nat):Ahb [a,b] [] id=if id=0 then some a else if id=1 then some b else none:=by
 simp only[Ahb]
 cases e:Nat.ble 32 id with
 |true=>
  have:=Nat.le_of_ble_eq_true e
  simp
  rw[if_neg (by omega),if_neg (by omega)]
 |false=>
  match id with
  |0=>rfl
  |1=>rfl
  |n+2=>simp
def C7h(hp:Aaq)(T:TypeId):Aaq:=AX.Am8 hp 0 (.cells T [.a (.ptr 0 0 0 0),.a (.slf 1 0)])
def Bpd(T E:TypeId):Aae where
 pure:=[false]
 grow:=[]
 mat:=true
 run _ args bl K:=match args,bl with
  |[.v (.one (.a (.ptr 0 0 0 0)))],[.cells T' [.a x0,.a (.slf 1 0)],.row E' (.int .u8) 0 false xs]=>match Nat.beq T' T,x0 with
   |true,.nilptr=>K (.tup []) [.cells T' [.a (.ptr 0 0 0 0),.a (.slf 1 0)],.row E' (.int .u8) 0 false xs] []
   |true,.ptr 0 0 0 0=>K (.tup []) [.cells T' [.a (.ptr 0 0 0 0),.a (.slf 1 0)],.row E' (.int .u8) 0 false xs] []
   | _,_=>none
  | _,_=>none
theorem C04{P:Program}{f:FuncId}{T E:TypeId}(hu:∀(b:Nat) (w:World),w.cell? ⟨b,0,none⟩=some (.pointer (some ⟨b,0,none⟩))→Calls P f #[.pointer (some ⟨b,0,none⟩)] w fun e w'=>e = .returned (.tuple #[])∧w'=w)(hf:∀(b:Nat) (w:World),w.cell? ⟨b,0,none⟩=some (.pointer none)→w.shape? b=some (T,2)→w.frozen? ⟨b,0,none⟩=false→Calls P f #[.pointer (some ⟨b,0,none⟩)] w fun e w'=>e = .returned (.tuple #[])∧w'=w.setCell ⟨b,0,none⟩ (.pointer (some ⟨b,0,none⟩))) :
  A1r P f (Bpd T E):=by
 intro R args bl K r hrun
 simp only[Bpd]at hrun
 split at hrun
 case h_2=>cases hrun
 rename_i T' x0 E' xs
 have start:∀(x0:Asf) F ρ W (rargs:Array Value),Ac9 (RV F ρ (Ahb [.cells T' [.a x0,.a (.slf 1 0)],.row E' (.int .u8) 0 false xs] [])) [.v (.one (.a (.ptr 0 0 0 0)))] rargs.toList→
   Adn F ρ (Ahb [.cells T' [.a x0,.a (.slf 1 0)],.row E' (.int .u8) 0 false xs] []) W→
   ∃bb v0 v1 fr,rargs = #[.pointer (some ⟨bb,0,none⟩)]∧(ρ 0).bs=[bb]∧W.heap[bb]? = some (.cells #[v0,v1] T' fr)∧NF fr 2∧RA F ρ (Ahb [.cells T' [.a x0,.a (.slf 1 0)],.row E' (.int .u8) 0 false xs] []) x0 v0∧
    RA F ρ (Ahb [.cells T' [.a x0,.a (.slf 1 0)],.row E' (.int .u8) 0 false xs] []) (.slf 1 0) v1:=by
  intro x0 F ρ W rargs hargs hh
  obtain⟨x,r1,e1,hx,hr1⟩:=hargs.cons_left
  have hr1:=hr1.nil_left
  obtain⟨b0,hb0,_,ad,rfl,had⟩:=hx
  rw[Aqb]at hb0
  simp only[if_true,Option.some.injEq]at hb0
  subst hb0
  obtain⟨_,bb,hbs,rfl⟩:=had rfl
  obtain⟨bb',rs,fr,h1,h2,h3,h4⟩:=hh.blocks 0 _ (by rw[Aqb];rfl)
  rw[hbs]at h1;cases h1
  obtain⟨v0,m,e2,g0,h5⟩:=h4.cons_left
  obtain⟨v1,m',e3,g1,h6⟩:=h5.cons_left
  have h6:=h6.nil_left
  subst h6
  have:rs = #[v0,v1]:=by apply Array.ext';rw[e2,e3]
  subst this
  refine⟨bb,v0,v1,fr,?_,hbs,h2,by simpa using h3,g0,g1⟩
  apply Array.ext';rw[e1,hr1]
 split at hrun
 case h_3=>cases hrun
 ·-- fresh
  rename_i hT
  have hT:=Ab4 hT
  subst hT
  refine⟨_,_,_,hrun,fun F ρ W rargs hargs hh=>?_⟩
  obtain⟨bb,v0,v1,fr,rfl,hbs,hheap,hnf,g0,g1⟩:=start .nilptr F ρ W rargs hargs hh
  have g0:v0 = .pointer none:=g0
  subst g0
  refine (hf bb W (by simp[World.cell?,hheap]) (by simp[World.shape?,hheap]) (Cuw hheap (by simpa using hnf) (by simp))).mono ?_
  rintro e w' ⟨rfl,rfl⟩
  have hset:=B8g hheap (.pointer (some ⟨bb,0,none⟩)) (o:=0)
  have hp0:Ahb [.cells T' [.a .nilptr,.a (.slf 1 0)],.row E' (.int .u8) 0 false xs] [] 0=some (.cells T' [.a .nilptr,.a (.slf 1 0)]):=by rw[Aqb];rfl
  have Am8:Bdf [] F ρ (Ahb [.cells T' [.a .nilptr,.a (.slf 1 0)],.row E' (.int .u8) 0 false xs] []) W 0 (ρ 0) (.cells T' [.a (.ptr 0 0 0 0),.a (.slf 1 0)]) (W.setCell ⟨bb,0,none⟩ (.pointer (some ⟨bb,0,none⟩))) :=
   Bdf.inplace hp0 rfl rfl hbs hset ⟨Nat.le_refl _,fun h=>(by cases h),fun _=>rfl⟩ (fun _=>⟨rfl,rfl,rfl⟩)
  have hhp:C7h (Ahb [.cells T' [.a .nilptr,.a (.slf 1 0)],.row E' (.int .u8) 0 false xs] []) T'=Ahb [.cells T' [.a (.ptr 0 0 0 0),.a (.slf 1 0)],.row E' (.int .u8) 0 false xs] []:=by
   funext id
   by_cases e:id=0
   ·subst e;simp[C7h,Aqb,Ahs]
   ·rw[C7h,Agt e,Aqb,Aqb]
    simp[e]
  have hgood:=Am8.good (v:=.tup []) (r:=.tuple #[]) hh ?_ ⟨#[],rfl,trivial⟩
  ·obtain⟨F',ρ',k1,k2,k3,k4⟩:=hgood
   rw[show AX.Am8 (Ahb [.cells T' [.a .nilptr,.a (.slf 1 0)],.row E' (.int .u8) 0 false xs] []) 0 (.cells T' [.a (.ptr 0 0 0 0),.a (.slf 1 0)])=_ from hhp]at k1 k3 k4
   exact⟨_,F',ρ',rfl,k3,k1,k4⟩
  ·refine⟨bb,_,fr,by simpa using hbs,hset.at_,by simpa using hnf,?_,?_,trivial⟩
   ·refine⟨_,Ahs ..,Nat.le_refl _,_,rfl,fun _=>⟨rfl,bb,by simpa using hbs,rfl⟩⟩
   ·exact RA.mono (fun _ _ h=>h) Am8.keep g1
 ·-- used
  rename_i hT
  have hT:=Ab4 hT
  subst hT
  refine⟨_,_,_,hrun,fun F ρ W rargs hargs hh=>?_⟩
  obtain⟨bb,v0,v1,fr,rfl,hbs,hheap,hnf,g0,g1⟩:=start (.ptr 0 0 0 0) F ρ W rargs hargs hh
  obtain⟨b0,hb0,_,ad,rfl,had⟩:=g0
  rw[Aqb]at hb0
  simp only[if_true,Option.some.injEq]at hb0
  subst hb0
  obtain⟨_,bb',hbs',rfl⟩:=had rfl
  rw[hbs]at hbs';cases hbs'
  refine (hu bb W (by simp[World.cell?,hheap])).mono ?_
  rintro e w' ⟨rfl,rfl⟩
  exact⟨_,F,ρ,rfl,⟨#[],rfl,trivial⟩,hh,Ext.refl _ _ _ _ _⟩
def Awj(xs:List Int):Bool:=xs.all fun n=>decide (0≤n∧n<256)
def Bsw(xs:List Int):List UInt8:=xs.map fun n=>UInt8.ofNat n.toNat
def Bsx(T E:TypeId):Aae where
 pure:=[false]
 grow:=List.replicate 32 true
 mat:=false
 run _ args bl K:=match args,bl with
  |[.v (.one (.a (.ptr 0 0 0 0)))],[.cells T' [.a x0,.a (.slf 1 0)],.row E' (.int .u8) 0 false xs]=>match Nat.beq T' T&&Nat.beq E' E,x0 with
   |true,.ptr 0 0 0 0=>if 0<List.length xs∧List.length xs≤LIM∧Awj xs=true then K (.at (.val .str (Bsw xs))) [.cells T' [.a (.ptr 0 0 0 0),.a .undef],.row E' (.int .u8) 0 false []] [] else none
   | _,_=>none
  |[.v (.one (.a (.ptr 0 0 0 0)))],[.cells T' [.a .nilptr,.a .nilsl]]=>match Nat.beq T' T with
   |true=>K (.at (.val .str ([]:List UInt8))) [.cells T' [.a .nilptr,.a .nilsl]] []
   |false=>none
  | _,_=>none
structure Bxy(b g:Nat)(w w':World):Prop where
 os:w'.os=w.os
 tape:w'.tape=w.tape
 output:w'.output=w.output
 size:w.heap.size≤w'.heap.size
 ne:∀k,k<w.heap.size→k≠g→w'.heap[k]? = w.heap[k]?
end
end Go.AX
namespace Go.AX
open Go.Proofs Go.Shelf Go.RowKit
variable {P:Program} {ρ:Go.Shelf.Ren}
theorem Bxy.refl(b g:Nat)(w:World):Bxy b g w w:=⟨rfl,rfl,rfl,Nat.le_refl _,fun _ _ _=>rfl⟩
theorem Bxy.drew{b g:Nat}{w w':World}(h:Bxy b g w w'):Bxy b g w w'.drew:=⟨h.os,h.tape,h.output,h.size,h.ne⟩
theorem Bxy.alloc{b g:Nat}{w w':World}(h:Bxy b g w w')(o:Obj):Bxy b g w (w'.alloc o) :=
 ⟨h.os,h.tape,h.output,by have:=h.size;simp;omega,fun k hk hg=>by
  rw[←h.ne k hk hg]
  exact Below.heap_alloc _ _ _ (Nat.lt_of_lt_of_le hk h.size)⟩
theorem Bxy.freeze{b g:Nat}{w w':World}(h:Bxy b g w w')(o n:Nat):Bxy b g w (w'.freeze ⟨g,o,none⟩ n):=by
 unfold World.freeze
 split
 ·exact h
 ·exact⟨h.os,h.tape,h.output,by have:=h.size;simpa using this,fun k hk hg=>by
   rw[←h.ne k hk hg]
   simp only[Array.getElem?_modify]
   rw[if_neg (Ne.symm hg)]⟩
set_option maxHeartbeats 1000000 in
set_option maxRecDepth 100000 in
theorem Che(L:Lays.n169 P ρ)(X:Builder.Extra P ρ)(b g cap:Nat)(cur:Array Value)(p:Value)(f1 f2:Nat×Nat)(l:List UInt8)(w:World)(hbk:w.heap[b]? = some (.cells #[p,.slice (some ⟨g,0,none⟩) l.length cap] (ρ.t 72) f1))(hg:w.heap[g]? = some (.cells cur (ρ.t 5) f2))(hnc:l.length≤cap)(hcm:l.length≤9223372036854775807)(hcs:l.length≤cur.size)(hown:∀j x,l[j]? = some x→w.cell? ((⟨g,0,none⟩:Addr).add j)=some (.int .u8 x.toNat))(h0:l≠[]) :
  Calls P (ρ.f 169) #[.pointer (some ⟨b,0,none⟩)] w fun e w'=>e = .returned (.string ⟨l.toArray⟩)∧Bxy b g w w':=by
 have hl0:l.length≠0:=by simpa using h0
 have c1:w.drew.cell? ⟨b,1,none⟩=some (.slice (some ⟨g,0,none⟩) l.length cap):=by
  have:w.drew.heap[b]? = some (.cells #[p,.slice (some ⟨g,0,none⟩) l.length cap] (ρ.t 72) f1):=hbk
  simp[World.cell?,this]
 have hSD:(Builtin.unsafeSliceData_ #[(ρ.t 37)] (ρ.t 127) #[.slice (some ⟨g,0,none⟩) l.length cap]).run P w.drew = .ok (.pointer (some ⟨g,0,none⟩)) w.drew :=
  Lib.run_unsafeSliceData_row _ _ _ _ _ _ (by omega)
 have hUS:(Builtin.unsafeString_ #[(ρ.t 127),(ρ.t 3)] (ρ.t 9) #[.pointer (some ⟨g,0,none⟩),.int .i64 l.length]).run P w.drew = .ok (.string ⟨l.toArray⟩) (w.drew.freeze ⟨g,0,none⟩ l.length):=by
  refine Lib.run_unsafeString_row w.drew (ρ.t 127) (ρ.t 3) (ρ.t 9) (ρ.t 5) L.t127 X.cellsByte g cur.size (by have hg':w.drew.heap[g]? = some (.cells cur (ρ.t 5) f2):=hg;simp[World.shape?,hg']) l h0 hcs hcm ?_
  exact hown
 clear hown hnc hcm hcs
 have mixed:=L.mixed
 have t72:=L.t72;have a72:=L.a72;have z72:=L.z72;have v72:=L.v72;have u72:=Aao L.t72
 have t70:=L.t70;have a70:=L.a70;have z70:=L.z70;have v70:=L.v70;have u70:=Aao L.t70
 have t37:=L.t37;have a37:=L.a37;have z37:=L.z37;have v37:=L.v37;have u37:=Aao L.t37
 have t127:=L.t127;have a127:=L.a127;have z127:=L.z127;have v127:=L.v127;have u127:=Aao L.t127
 have t3:=L.t3;have a3:=L.a3;have z3:=L.z3;have v3:=L.v3;have u3:=Aao L.t3
 have t9:=L.t9;have a9:=L.a9;have z9:=L.z9;have v9:=L.v9;have u9:=Aao L.t9
 have t5:=X.t5;have a5:=X.a5;have z5:=X.z5;have v5:=X.v5;have u5:=Aao X.t5
 go_enter L.f169,Body.n169_ntmps ρ
 go_wp2
 go_region_o
 all_goals (go_wp2;go_ret;exact⟨rfl,(Bxy.refl b g w).drew.freeze 0 _⟩)
set_option maxHeartbeats 1000000 in
set_option maxRecDepth 100000 in
theorem C7i(L:Lays.n169 P ρ)(X:Builder.Extra P ρ)(b:Nat)(p:Value)(f1:Nat×Nat)(w:World)(hbk:w.heap[b]? = some (.cells #[p,.slice none 0 0] (ρ.t 72) f1)) :
  Calls P (ρ.f 169) #[.pointer (some ⟨b,0,none⟩)] w fun e w'=>e = .returned (.string ⟨#[]⟩)∧w'=w.drew:=by
 have hUS:=Any.unsafeString_none L X
 have c1:w.drew.cell? ⟨b,1,none⟩=some (.slice none 0 0):=by
  have:w.drew.heap[b]? = some (.cells #[p,.slice none 0 0] (ρ.t 72) f1):=hbk
  rw[Lib.cell_of_heap this];rfl
 have hSD:(Builtin.unsafeSliceData_ #[(ρ.t 37)] (ρ.t 127) #[.slice none 0 0]).run P w.drew = .ok (.pointer none) w.drew:=rfl
 have mixed:=L.mixed
 have t72:=L.t72;have a72:=L.a72;have z72:=L.z72;have v72:=L.v72;have u72:=Aao L.t72
 have t70:=L.t70;have a70:=L.a70;have z70:=L.z70;have v70:=L.v70;have u70:=Aao L.t70
 have t37:=L.t37;have a37:=L.a37;have z37:=L.z37;have v37:=L.v37;have u37:=Aao L.t37
 have t127:=L.t127;have a127:=L.a127;have z127:=L.z127;have v127:=L.v127;have u127:=Aao L.t127
 have t3:=L.t3;have a3:=L.a3;have z3:=L.z3;have v3:=L.v3;have u3:=Aao L.t3
 have t9:=L.t9;have a9:=L.a9;have z9:=L.z9;have v9:=L.v9;have u9:=Aao L.t9
 have t5:=X.t5;have a5:=X.a5;have z5:=X.z5;have v5:=X.v5;have u5:=Aao X.t5
 go_enter L.f169,Body.n169_ntmps ρ
 go_wp2
 go_region_o
 all_goals (go_wp2;go_ret;exact⟨rfl,rfl⟩)
theorem Dav(L:Lays.n169 P ρ)(X:Builder.Extra P ρ):A1r P (ρ.f 169) (Bsx (ρ.t 72) (ρ.t 5)):=by
 intro R args bl K r hrun
 simp only[Bsx]at hrun
 split at hrun
 case h_3=>cases hrun
 case h_2=>
  rename_i T'
  split at hrun
  case h_2=>cases hrun
  rename_i hT
  have hT:=Ab4 hT
  subst hT
  refine⟨_,_,_,hrun,fun F rh W rargs hargs hh=>?_⟩
  have hp1:Ahb [.cells (ρ.t 72) [.a .nilptr,.a .nilsl]] [] 0=some (.cells (ρ.t 72) [.a .nilptr,.a .nilsl]):=rfl
  obtain⟨x,r1,e1,hx,hr1⟩:=hargs.cons_left
  have hr1:=hr1.nil_left
  obtain⟨b0,hb0,_,ad,rfl,had⟩:=hx
  rw[hp1]at hb0
  cases hb0
  obtain⟨_,bb,hbs,rfl⟩:=had rfl
  obtain⟨bb',rs,fr,h1,h2,h3,h4⟩:=hh.blocks 0 _ hp1
  rw[hbs]at h1;cases h1
  obtain⟨v0,m,e2,g0,h5⟩:=h4.cons_left
  obtain⟨v1,m',e3,g1,h6⟩:=h5.cons_left
  have h6:=h6.nil_left
  subst h6
  have g1:v1 = .slice none 0 0:=g1
  subst g1
  have:rs = #[v0,.slice none 0 0]:=by apply Array.ext';rw[e2,e3]
  subst this
  have hr:rargs = #[.pointer (some ⟨bb,0,none⟩)]:=by apply Array.ext';rw[e1,hr1]
  subst hr
  refine (C7i L X bb v0 fr W h2).mono ?_
  rintro e w' ⟨rfl,rfl⟩
  exact⟨_,F,rh,rfl,by show [_]=[_];rfl,hh.dr,⟨rfl,rfl,rfl,Nat.le_refl _,fun _ _ _=>rfl,fun _ h=>.inl h,fun _ _ h=>h,fun _ h=>.inl h,fun _ _ b hb=>⟨b,hb,Evo.refl _ _ _⟩⟩⟩
 rename_i T' x0 E' xs
 split at hrun
 case h_2=>cases hrun
 rename_i hT
 simp only[Bool.and_eq_true]at hT
 obtain⟨hT,hE⟩:=hT
 have hT:=Ab4 hT
 have hE:=Ab4 hE
 subst hT hE
 split at hrun
 case isFalse=>cases hrun
 rename_i hc
 obtain⟨hpos,hlim,hby⟩:=hc
 refine⟨_,_,_,hrun,fun F rh W rargs hargs hh=>?_⟩
 obtain⟨x,r1,e1,hx,hr1⟩:=hargs.cons_left
 have hr1:=hr1.nil_left
 obtain⟨b0,hb0,_,ad,rfl,had⟩:=hx
 rw[Aqb]at hb0
 simp only[if_true,Option.some.injEq]at hb0
 subst hb0
 obtain⟨_,bb,hbs,rfl⟩:=had rfl
 obtain⟨bb',rs,fr,h1,h2,h3,h4⟩:=hh.blocks 0 _ (by rw[Aqb];rfl)
 rw[hbs]at h1;cases h1
 obtain⟨v0,m,e2,g0,h5⟩:=h4.cons_left
 obtain⟨v1,m',e3,g1,h6⟩:=h5.cons_left
 have h6:=h6.nil_left
 subst h6
 have:rs = #[v0,v1]:=by apply Array.ext';rw[e2,e3]
 subst this
 have hr:rargs = #[.pointer (some ⟨bb,0,none⟩)]:=by apply Array.ext';rw[e1,hr1]
 subst hr
 obtain⟨b0,hb0,_,ad,rfl,had⟩:=g0
 rw[Aqb]at hb0
 simp only[if_true,Option.some.injEq]at hb0
 subst hb0
 obtain⟨_,bb',hbs',rfl⟩:=had rfl
 rw[hbs]at hbs';cases hbs'
 obtain⟨b1,hb1,_,A,l,c,rfl,hsl⟩:=g1
 rw[Aqb]at hb1
 simp only[Nat.one_ne_zero,if_false,if_true,Option.some.injEq]at hb1
 subst hb1
 obtain⟨hl,hcap,hA⟩:=hsl rfl
 subst hl hcap
 rcases hh.blocks 1 _ (by rw[Aqb];rfl) with ⟨_,hx0,_⟩|⟨g,cur,f2,hgb,hgh,hnf,hsz,hle,hel,_⟩
 ·subst hx0;simp at hpos
 have hA:=hA g hgb
 subst hA
 have hne:g≠bb:=by
  intro e
  have:=hh.inj 0 1 _ _ bb (by rw[Aqb];rfl) (by rw[Aqb];rfl) (by rw[hbs];simp) (by rw[hgb,e];simp)
  cases this
 have hlen:(Bsw xs).length=xs.length:=by simp[Bsw]
 have hsz:cur.size=(rh 1).cap:=by simpa [Ty.size]using hsz
 have hget:∀j x,(Bsw xs)[j]? = some x→W.cell? ((⟨g,0,none⟩:Addr).add j)=some (.int .u8 x.toNat):=by
  intro j x hx
  have hj:j<xs.length:=by
   have:=(List.getElem?_eq_some_iff.1 hx).1
   omega
  have h7:=hel j hj
  simp only[Ty.size,Nat.mul_one,RC]at h7
  have h8:(Ahc cur j 1)[0]? = cur[j+0]?:=Blb (by omega)
  rw[h7]at h8
  have h9:x=UInt8.ofNat (xs[j]).toNat:=by
   simp only[Bsw,List.getElem?_map,List.getElem?_eq_getElem hj,Option.map_some,Option.some.injEq]at hx
   exact hx.symm
  have hr:=List.all_eq_true.1 hby xs[j] (List.getElem_mem hj)
  simp only[decide_eq_true_eq]at hr
  have h10:xs.getD j (Ty.int IntKind.u8).dflt=xs[j]:=by rw[List.getD_eq_getElem?_getD,List.getElem?_eq_getElem hj];rfl
  rw[A4b,Cdz hgh]
  simp only[List.getElem?_cons_zero,Nat.add_zero]at h8
  rw[Nat.zero_add,←h8,h10,h9]
  congr 2
  have:(UInt8.ofNat (xs[j]).toNat).toNat=(xs[j]).toNat:=by
   rw[UInt8.toNat_ofNat']
   exact Nat.mod_eq_of_lt (by omega)
  rw[this];omega
 have hlt:∀k o,W.heap[k]? = some o→k<W.heap.size:=fun k o h=>by
  rcases Nat.lt_or_ge k W.heap.size with h' |h'
  ·exact h'
  ·rw[Array.getElem?_eq_none h']at h;cases h
 refine (Che L X bb g (rh 1).cap cur _ fr f2 (Bsw xs) W (by rw[hlen];exact h2) hgh (by omega) (by unfold LIM at hlim;omega) (by omega) hget (by intro h;rw[h]at hlen;simp at hlen;omega)).mono ?_
 rintro e w' ⟨rfl,hk⟩
 have hbb:=hlt bb _ h2
 refine⟨_,F,fun i=>if i=1 then ⟨[],0⟩ else rh i,rfl,?_,⟨?_,?_,?_,?_⟩,⟨hk.os,hk.tape,hk.output,hk.size,?_,?_,fun _ _ h=>h,fun _ h=>.inl h,?_⟩⟩
 ·show [_]=[_];rfl
 ·intro id blk hblk
  rw[Aqb]at hblk
  by_cases e0:id=0
  ·subst e0
   simp only[if_true,Option.some.injEq]at hblk
   subst hblk
   refine⟨bb,_,fr,hbs,(hk.ne bb hbb (Ne.symm hne)).trans h2,h3,?_,trivial,trivial⟩
   exact⟨.cells (ρ.t 72) [.a (.ptr 0 0 0 0),.a .undef],by rw[Aqb];rfl,Nat.le_refl _,_,rfl,fun _=>⟨rfl,bb,hbs,rfl⟩⟩
  ·by_cases e1:id=1
   ·subst e1
    simp only[Nat.one_ne_zero,if_false,if_true,Option.some.injEq]at hblk
    subst hblk
    exact .inl ⟨rfl,rfl,rfl⟩
   ·rw[if_neg e0,if_neg e1]at hblk;cases hblk
 ·intro i j x y k hx hy hi hj
  rw[Aqb]at hx hy
  have h0:∀i,(∃x,(if i=0 then some (Aa1.cells (ρ.t 72) [.a (.ptr 0 0 0 0),.a .undef]) else if i=1 then some (Aa1.row (ρ.t 5) (.int .u8) 0 false []) else none)=some x)→k∈((fun i=>if i=1 then (⟨[],0⟩:A47) else rh i) i).bs→i=0:=by
   intro i ⟨x,hx⟩ hi
   by_cases e0:i=0
   ·exact e0
   ·by_cases e1:i=1
    ·subst e1;simp at hi
    ·rw[if_neg e0,if_neg e1]at hx;cases hx
  rw[h0 i ⟨x,hx⟩ hi,h0 j ⟨y,hy⟩ hj]
 ·intro k o hF
  have h7:=hh.fz k o hF
  have:k≠g:=by
   intro e
   subst e
   have:=hh.apart k ⟨1,_,by rw[Aqb];rfl,rfl,by rw[hgb];simp⟩
   rw[this]at hF;cases hF
  rw[hk.ne k (hlt k _ h7) this];exact h7
 ·rintro k ⟨i,x,hx,hz,hm⟩
  rw[Aqb]at hx
  by_cases e0:i=0
  ·subst e0
   exact hh.apart k ⟨0,_,by rw[Aqb];rfl,rfl,hm⟩
  ·by_cases e1:i=1
   ·subst e1;simp at hm
   ·rw[if_neg e0,if_neg e1]at hx;cases hx
 ·intro k hklt hno
  refine hk.ne k hklt ?_
  intro e
  subst e
  exact hno ⟨1,_,by rw[Aqb];rfl,rfl,by rw[hgb];simp⟩
 ·rintro k ⟨i,x,hx,hz,hm⟩
  rw[Aqb]at hx
  by_cases e0:i=0
  ·subst e0
   exact .inl ⟨0,_,by rw[Aqb];rfl,rfl,hm⟩
  ·by_cases e1:i=1
   ·subst e1;simp at hm
   ·rw[if_neg e0,if_neg e1]at hx;cases hx
 ·intro id _ blk hblk
  rw[Aqb]at hblk
  by_cases e0:id=0
  ·subst e0
   simp only[if_true,Option.some.injEq]at hblk
   subst hblk
   exact⟨.cells (ρ.t 72) [.a (.ptr 0 0 0 0),.a .undef],by rw[Aqb];rfl,rfl,rfl,rfl⟩
  ·by_cases e1:id=1
   ·subst e1
    simp only[Nat.one_ne_zero,if_false,if_true,Option.some.injEq]at hblk
    subst hblk
    refine⟨.row (ρ.t 5) (.int .u8) 0 false [],by rw[Aqb];rfl,rfl,rfl,rfl,fun h=>?_⟩
    exact absurd h (by simp[Bsx])
   ·rw[if_neg e0,if_neg e1]at hblk;cases hblk
end Go.AX
namespace Go.AX
noncomputable section
def Aet(P:Program)(n:Nat)(g:List Bool)(c:Code)(F:Abu):Prop :=
 ∀(R:Type) (st:ASt) (K:Ex→ASt→Option R) (r:R),F R st K=some r→∃e st',K e st'=some r∧∀F ρ hp a0 W0 a W,An9 n g F ρ hp a0 W0 st a W→B09 P c (B8n n g F ρ hp a0 W0 e st') a W
theorem Aet.frag{P:Program}{n:Nat}{g:List Bool}{c:Code}{F:Abu}(h:Aet P n g c F):Aba P n g (.loop c) F:=by
 intro R st K r hF
 obtain⟨e,st',h1,h2⟩:=h R st K r hF
 exact⟨e,st',h1,fun F ρ hp a0 W0 a W hl=>(h2 F ρ hp a0 W0 a W hl).loop⟩
theorem Aet.alt{P:Program}{n:Nat}{g:List Bool}{c:Code}{F G:Abu}{fits:ASt→Bool}(hF:Aet P n g c F)(hG:Aet P n g c G):Aet P n g c (C6c F G fits):=by
 intro R st K r h
 unfold C6c at h
 split at h
 ·exact hF R st K r h
 ·exact hG R st K r h
theorem Aet.none(P:Program)(n:Nat)(g:List Bool)(c:Code):Aet P n g c (fun _ _ _=>none):=by
 intro R st K r h;cases h
def Agi{R:Type}(p:Aac)(next:p.den→Option R)(alt:ASt→(Ex→ASt→Option R)→Option R)(K:Ex→ASt→Option R)(outs:Ac8):Ex→ASt→Option R
 | .normal,st=>match dec p st with
  |some y=>next y
  |none=>alt st K
 |e,st=>Ain K outs e st
section
variable {P:Program} {tt:TT} {Γ:FuncId→Option Aae} {g:List Bool} {n:Nat} {Λ:Nat→Option Abu} {dom:Nat→Bool}
theorem Adq(hm:P.follows .mixedOrders=true)(htt:Aod P tt)(hΓ:A2p P tt Γ)(hdom:∀k,(Λ k).isSome=dom k){c:Code}(hd:Ayb dom n c=true)(hc:∀p,p∈Als dom c→∀F,Λ p.1=some F→Aba P n g p.2 F){p:Aac}{G:Nat→Aar p}(outs:Ac8){B:Abu}(hB:Aet P n g c B)(h0:∀R x K,G 0 R x K=none)(h:∀(R:Type) k x K,Aal tt Γ g Λ c (Aab p x) (Agi (R:=R) p (fun y=>G k R y K) (B R) K outs)=G (k+1) R x K)(N:Nat) :
  Aet P n g c (Aaa p (G N)):=by
 have key:∀(R:Type) (K:Ex→ASt→Option R) r k x,G k R x K=some r→∃e st',K e st'=some r∧∀F ρ hp a0 W0 a W,An9 n g F ρ hp a0 W0 (Aab p x) a W→B09 P c (B8n n g F ρ hp a0 W0 e st') a W:=by
  intro R K r k
  induction k with
  |zero=>intro x hG;rw[h0]at hG;cases hG
  |succ k ih=>
   intro x hG
   rw[←h]at hG
   obtain⟨e,st1,h1,h2⟩:=Chz hm htt hΓ hdom c hd hc R _ _ r hG
   cases e with
   |normal=>
    simp only[Agi]at h1
    split at h1
    ·rename_i y hy
     obtain⟨e,st',k1,k2⟩:=ih y h1
     refine⟨e,st',k1,fun F ρ hp a0 W0 a W hl=>B09.round (wp_mono (h2 F ρ hp a0 W0 a W hl) ?_)⟩
     rintro x' a' W' ⟨rfl,hl'⟩
     ·exact k2 F ρ hp a0 W0 a' W' (An9.trans hl' fun F1 ρ1 hs=>B1a hy hs)
    ·obtain⟨e,st',k1,k2⟩:=hB R st1 K r h1
     refine⟨e,st',k1,fun F ρ hp a0 W0 a W hl=>B09.round (wp_mono (h2 F ρ hp a0 W0 a W hl) ?_)⟩
     rintro x' a' W' ⟨rfl,hl'⟩
     ·exact k2 F ρ hp a0 W0 a' W' hl'
   |exit id=>
    simp only[Agi]at h1
    obtain⟨q,y,h3,h4⟩:=B1c h1
    refine⟨.exit id,Aab q y,h4,fun F ρ hp a0 W0 a W hl=>B09.round (wp_mono ((h2.out h3) F ρ hp a0 W0 a W hl) ?_)⟩
    rintro x' a' W' ⟨rfl,hl'⟩
    ·exact⟨rfl,hl'⟩
   |ret=>
    simp only[Agi]at h1
    obtain⟨q,y,h3,h4⟩:=B1c h1
    refine⟨.ret,Aab q y,h4,fun F ρ hp a0 W0 a W hl=>B09.round (wp_mono ((h2.out h3) F ρ hp a0 W0 a W hl) ?_)⟩
    rintro x' a' W' ⟨rfl,hl'⟩
    ·exact⟨rfl,hl'⟩
 intro R st K r hF
 unfold Aaa at hF
 split at hF
 case h_2=>cases hF
 rename_i x hx
 obtain⟨e,st',h1,h2⟩:=key R K r N x hF
 exact⟨e,st',h1,fun F ρ hp a0 W0 a W hl=>h2 F ρ hp a0 W0 a W (An9.trans hl fun F1 ρ1 hs=>B1a hx hs)⟩
end
end
end Go.AX
namespace Go.AX
noncomputable section
def B3q:Aae where
 pure:=[]
 grow:=[]
 mat:=false
 run _ args bl K:=match args with
  |[]=>K (.v (.one (.a (.val .bool true)))) bl []
  | _=>none
theorem Dhg{P:Program}{f:FuncId}(h:∀W:World,Calls P f #[] W fun e W'=>e = .returned (.bool true)∧W'.os=W.os∧W'.tape=W.tape∧W'.output=W.output∧W.heap.size≤W'.heap.size∧∀b,b<W.heap.size→W'.heap[b]? = W.heap[b]?):A1r P f B3q:=by
 intro R args bl K r hrun
 simp only[B3q]at hrun
 split at hrun
 case h_2=>cases hrun
 refine⟨_,bl,[],hrun,fun F ρ W rargs hargs hh=>?_⟩
 have hr:rargs = #[]:=by apply Array.ext';exact hargs.nil_left
 subst hr
 refine (h W).mono ?_
 rintro e w' ⟨rfl,h1,h2,h3,h4,h5⟩
 refine⟨_,F,ρ,rfl,rfl,⟨fun id b hb=>?_,hh.inj,fun b o hb=>?_,hh.apart⟩,⟨h1,h2,h3,h4,fun b hb _=>h5 b hb,fun _ h=>.inl h,fun _ _ h=>h,fun _ h=>.inl h,fun _ _ b hb=>⟨b,hb,Evo.refl _ _ _⟩⟩⟩
 ·have hB:=hh.blocks id b hb
  refine BR.mono (fun _ _ h=>h) (fun id b hb=>⟨b,hb,Avp.refl _ _⟩) rfl (fun k hk=>h5 k (hB.lt hk)) hB
 ·rw[h5 b (hh.flt (by rw[hb];simp))]
  exact hh.fz b o hb
end
end Go.AX
namespace Go.AX
noncomputable section
open Go.Proofs Go.Shelf Go.RowKit
theorem BR.up{F:Fz}{ρ:Rho}{hp:Aaq}{W W':World}{id:Nat}{b:Aa1}(hm:∀(k:Nat) (o:Obj),W.heap[k]? = some o→W'.heap[k]? = some o)(h:BR F ρ hp W id b):BR F ρ hp W' id b:=by
 cases b with
 |cells T cs=>obtain⟨bb,rs,fr,h1,h2,h3⟩:=h;exact⟨bb,rs,fr,h1,hm _ _ h2,h3⟩
 |row E t v fz xs=>
  rcases h with h|⟨bb,rs,fr,h1,h2,h3⟩
  ·exact .inl h
  ·exact .inr ⟨bb,rs,fr,h1,hm _ _ h2,h3⟩
 |amap T kt et m=>obtain⟨bb,es,c,h1,h2,h3⟩:=h;exact⟨bb,es,c,h1,hm _ _ h2,h3⟩
 |fmap T k m=>obtain⟨bb,es,c,h1,h2,h3⟩:=h;exact⟨bb,es,c,h1,hm _ _ h2,h3⟩
theorem Adn.up{F:Fz}{ρ:Rho}{hp:Aaq}{W W':World}(h:Adn F ρ hp W)(hm:∀(k:Nat) (o:Obj),W.heap[k]? = some o→W'.heap[k]? = some o):Adn F ρ hp W' :=
 ⟨fun id b hb=>(h.blocks id b hb).up hm,h.inj,fun b o hb=>hm _ _ (h.fz b o hb),h.apart⟩
theorem Ext.grown{g:List Bool}{F:Fz}{ρ:Rho}{hp:Aaq}{W:World}(k:Nat)(os:Array Obj):Ext g F ρ hp W F ρ hp (Sort.grow (W.drewN k) os) :=
 ⟨rfl,rfl,rfl,by simp[Sort.grow,World.drewN],fun b hb _=>Sort.heap_grow_old _ _ hb,fun _ h=>.inl h,fun _ _ h=>h,fun _ h=>.inl h,fun _ _ b hb=>⟨b,hb,Evo.refl _ _ _⟩⟩
end
end Go.AX
namespace Go.AX
noncomputable section
open Go.Proofs Go.Shelf Go.RowKit
end
end Go.AX
namespace Go.AX
@[reducible] def wi(x:Int):Int:=IntKind.i64.wrap x
@[reducible] def len{α:Type}(l:List α):Int:=((List.length l:Nat):Int)
end Go.AX
namespace Go.AX
theorem w64{x:Int}(h:-9223372036854775808≤x∧x≤9223372036854775807):IntKind.i64.wrap x=x:=IntWalk.i64_in x h
theorem Ddo{α:Type}{l:List α}{i:Nat}{d:α}(h:i<l.length):l.getD i d∈l:=by
 rw[List.getD_eq_getElem?_getD,List.getElem?_eq_getElem h];simp
def Cnc(l:List Int):Prop:=∀x,x∈l→0≤x∧x<256
theorem Cnc.get{l:List Int}(h:Cnc l){i:Nat}(hi:i<l.length):0≤l.getD i 0∧l.getD i 0<256:=h _ (Ddo hi)
theorem Cnc.take{l:List Int}(h:Cnc l)(n:Nat):Cnc (l.take n):=fun x hx=>h x (List.mem_of_mem_take hx)
theorem Cnc.drop{l:List Int}(h:Cnc l)(n:Nat):Cnc (l.drop n):=fun x hx=>h x (List.mem_of_mem_drop hx)
theorem C05{n:Int}(h:Wf (.int .i64) n):-9223372036854775808≤n∧n≤9223372036854775807:=by
 simp[Wf,Lit.wf,IntKind.min,IntKind.max,IntKind.signed,IntKind.bits]at h
 omega
end Go.AX

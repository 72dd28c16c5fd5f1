/- Part AW of the proof. -/
import Derived.Test.YtamaoomcbegaiaaGreatY4
import Derived.Test.YtamaoomcbegaiaaGreatSh
import Derived.WalkKit
import Derived.Laws.Externs
namespace Go.CE.Aw
noncomputable section
open Go.Proofs Go.Shelf Go.RowKit
set_option maxRecDepth 100000
theorem Bt6:(Tryz.prog.info? 167).map (·.size)=some 2:=by kernel_rfl
theorem Cid:liesAt Tryz.prog Tryz.prog.depth 167 (2/Tryz.prog.cellsOf 167) 0 167 1=true:=by kernel_rfl
set_option maxHeartbeats 1000000 in
theorem Bli(b:Nat)(w:World)(h0:w.cell? ⟨b,0,none⟩=some (.pointer (some ⟨b,0,none⟩))) :
  Calls Tryz.prog 172 #[.pointer (some ⟨b,0,none⟩)] w fun e w'=>e = .returned (.tuple #[])∧w'=w:=by
 obtain⟨j,hj,_⟩:=Option.map_eq_some_iff.1 Bt6
 go_enter Tryz.func172,Tryz.ntmps172
 go_wp2
 rw[Lib.run_neq_ptr_same w _ Tryz.underlying164 hj]
 go_wp2
 go_end0
 exact⟨rfl,rfl⟩
set_option maxHeartbeats 1000000 in
theorem Bg9(b:Nat)(w:World)(h0:w.cell? ⟨b,0,none⟩=some (.pointer none))(hsh:w.shape? b=some (167,2))(hfz:w.frozen? ⟨b,0,none⟩=false) :
  Calls Tryz.prog 172 #[.pointer (some ⟨b,0,none⟩)] w fun e w'=>e = .returned (.tuple #[])∧w'=w.setCell ⟨b,0,none⟩ (.pointer (some ⟨b,0,none⟩)):=by
 obtain⟨j,hj,hjs⟩:=Option.map_eq_some_iff.1 Bt6
 go_enter Tryz.func172,Tryz.ntmps172
 go_wp2
 rw[Lib.run_to_unsafe w ⟨b,0,none⟩ Tryz.underlying164 Tryz.underlying229 hj (by rw[hjs];decide) hsh (Nat.zero_lt_succ 1)]
 simp only[Result.andThen]
 rw[Oper.upon_value]
 go_wp2
 rw[run_callFunc_extern Tryz.func224 (by kernel_rfl) (by kernel_rfl) (by kernel_rfl) (e:=Extern.AbiNoEscape.same) (by kernel_rfl)]
 rw[Lib.run_noEscape]
 simp only[Result.andThen]
 rw[Oper.upon_value]
 go_wp2
 rw[Lib.run_from_unsafe w ⟨b,0,none⟩ Tryz.underlying229 Tryz.underlying164 hj hsh Cid]
 simp only[Result.andThen]
 rw[Oper.upon_value]
 go_wp2
 go_end0
 exact⟨rfl,rfl⟩
def PP:PT:=Dmj Tryz.prog (by kernel_rfl) (by kernel_rfl)
def sp0:Bap:=B9k 172 119 167 5
theorem Cz1(base:Nat→Prop):B9a PP base sp0 :=
 C1x (P:=PP) (r:=Tryz.lays169_ren) Tryz.lays169 Tryz.Builder_Extra_169 ⟨_,Tryz.func172,by kernel_rfl,by kernel_rfl⟩ ⟨_,Tryz.func119,by kernel_rfl,by kernel_rfl⟩ Bli Bg9 base
theorem Cn4:PP.P.follows .mixedOrders=true:=by kernel_rfl
def k0:Bg8:=⟨28,[(.string ⟨⟨[108,101,116,32,115,116,97,114,116,40,41,32,98,101,32,119,114,99,104,40,54,52,32,43,32,49,41]⟩⟩)],⟨0,[]⟩,(.tuple ⟨[(.agg ⟨[(.string ⟨⟨[]⟩⟩),(.slice (some ⟨680,0,none⟩) 1 18446744073709551621)]⟩),(.int .i64 (.ofNat 0)),(.int .i64 (.ofNat 0))]⟩),⟨685,[(297,.cells [(.int .i64 (.ofNat 1)),(.int .i64 (.ofNat 64)),(.string ⟨⟨[]⟩⟩),(.slice none 0 0),(.int .i64 (.ofNat 20)),(.int .i64 (.ofNat 1)),(.int .i64 (.ofNat 1)),(.string ⟨⟨[]⟩⟩),(.slice none 0 0),(.int .i64 (.ofNat 25))] 107 true),
  (456,.cells [(.int .i64 (.ofNat 6)),(.int .i64 (.ofNat 0)),(.string ⟨⟨[119,114,99,104]⟩⟩),(.slice none 0 0),(.int .i64 (.ofNat 15)),(.int .i64 (.ofNat 12)),(.int .i64 (.ofNat 4)),(.string ⟨⟨[]⟩⟩),(.slice (some ⟨297,0,none⟩) 2 2),(.int .i64 (.ofNat 20))] 107 false),
  (660,.cells [(.int .i64 (.ofNat 7)),(.int .i64 (.ofNat 0)),(.string ⟨⟨[]⟩⟩),(.slice (some ⟨456,0,none⟩) 2 18446744073709551621),(.int .i64 (.ofNat 15))] 107 true),
  (674,.cells [(.int .i64 (.ofNat 31)),(.int .i64 (.ofNat 0)),(.string ⟨⟨[]⟩⟩),(.slice (some ⟨660,0,none⟩) 1 1),(.int .i64 (.ofNat 15))] 107 false),
  (680,.cells [(.int .i64 (.ofNat 64)),(.int .i64 (.ofNat 1)),(.string ⟨⟨[115,116,97,114,116]⟩⟩),(.slice (some ⟨674,0,none⟩) 1 18446744073709551621),(.int .i64 (.ofNat 0))] 107 false)]⟩⟩
theorem Dke:k0.fits (Bx5 PP sp0 100000 1000 k0.f k0.args k0.before.ch)=true:=by kernel_rfl
def k1:Bg8:=⟨29,[(.agg ⟨[(.string ⟨⟨[]⟩⟩),(.slice (some ⟨680,0,none⟩) 1 18446744073709551621)]⟩)],⟨686,[(297,.cells [(.int .i64 (.ofNat 1)),(.int .i64 (.ofNat 64)),(.string ⟨⟨[]⟩⟩),(.slice none 0 0),(.int .i64 (.ofNat 20)),(.int .i64 (.ofNat 1)),(.int .i64 (.ofNat 1)),(.string ⟨⟨[]⟩⟩),(.slice none 0 0),(.int .i64 (.ofNat 25))] 107 true),
  (456,.cells [(.int .i64 (.ofNat 6)),(.int .i64 (.ofNat 0)),(.string ⟨⟨[119,114,99,104]⟩⟩),(.slice none 0 0),(.int .i64 (.ofNat 15)),(.int .i64 (.ofNat 12)),(.int .i64 (.ofNat 4)),(.string ⟨⟨[]⟩⟩),(.slice (some ⟨297,0,none⟩) 2 2),(.int .i64 (.ofNat 20))] 107 false),
  (660,.cells [(.int .i64 (.ofNat 7)),(.int .i64 (.ofNat 0)),(.string ⟨⟨[]⟩⟩),(.slice (some ⟨456,0,none⟩) 2 18446744073709551621),(.int .i64 (.ofNat 15))] 107 true),
  (674,.cells [(.int .i64 (.ofNat 31)),(.int .i64 (.ofNat 0)),(.string ⟨⟨[]⟩⟩),(.slice (some ⟨660,0,none⟩) 1 1),(.int .i64 (.ofNat 15))] 107 false),
  (680,.cells [(.int .i64 (.ofNat 64)),(.int .i64 (.ofNat 1)),(.string ⟨⟨[115,116,97,114,116]⟩⟩),(.slice (some ⟨674,0,none⟩) 1 18446744073709551621),(.int .i64 (.ofNat 0))] 107 false),
  (685,.cells [(.string ⟨⟨[]⟩⟩),(.slice (some ⟨680,0,none⟩) 1 18446744073709551621)] 57 true)]⟩,(.tuple ⟨[(.agg ⟨[(.string ⟨⟨[]⟩⟩),(.slice none 0 0),(.slice (some ⟨847,0,none⟩) 9 18446744073709551619),(.slice (some ⟨849,0,none⟩) 1 18446744073709551618),(.int .i64 (.ofNat 1)),(.int .i64 (.ofNat 0))]⟩),(.int .i64 (.ofNat 0))]⟩),⟨957,[(297,.cells [(.int .i64 (.ofNat 1)),(.int .i64 (.ofNat 64)),(.string ⟨⟨[]⟩⟩),(.slice none 0 0),(.int .i64 (.ofNat 20)),(.int .i64 (.ofNat 1)),(.int .i64 (.ofNat 1)),(.string ⟨⟨[]⟩⟩),(.slice none 0 0),(.int .i64 (.ofNat 25))] 107 true),
  (456,.cells [(.int .i64 (.ofNat 6)),(.int .i64 (.ofNat 0)),(.string ⟨⟨[119,114,99,104]⟩⟩),(.slice none 0 0),(.int .i64 (.ofNat 15)),(.int .i64 (.ofNat 12)),(.int .i64 (.ofNat 4)),(.string ⟨⟨[]⟩⟩),(.slice (some ⟨297,0,none⟩) 2 2),(.int .i64 (.ofNat 20))] 107 false),
  (660,.cells [(.int .i64 (.ofNat 7)),(.int .i64 (.ofNat 0)),(.string ⟨⟨[]⟩⟩),(.slice (some ⟨456,0,none⟩) 2 18446744073709551621),(.int .i64 (.ofNat 15))] 107 true),
  (674,.cells [(.int .i64 (.ofNat 31)),(.int .i64 (.ofNat 0)),(.string ⟨⟨[]⟩⟩),(.slice (some ⟨660,0,none⟩) 1 1),(.int .i64 (.ofNat 15))] 107 false),
  (680,.cells [(.int .i64 (.ofNat 64)),(.int .i64 (.ofNat 1)),(.string ⟨⟨[115,116,97,114,116]⟩⟩),(.slice (some ⟨674,0,none⟩) 1 18446744073709551621),(.int .i64 (.ofNat 0))] 107 false),
  (685,.cells [(.string ⟨⟨[]⟩⟩),(.slice (some ⟨680,0,none⟩) 1 18446744073709551621)] 57 true),
  (847,.cells [(.int .i64 (.ofNat 24)),(.int .i64 (.ofNat 1)),(.int .i64 (.ofNat 0)),(.int .i64 (.ofNat 18)),(.int .i64 (.ofNat 4)),(.int .i64 (.ofNat 0)),(.int .i64 (.ofNat 1)),(.int .i64 (.ofNat 64)),(.int .i64 (.ofNat 0)),(.int .i64 (.ofNat 1)),(.int .i64 (.ofNat 1)),(.int .i64 (.ofNat 0)),(.int .i64 (.ofNat 16)),(.int .i64 (.ofNat 4)),(.int .i64 (.ofNat 0)),(.int .i64 (.ofNat 5)),(.int .i64 (.ofNat 3)),(.int .i64 (.ofNat 0)),(.int .i64 (.ofNat 23)),(.int .i64 (.ofNat 2)),(.int .i64 (.ofNat 0)),(.int .i64 (.ofNat 18)),(.int .i64 (.ofNat 2)),(.int .i64 (.ofNat 0)),(.int .i64 (.ofNat 26)),(.int .i64 (.ofNat 0)),(.int .i64 (.ofNat 0))] 51 false),
  (849,.cells [(.int .i64 (.ofNat 1)),(.int .i64 (.ofNat 1))] 114 false)]⟩⟩
theorem Dkf:k1.fits (Bx5 PP sp0 100000 1000 k1.f k1.args k1.before.ch)=true:=by kernel_rfl
def k2:Bg8:=⟨11,[(.agg ⟨[(.string ⟨⟨[]⟩⟩),(.slice none 0 0),(.slice (some ⟨847,0,none⟩) 9 18446744073709551619),(.slice (some ⟨849,0,none⟩) 1 18446744073709551618),(.int .i64 (.ofNat 1)),(.int .i64 (.ofNat 0))]⟩)],⟨958,[(297,.cells [(.int .i64 (.ofNat 1)),(.int .i64 (.ofNat 64)),(.string ⟨⟨[]⟩⟩),(.slice none 0 0),(.int .i64 (.ofNat 20)),(.int .i64 (.ofNat 1)),(.int .i64 (.ofNat 1)),(.string ⟨⟨[]⟩⟩),(.slice none 0 0),(.int .i64 (.ofNat 25))] 107 true),
  (456,.cells [(.int .i64 (.ofNat 6)),(.int .i64 (.ofNat 0)),(.string ⟨⟨[119,114,99,104]⟩⟩),(.slice none 0 0),(.int .i64 (.ofNat 15)),(.int .i64 (.ofNat 12)),(.int .i64 (.ofNat 4)),(.string ⟨⟨[]⟩⟩),(.slice (some ⟨297,0,none⟩) 2 2),(.int .i64 (.ofNat 20))] 107 false),
  (660,.cells [(.int .i64 (.ofNat 7)),(.int .i64 (.ofNat 0)),(.string ⟨⟨[]⟩⟩),(.slice (some ⟨456,0,none⟩) 2 18446744073709551621),(.int .i64 (.ofNat 15))] 107 true),
  (674,.cells [(.int .i64 (.ofNat 31)),(.int .i64 (.ofNat 0)),(.string ⟨⟨[]⟩⟩),(.slice (some ⟨660,0,none⟩) 1 1),(.int .i64 (.ofNat 15))] 107 false),
  (680,.cells [(.int .i64 (.ofNat 64)),(.int .i64 (.ofNat 1)),(.string ⟨⟨[115,116,97,114,116]⟩⟩),(.slice (some ⟨674,0,none⟩) 1 18446744073709551621),(.int .i64 (.ofNat 0))] 107 false),
  (685,.cells [(.string ⟨⟨[]⟩⟩),(.slice (some ⟨680,0,none⟩) 1 18446744073709551621)] 57 true),
  (847,.cells [(.int .i64 (.ofNat 24)),(.int .i64 (.ofNat 1)),(.int .i64 (.ofNat 0)),(.int .i64 (.ofNat 18)),(.int .i64 (.ofNat 4)),(.int .i64 (.ofNat 0)),(.int .i64 (.ofNat 1)),(.int .i64 (.ofNat 64)),(.int .i64 (.ofNat 0)),(.int .i64 (.ofNat 1)),(.int .i64 (.ofNat 1)),(.int .i64 (.ofNat 0)),(.int .i64 (.ofNat 16)),(.int .i64 (.ofNat 4)),(.int .i64 (.ofNat 0)),(.int .i64 (.ofNat 5)),(.int .i64 (.ofNat 3)),(.int .i64 (.ofNat 0)),(.int .i64 (.ofNat 23)),(.int .i64 (.ofNat 2)),(.int .i64 (.ofNat 0)),(.int .i64 (.ofNat 18)),(.int .i64 (.ofNat 2)),(.int .i64 (.ofNat 0)),(.int .i64 (.ofNat 26)),(.int .i64 (.ofNat 0)),(.int .i64 (.ofNat 0))] 51 false),
  (849,.cells [(.int .i64 (.ofNat 1)),(.int .i64 (.ofNat 1))] 114 false),
  (957,.cells [(.string ⟨⟨[]⟩⟩),(.slice none 0 0),(.slice (some ⟨847,0,none⟩) 9 18446744073709551619),(.slice (some ⟨849,0,none⟩) 1 18446744073709551618),(.int .i64 (.ofNat 1)),(.int .i64 (.ofNat 0))] 26 true)]⟩,(.tuple ⟨[(.agg ⟨[(.string ⟨⟨[]⟩⟩),(.slice none 0 0),(.slice (some ⟨1628,0,none⟩) 7 18446744073709551619),(.slice (some ⟨1630,0,none⟩) 1 18446744073709551618),(.int .i64 (.ofNat 1)),(.int .i64 (.ofNat 0))]⟩),(.int .i64 (.ofNat 0))]⟩),⟨1840,[(297,.cells [(.int .i64 (.ofNat 1)),(.int .i64 (.ofNat 64)),(.string ⟨⟨[]⟩⟩),(.slice none 0 0),(.int .i64 (.ofNat 20)),(.int .i64 (.ofNat 1)),(.int .i64 (.ofNat 1)),(.string ⟨⟨[]⟩⟩),(.slice none 0 0),(.int .i64 (.ofNat 25))] 107 true),
  (456,.cells [(.int .i64 (.ofNat 6)),(.int .i64 (.ofNat 0)),(.string ⟨⟨[119,114,99,104]⟩⟩),(.slice none 0 0),(.int .i64 (.ofNat 15)),(.int .i64 (.ofNat 12)),(.int .i64 (.ofNat 4)),(.string ⟨⟨[]⟩⟩),(.slice (some ⟨297,0,none⟩) 2 2),(.int .i64 (.ofNat 20))] 107 false),
  (660,.cells [(.int .i64 (.ofNat 7)),(.int .i64 (.ofNat 0)),(.string ⟨⟨[]⟩⟩),(.slice (some ⟨456,0,none⟩) 2 18446744073709551621),(.int .i64 (.ofNat 15))] 107 true),
  (674,.cells [(.int .i64 (.ofNat 31)),(.int .i64 (.ofNat 0)),(.string ⟨⟨[]⟩⟩),(.slice (some ⟨660,0,none⟩) 1 1),(.int .i64 (.ofNat 15))] 107 false),
  (680,.cells [(.int .i64 (.ofNat 64)),(.int .i64 (.ofNat 1)),(.string ⟨⟨[115,116,97,114,116]⟩⟩),(.slice (some ⟨674,0,none⟩) 1 18446744073709551621),(.int .i64 (.ofNat 0))] 107 false),
  (685,.cells [(.string ⟨⟨[]⟩⟩),(.slice (some ⟨680,0,none⟩) 1 18446744073709551621)] 57 true),
  (847,.cells [(.int .i64 (.ofNat 24)),(.int .i64 (.ofNat 1)),(.int .i64 (.ofNat 0)),(.int .i64 (.ofNat 18)),(.int .i64 (.ofNat 4)),(.int .i64 (.ofNat 0)),(.int .i64 (.ofNat 1)),(.int .i64 (.ofNat 64)),(.int .i64 (.ofNat 0)),(.int .i64 (.ofNat 1)),(.int .i64 (.ofNat 1)),(.int .i64 (.ofNat 0)),(.int .i64 (.ofNat 16)),(.int .i64 (.ofNat 4)),(.int .i64 (.ofNat 0)),(.int .i64 (.ofNat 5)),(.int .i64 (.ofNat 3)),(.int .i64 (.ofNat 0)),(.int .i64 (.ofNat 23)),(.int .i64 (.ofNat 2)),(.int .i64 (.ofNat 0)),(.int .i64 (.ofNat 18)),(.int .i64 (.ofNat 2)),(.int .i64 (.ofNat 0)),(.int .i64 (.ofNat 26)),(.int .i64 (.ofNat 0)),(.int .i64 (.ofNat 0))] 51 false),
  (849,.cells [(.int .i64 (.ofNat 1)),(.int .i64 (.ofNat 1))] 114 false),
  (957,.cells [(.string ⟨⟨[]⟩⟩),(.slice none 0 0),(.slice (some ⟨847,0,none⟩) 9 18446744073709551619),(.slice (some ⟨849,0,none⟩) 1 18446744073709551618),(.int .i64 (.ofNat 1)),(.int .i64 (.ofNat 0))] 26 true),
  (1628,.cells [(.int .i64 (.ofNat 24)),(.int .i64 (.ofNat 1)),(.int .i64 (.ofNat 0)),(.int .i64 (.ofNat 18)),(.int .i64 (.ofNat 4)),(.int .i64 (.ofNat 0)),(.int .i64 (.ofNat 1)),(.int .i64 (.ofNat 65)),(.int .i64 (.ofNat 0)),(.int .i64 (.ofNat 5)),(.int .i64 (.ofNat 3)),(.int .i64 (.ofNat 0)),(.int .i64 (.ofNat 23)),(.int .i64 (.ofNat 2)),(.int .i64 (.ofNat 0)),(.int .i64 (.ofNat 18)),(.int .i64 (.ofNat 2)),(.int .i64 (.ofNat 0)),(.int .i64 (.ofNat 26)),(.int .i64 (.ofNat 0)),(.int .i64 (.ofNat 0))] 51 false),
  (1630,.cells [(.int .i64 (.ofNat 1)),(.int .i64 (.ofNat 1))] 114 false)]⟩⟩
theorem Dkg:k2.fits (Bx5 PP sp0 100000 1000 k2.f k2.args k2.before.ch)=true:=by kernel_rfl
def ks:List Bg8:=[k0,k1,k2]
theorem Dlv(k:Bg8)(hk:k∈ks)(base:Nat→Prop):Awk PP base (fun f' args=>if f'=k.f then k.sp args else CM.fail):=by
 simp only[ks,List.mem_cons,List.not_mem_nil,or_false]at hk
 rcases hk with rfl|rfl|rfl
 ·exact Bg8.okS Cn4 Cz1 Dke base
 ·exact Bg8.okS Cn4 Cz1 Dkf base
 ·exact Bg8.okS Cn4 Cz1 Dkg base
theorem Dec:isTrue (Bx5 PP (Csh ks sp0) 100000 1000 9 [] ⟨0,.e⟩)=true:=by kernel_rfl
theorem awake_ok:Go.AX.A1r Tryz.prog 9 Go.AX.B3q:=by
 obtain⟨H',h⟩:=C44 Dec
 exact Go.AX.Dhg fun W=>Dhn Cn4 (C79 Cz1 Dlv) h W
end
end Go.CE.Aw

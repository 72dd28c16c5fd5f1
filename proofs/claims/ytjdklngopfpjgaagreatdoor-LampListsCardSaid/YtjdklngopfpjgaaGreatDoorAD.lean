/- Part AD of the proof. -/
import Derived.Test.YtjdklngopfpjgaaGreatDoorX7
import Derived.Test.YtjdklngopfpjgaaGreatDoorSh
import Derived.WalkKit
import Derived.BigCall
import Derived.BigGuard
import Derived.Lib.ItoaLen
import Derived.Deep.RegionWith
import Derived.RegionTactic
namespace Go.AX
open Go.Proofs Go.Shelf Go.RowKit
theorem Cm0 {i:Nat} (h:i<10):Lib.decDigits i=[UInt8.ofNat (48+i)]:=Lib.decDigits_one h
set_option maxHeartbeats 4000000 in
set_option maxRecDepth 100000 in
theorem Ck2 (i:Nat) (hi:i<10) (w:World):Calls Tryz.prog 25 #[.int .i64 i] w fun e w'=>e = .returned (.string ⟨(Lib.decDigits i).toArray⟩)∧∃k,w'=w.drewN k:=by
 rw[Cm0 hi]
 rcases (by omega:i=0∨i=1∨i=2∨i=3∨i=4∨i=5∨i=6∨i=7∨i=8∨i=9) with rfl | rfl | rfl | rfl | rfl | rfl | rfl | rfl | rfl | rfl
 all_goals
  go_enter Tryz.func25,Tryz.ntmps25
  go_wp2
  go_ret
  exact⟨rfl,0,rfl⟩
theorem Cpb (a:List UInt8) (x:UInt8):(⟨a.toArray⟩:ByteArray)++⟨#[x]⟩=⟨(a++[x]).toArray⟩:=by
 apply ByteArray.ext
 simp[ByteArray.data_append]
theorem Cpc (a:List UInt8) (x:UInt8):(⟨#[x]⟩:ByteArray)++⟨a.toArray⟩=⟨(x::a).toArray⟩:=by
 apply ByteArray.ext
 simp[ByteArray.data_append]
theorem Csw (d:Nat) (hd:d<10):(⟨#[48,49,50,51,52,53,54,55,56,57]⟩:ByteArray).extract d (d+1)=⟨[UInt8.ofNat (48+d)].toArray⟩:=by
 rcases (by omega:d=0∨d=1∨d=2∨d=3∨d=4∨d=5∨d=6∨d=7∨d=8∨d=9) with rfl | rfl | rfl | rfl | rfl | rfl | rfl | rfl | rfl | rfl<;>rfl
set_option maxRecDepth 100000 in
theorem Ck3 (d:Nat) (hd:d<10) (W:World):(Instr.slice 9 (.string ⟨#[48,49,50,51,52,53,54,55,56,57]⟩) (some (.int .i64 (d:Int))) (some (.int .i64 ((d:Int)+1))) none).run Tryz.prog W = .ok (.string ⟨#[UInt8.ofNat (48+d)]⟩) W:=by
 rcases (by omega:d=0∨d=1∨d=2∨d=3∨d=4∨d=5∨d=6∨d=7∨d=8∨d=9) with rfl | rfl | rfl | rfl | rfl | rfl | rfl | rfl | rfl | rfl<;>kernel_rfl
set_option maxHeartbeats 4000000 in
set_option maxRecDepth 100000 in
theorem Cgw:∀(m i:Nat),i<m→i≤9223372036854775807→∀w:World,Calls Tryz.prog 25 #[.int .i64 i] w fun e w'=>e = .returned (.string ⟨(Lib.decDigits i).toArray⟩)∧∃k,w'=w.drewN k:=by
 intro m
 induction m with
 | zero=>intro i h;omega
 | succ m ih =>
  intro i h hr w
  by_cases hi:i<10
  ·exact Ck2 i hi w
  have e:Lib.decDigits i=Lib.decDigits (i/10)++[UInt8.ofNat (48+i%10)]:=by rw[Lib.decDigits,dif_neg hi]
  rw[e]
  have ih:∀w:World,Calls Tryz.prog 25 #[.int .i64 ((i:Int)/10)] w fun e w'=>e = .returned (.string ⟨(Lib.decDigits (i/10)).toArray⟩)∧∃k,w'=w.drewN k:=by
   have:=ih (i/10) (by omega) (by omega)
   rwa [show ((i/10:Nat):Int)=(i:Int)/10 by omega] at this
  have mixed:Tryz.prog.follows .mixedOrders=true:=by kernel_rfl
  have hdiv:IntKind.i64.wrap ((i:Int)/10)=(i:Int)/10:=by rw[IntKind.wrap_i64];omega
  have hmod:(i:Int).tmod 10=(i:Int)%10:=by rw[Int.tmod_eq_emod_of_nonneg (by omega)]
  have hmod1:IntKind.i64.wrap ((i:Int)%10+1)=(i:Int)%10+1:=by rw[IntKind.wrap_i64];omega
  have hlen:(Lib.decDigits (i/10)).length≤20:=by rw[Lib.decDigits_length];exact Lib.nDigits_le20 _ (by omega)
  have hsz:¬9223372036854775807<(⟨(Lib.decDigits (i/10)).toArray⟩:ByteArray).size+(⟨#[UInt8.ofNat (48+i%10)]⟩:ByteArray).size:=by simp[ByteArray.size];omega
  have hsl:∀W:World,(Instr.slice 9 (.string ⟨#[48,49,50,51,52,53,54,55,56,57]⟩) (some (.int .i64 ((i:Int)%10))) (some (.int .i64 ((i:Int)%10+1))) none).run Tryz.prog W = .ok (.string ⟨#[UInt8.ofNat (48+i%10)]⟩) W:=fun W=>by
   have:=Ck3 (i%10) (by omega) W
   rwa [show ((i%10:Nat):Int)=(i:Int)%10 by omega] at this
  go_enter Tryz.func25,Tryz.ntmps25
  go_wp2
  go_region_with (go_at_call 25;refine (ih _).mono ?_;rintro e w2 ⟨rfl,k,rfl⟩)
  all_goals (
   go_wp2
   go_ret
   refine⟨?_,1+k,rfl⟩
   show Ending.returned (Value.string ((⟨(Lib.decDigits (i/10)).toArray⟩:ByteArray)++⟨#[48+UInt8.ofNat (i%10)]⟩))=_
   rw[Cpb,UInt8.ofNat_add];rfl)
theorem Cm1:Lib.itoa (-9223372036854775808)=[45,57,50,50,51,51,55,50,48,51,54,56,53,52,55,55,53,56,48,56]:=by
 unfold Lib.itoa
 rw[if_pos (by decide),show (-9223372036854775808:Int).natAbs=9223372036854775808 from rfl]
 simp[Lib.decDigits]
set_option maxHeartbeats 4000000 in
set_option maxRecDepth 100000 in
theorem Cpd (n:Int) (h0:-9223372036854775808≤n) (h1:n≤9223372036854775807) (w:World):Calls Tryz.prog 25 #[.int .i64 n] w fun e w'=>e = .returned (.string ⟨(Lib.itoa n).toArray⟩)∧∃k,w'=w.drewN k:=by
 by_cases hn:0≤n
 ·obtain⟨i,rfl⟩:=Int.eq_ofNat_of_zero_le hn
  rw[Lib.itoa_nonneg]
  exact Cgw (i+1) i (by omega) (by omega) w
 by_cases hm:n = -9223372036854775808
 ·subst hm
  rw[Cm1]
  go_enter Tryz.func25,Tryz.ntmps25
  go_wp2
  go_ret
  exact⟨rfl,0,rfl⟩
 ·obtain⟨u,rfl⟩:∃u:Nat,n = -(u:Int):=⟨n.natAbs,by omega⟩
  have hc:=Cgw (u+1) u (by omega) (by omega)
  have hlen:(Lib.decDigits u).length≤20:=by rw[Lib.decDigits_length];exact Lib.nDigits_le20 _ (by omega)
  have hneg:IntKind.i64.wrap (- -(u:Int))=(u:Int):=by rw[IntKind.wrap_i64];omega
  rw[Lib.itoa_neg u (by omega)]
  go_enter Tryz.func25,Tryz.ntmps25
  go_wp2_with (go_at_call 25;refine (hc _).mono ?_;rintro e w2 ⟨rfl,k,rfl⟩)
  all_goals try (exfalso;simp[ByteArray.size] at *;omega)
  all_goals (
   go_ret
   refine⟨?_,k,rfl⟩
   show Ending.returned (Value.string ((⟨#[45]⟩:ByteArray)++⟨(Lib.decDigits u).toArray⟩))=_
   rw[Cpc])
theorem Cih:Ao3 Tryz.prog 25 A74:=Ccq fun n h0 h1 w _=>(Cpd n h0 h1 w).mono fun e w' ⟨h,k,hw⟩=>⟨h,k,#[],by rw[hw,Sort.grow_empty]⟩
end Go.AX

/- The law MillChecks returns true for every input. -/
import Derived.Test.YtjdklngopfpjgaaGreatDoorRows
import Derived.Test.YtjdklngopfpjgaaGreatDoorQ1
import Derived.Test.YtjdklngopfpjgaaGreatDoorJ
import Derived.WalkKit
import Derived.ProofKit
import Derived.OpenShut
import Derived.ShutString
import Derived.ChangeOld
import Derived.Below
import Derived.SizedLaws
import Derived.ChangeArms
import Derived.Carry
import Derived.Test.YtjdklngopfpjgaaGreatDoorCards
import Derived.Test.YtjdklngopfpjgaaGreatDoorTie
import Derived.LaidMore
import Derived.Lay
import Derived.SevenTiedAt
import Derived.Stop.Joined
import Derived.Lib.LaidTab
namespace Go.Proofs.YtjdklngopfpjgaaGreatDoor.millChecks
open Go.ChangeShapes Go.WideShapes Go.ChangeAt Go.RowKit Go.AX
set_option linter.unusedVariables false
theorem own:ownKnob Tryz.prog.godebug=none:=by kernel_rfl
theorem laidOut:laidOutB Tryz.prog=true:=by kernel_rfl
theorem pinned_of{W:World}(h:laidMetH Tryz.prog Rows.millChecksRow.laid W):Bkk fun b=>W.heap[b]?:=by
 rw[MakeChecks.laidMetH_plain _ _ _ (by kernel_rfl)]at h
 obtain⟨ps,⟨g0,t0,cs0,f0,p0,q0,hg0,ht0,hv0,hd0,⟨g1,t1,cs1,f1,p1,q1,hg1,ht1,hv1,hd1,⟨g2,t2,cs2,f2,p2,q2,hg2,ht2,hv2,hd2,_,_⟩,_⟩,_⟩,_,_⟩:=h
 obtain rfl:=Option.some.inj ((show Tryz.prog.globalNamed "internal/strconv.uint64pow10" = some 0 by kernel_rfl).symm.trans hg2)
 obtain rfl:=Option.some.inj ((show (Tryz.prog.globals[0]?).map (·.type)=some 215 by kernel_rfl).symm.trans ht2)
 have hcs:cs2.toList=Lib.pow10Tab.map fun z=>Value.int .u64 z:=Lib.cells_of_tab Tryz.underlying215 Tryz.underlying200 (by kernel_rfl) (by kernel_rfl) hd2
 intro b cs h
 unfold Chq at h
 split at h
 ·rename_i hb
  have hb:=Aa9 hb
  subst hb
  cases h
  unfold World.var? at hv2
  rw[hg2,Option.bind_some]at hv2
  split at hv2
  ·rename_i c T fr hc
   cases hv2
   refine⟨T,fr,?_⟩
   show W.heap[0]? = _
   rw[hc,←hcs]
  ·cases hv2
 ·cases h
set_option maxRecDepth 100000 in
theorem lifted(os:Os)(started:os.Started)(H:Type)(enc:TypeId×Value→H) :
  ReturnsInHanded {} Tryz.checked os 4 .any (fun w args=>(Rows.millChecksSpec.pre enc Tryz.prog Tryz.f4 Rows.millChecksRow.domain false w args∧laidMetH Tryz.prog Rows.millChecksRow.laid w)∧sizedMet enc Tryz.prog Tryz.f4 (OpenSpec.ofChange Rows.millChecksSpec) false w args) (Rows.millChecksSpec.post enc Tryz.prog Tryz.f4 false true false false):=by
 refine returnsInHanded_of_change_and (C:=Tryz.checked) (X:=fun w _=>laidMetH Tryz.prog Rows.millChecksRow.laid w) (fun _ _ _ hh h=>h.of_heap hh) own started (by kernel_rfl) Tryz.func4
  (ChangeSpec.witness_shaped (enc:=enc) (C:=Tryz.checked) (os:=os) (X:=fun w _=>laidMetH Tryz.prog Rows.millChecksRow.laid w) false (World.laidAll Tryz.prog os Rows.millChecksRow.laid) #[.agg #[.string ByteArray.empty,.slice none 0 0,.slice none 0 0,.slice none 0 0,.slice none 0 0]] 8 (World.laidAll_os _ _ _)
   (World.shaped_of_ZipB (by kernel_rfl) (by kernel_rfl)) (by kernel_rfl) (by kernel_rfl) (by kernel_rfl)
   (by rw[MakeChecks.laidMetH_plain _ _ _ (by kernel_rfl)];exact laidMet_laidAll _ (by kernel_rfl) (by kernel_rfl))) ?_
 intro W base args ds gs before hval0 hW hcnd hsz0 hL _
 have hw:Bkk fun b=>W.heap[b]?:=pinned_of hL
 have hsz:(DataW.weightsEach Tryz.prog (Tryz.f4.params.toList++Rows.millChecksSpec.plain.varTypes Tryz.prog) (ds++gs)).all (·≤reachBytes)=true:=hsz0
 have hval:∀(j:Nat) t v,Tryz.f4.params[j]? = some t→args[j]? = some v→Value.okWide Tryz.prog W .any base t v:=hval0
 have hW':=hW
 obtain⟨p,q,hA0,hV,rfl,hfz,hnd⟩:=hW
 have hA:DataW.TrodAll enc Tryz.prog W 0 (fun _=>true) true Tryz.f4.params.toList args.toList ds p:=hA0
 rw[Tryz.params4]at hA hval hsz
 obtain⟨v0,vs0,d0,ds0,p0,q0,hargs,rfl,rfl,h0,r0⟩:=trodAll_cons hA
 obtain⟨rfl,rfl,rfl⟩:=trodAll_nil r0
 obtain rfl:args = #[v0]:=by cases args;simp_all
 obtain⟨rfl,rfl⟩:=trodVars_none hV
 have lt0:∀x∈p0,x.block<W.heap.size:=by obtain⟨m,hm⟩:=h0;exact DataW.trod_lt m _ _ _ hm
 obtain⟨x0,e0,y0⟩:=Cmq (t:=.pair .str (.pair (.list (.pair .str (.pair .bool (.list (.int .i64))))) (.pair (.list (.pair (.int .i64) (.int .i64))) (.pair (.list (.pair (.int .i64) (.pair (.int .i64) (.int .i64)))) (.list (.pair (.int .i64) (.pair (.int .i64) (.pair (.int .i64) (.pair (.int .i64) (.int .i64)))))))))) hw Q.htt (k:=10) (by kernel_rfl) h0 (Cmp hsz (j:=0) (t:=27) rfl rfl) (by obtain⟨cs,hcs,_⟩:=okWide_struct Tryz.underlying27 (hval 0 27 v0 rfl rfl);exact⟨cs,hcs⟩)
 obtain⟨N,hN⟩:=Q.B3t x0 y0
 refine (Ckt (W:=W) (rargs:=#[v0]) (Q.Bq1 N).1 (args:=[Cbx true (.pair .str (.pair (.list (.pair .str (.pair .bool (.list (.int .i64))))) (.pair (.list (.pair (.int .i64) (.int .i64))) (.pair (.list (.pair (.int .i64) (.pair (.int .i64) (.int .i64)))) (.list (.pair (.int .i64) (.pair (.int .i64) (.pair (.int .i64) (.pair (.int .i64) (.int .i64)))))))))) x0]) hw (And.intro e0 (True.intro)) hN).mono fun e W' ⟨he,bel⟩=>?_
 subst he
 exact⟨_,rfl,_,_,_,[],_,[],hW',trodAll_mk1 (shut_bool Tryz.underlying4 _),(trodAll_cons_mk (Below.trod laidOut (by kernel_rfl) (of_decide_eq_true (by kernel_rfl)) h0 bel lt0) trodAll_mk0),rfl,bel.frame _,fun h=>by cases h⟩
theorem over:Rows.millChecksRow.holds Tryz.pinned (OpenSpec.ofChange Rows.millChecksSpec) :=
 OpenClaim.holds_of_wide 4 Tryz.f4 rfl rfl rfl rfl rfl rfl rfl ⟨rfl,rfl,rfl,rfl,rfl⟩ rfl rfl rfl rfl rfl (by kernel_rfl) Tryz.func4 Csu
  (of_decide_eq_true (by kernel_rfl)) (by unfold Func.isWrapper;first|(rw[if_pos (by decide +kernel)];kernel_rfl)|(rw[if_neg (by decide +kernel)];exact⟨rfl,rfl⟩))
  (fun os started H enc _=>lifted os started H enc)
theorem proved:Rows.MillChecksSaid:=over
theorem card:Rows.MillChecksCardSaid :=
 Claim7.holds_tied_plain_at .later [] [.data,.data,.data] true (true, "9f95376de50cfb7838067a8fa96826dd1a9513322f0c2f2a7ccdce93bad8aa58") false proved (fun _ h=>by cases h) (by kernel_rfl) (fun _ h=>by cases h) millChecks_row_tie rfl ⟨rfl,rfl⟩ (by kernel_rfl) rfl
  (fun f fn hf hfn=>by
   obtain rfl:f=4:=Option.some.inj ((show Tryz.prog.funcNamed Rows.millChecksRow.func=some 4 by kernel_rfl).symm.trans hf) |>.symm
   obtain rfl:fn=Tryz.f4:=(Option.some.inj (Tryz.func4.symm.trans hfn)).symm
   exact⟨by kernel_rfl,fun j t ht=>by
    rw[Tryz.params4]at ht
    have hm:t∈[27]:=by simpa using Array.mem_of_getElem? ht
    have hall:([27].all fun u => !Tryz.prog.wantsStandIn u)=true:=by kernel_rfl
    exact (show Tryz.prog.wantsStandIn t=false by simpa using List.all_eq_true.1 hall t hm)⟩)
  (by kernel_rfl)
#print axioms card
end Go.Proofs.YtjdklngopfpjgaaGreatDoor.millChecks
namespace Go.Proofs.YtjdklngopfpjgaaGreatDoor
theorem millChecks_holds:Rows.MillChecksCardSaid:=millChecks.card
end Go.Proofs.YtjdklngopfpjgaaGreatDoor

/- The law LampMore returns true for every input. -/
import Derived.Test.YtjdklngopfpjgaaGreatRows
import Derived.Test.YtjdklngopfpjgaaGreatQ1
import Derived.Test.YtjdklngopfpjgaaGreatJ
import Derived.WalkKit
import Derived.ProofKit
import Derived.OpenShut
import Derived.ShutString
import Derived.ChangeOld
import Derived.Below
import Derived.SizedLaws
import Derived.ChangeArms
import Derived.Carry
namespace Go.Proofs.YtjdklngopfpjgaaGreat.lampMore
open Go.ChangeShapes Go.WideShapes Go.ChangeAt Go.RowKit Go.AX
set_option linter.unusedVariables false
theorem own:ownKnob Tryz.prog.godebug=none:=by kernel_rfl
theorem laidOut:laidOutB Tryz.prog=true:=by kernel_rfl
set_option maxRecDepth 100000 in
theorem lifted(os:Os)(started:os.Started)(H:Type)(enc:TypeId×Value→H) :
  ReturnsInHanded {} Tryz.checked os 7 .any (Rows.lampMoreSpec.pre6 enc Tryz.prog Tryz.f7 Rows.lampMoreRow.domain false) (Rows.lampMoreSpec.post enc Tryz.prog Tryz.f7 false true false false):=by
 refine returnsInHanded_of_change_sized (C:=Tryz.checked) own started (by kernel_rfl) Tryz.func7
  (ChangeSpec.witness6 (enc:=enc) (C:=Tryz.checked) false ⟨#[],#[.agg #[.string ByteArray.empty,.slice none 0 0,.slice none 0 0,.slice none 0 0,.slice none 0 0,.int .i64 0,.bool false,.string ByteArray.empty,.int .i64 0],.int .i64 0],[]⟩ 8 (by kernel_rfl) (by kernel_rfl) (by kernel_rfl) (by kernel_rfl)) ?_
 intro W base args ds gs before hval0 hW hcnd hsz0 _
 have hw:Bvv fun b=>W.heap[b]?:=fun _ _ h=>by cases h
 have hsz:(DataW.weightsEach Tryz.prog (Tryz.f7.params.toList++Rows.lampMoreSpec.plain.varTypes Tryz.prog) (ds++gs)).all (·≤reachBytes)=true:=hsz0
 have hval:∀(j:Nat) t v,Tryz.f7.params[j]? = some t→args[j]? = some v→Value.okWide Tryz.prog W .any base t v:=hval0
 have hW':=hW
 obtain⟨p,q,hA0,hV,rfl,hfz,hnd⟩:=hW
 have hA:DataW.TrodAll enc Tryz.prog W 0 (fun _=>true) true Tryz.f7.params.toList args.toList ds p:=hA0
 rw[Tryz.params7]at hA hval hsz
 obtain⟨v0,vs0,d0,ds0,p0,q0,hargs,rfl,rfl,h0,r0⟩:=trodAll_cons hA
 obtain⟨v1,vs1,d1,ds1,p1,q1,rfl,rfl,rfl,h1,r1⟩:=trodAll_cons r0
 obtain⟨rfl,rfl,rfl⟩:=trodAll_nil r1
 obtain rfl:args = #[v0,v1]:=by cases args;simp_all
 obtain⟨rfl,rfl⟩:=trodVars_none hV
 have lt0:∀x∈p0,x.block<W.heap.size:=by obtain⟨m,hm⟩:=h0;exact DataW.trod_lt m _ _ _ hm
 obtain⟨x0,e0,y0⟩:=C67 (t:=.pair (.pair .str (.pair (.list (.pair .str (.pair .bool (.list (.int .i64))))) (.pair (.list (.pair (.int .i64) (.int .i64))) (.pair (.list (.pair (.int .i64) (.pair (.int .i64) (.int .i64)))) (.list (.pair (.int .i64) (.pair (.int .i64) (.pair (.int .i64) (.pair (.int .i64) (.int .i64)))))))))) (.pair (.pair (.int .i64) .bool) (.pair .str (.int .i64)))) hw Q.htt (k:=10) (by kernel_rfl) h0 (Ct2 hsz (j:=0) (t:=39) rfl rfl) (by obtain⟨cs,hcs,_⟩:=okWide_struct Tryz.underlying39 (hval 0 39 v0 rfl rfl);exact⟨cs,hcs⟩)
 have lt1:∀x∈p1,x.block<W.heap.size:=by obtain⟨m,hm⟩:=h1;exact DataW.trod_lt m _ _ _ hm
 obtain⟨x1,e1,y1⟩:=C66 (t:=.int .i64) hw Q.htt (k:=10) (by kernel_rfl) h1 (Ct2 hsz (j:=1) (t:=3) rfl rfl) (by obtain⟨a,rfl⟩:=okWide_int Tryz.underlying3 (hval 1 3 v1 rfl rfl);rfl)
 obtain⟨N,hN⟩:=Q.Csc x0 y0 x1 y1
 refine (C4f (W:=W) (rargs:=#[v0,v1]) (Q.Cd4 N).1 (args:=[Bua true (.pair (.pair .str (.pair (.list (.pair .str (.pair .bool (.list (.int .i64))))) (.pair (.list (.pair (.int .i64) (.int .i64))) (.pair (.list (.pair (.int .i64) (.pair (.int .i64) (.int .i64)))) (.list (.pair (.int .i64) (.pair (.int .i64) (.pair (.int .i64) (.pair (.int .i64) (.int .i64)))))))))) (.pair (.pair (.int .i64) .bool) (.pair .str (.int .i64)))) x0,Bua false (.int .i64) x1]) hw (And.intro e0 (And.intro e1 (True.intro))) hN).mono fun e W' ⟨he,bel⟩=>?_
 subst he
 exact⟨_,rfl,_,_,_,[],_,[],hW',trodAll_mk1 (shut_bool Tryz.underlying4 _),(trodAll_cons_mk (Below.trod laidOut (by kernel_rfl) (of_decide_eq_true (by kernel_rfl)) h0 bel lt0) (trodAll_cons_mk (Below.trod laidOut (by kernel_rfl) (of_decide_eq_true (by kernel_rfl)) h1 bel lt1) trodAll_mk0)),rfl,bel.frame _,fun h=>by cases h⟩
theorem over:Rows.lampMoreRow.holds Tryz.pinned (OpenSpec.ofChange Rows.lampMoreSpec) :=
 OpenClaim.holds_of_wide 7 Tryz.f7 rfl rfl rfl rfl rfl rfl rfl ⟨rfl,rfl,rfl,rfl,rfl⟩ rfl rfl rfl rfl rfl (by kernel_rfl) Tryz.func7 Ddv
  (of_decide_eq_true (by kernel_rfl)) (by unfold Func.isWrapper;first|(rw[if_pos (by decide +kernel)];kernel_rfl)|(rw[if_neg (by decide +kernel)];exact⟨rfl,rfl⟩))
  (fun os started H enc _=>lifted os started H enc)
theorem proved:Rows.LampMoreSaid:=over
#print axioms proved
end Go.Proofs.YtjdklngopfpjgaaGreat.lampMore
namespace Go.Proofs.YtjdklngopfpjgaaGreat
theorem lampMore_holds:Rows.LampMoreSaid:=lampMore.proved
end Go.Proofs.YtjdklngopfpjgaaGreat

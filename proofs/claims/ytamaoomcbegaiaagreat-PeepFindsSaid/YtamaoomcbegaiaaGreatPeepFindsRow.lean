/- The law PeepFinds returns true for every input. -/
import Derived.Test.YtamaoomcbegaiaaGreatRows
import Derived.Test.YtamaoomcbegaiaaGreatQ2
import Derived.Test.YtamaoomcbegaiaaGreatJ
import Derived.WalkKit
import Derived.ProofKit
import Derived.OpenShut
import Derived.ShutString
import Derived.ChangeOld
import Derived.Below
import Derived.SizedLaws
import Derived.ChangeArms
import Derived.Carry
namespace Go.Proofs.YtamaoomcbegaiaaGreat.peepFinds
open Go.ChangeShapes Go.WideShapes Go.ChangeAt Go.RowKit Go.AX
set_option linter.unusedVariables false
theorem own:ownKnob Tryz.prog.godebug=none:=by kernel_rfl
theorem laidOut:laidOutB Tryz.prog=true:=by kernel_rfl
set_option maxRecDepth 100000 in
theorem lifted(os:Os)(started:os.Started)(H:Type)(enc:TypeId×Value→H) :
  ReturnsInHanded {} Tryz.checked os 3 .any (Rows.peepFindsSpec.pre6 enc Tryz.prog Tryz.f3 Rows.peepFindsRow.domain false) (Rows.peepFindsSpec.post enc Tryz.prog Tryz.f3 false true false false):=by
 refine returnsInHanded_of_change_sized (C:=Tryz.checked) own started (by kernel_rfl) Tryz.func3
  (ChangeSpec.witness6 (enc:=enc) (C:=Tryz.checked) false ⟨#[],#[.agg #[.string ByteArray.empty,.slice none 0 0,.slice none 0 0,.slice none 0 0,.int .i64 0,.int .i64 0]],[]⟩ 8 (by kernel_rfl) (by kernel_rfl) (by kernel_rfl) (by kernel_rfl)) ?_
 intro W base args ds gs before hval0 hW hcnd hsz0 _
 have hw:B3d fun b=>W.heap[b]?:=fun _ _ h=>by cases h
 have hsz:(DataW.weightsEach Tryz.prog (Tryz.f3.params.toList++Rows.peepFindsSpec.plain.varTypes Tryz.prog) (ds++gs)).all (·≤reachBytes)=true:=hsz0
 have hval:∀(j:Nat) t v,Tryz.f3.params[j]? = some t→args[j]? = some v→Value.okWide Tryz.prog W .any base t v:=hval0
 have hW':=hW
 obtain⟨p,q,hA0,hV,rfl,hfz,hnd⟩:=hW
 have hA:DataW.TrodAll enc Tryz.prog W 0 (fun _=>true) true Tryz.f3.params.toList args.toList ds p:=hA0
 rw[Tryz.params3]at hA hval hsz
 obtain⟨v0,vs0,d0,ds0,p0,q0,hargs,rfl,rfl,h0,r0⟩:=trodAll_cons hA
 obtain⟨rfl,rfl,rfl⟩:=trodAll_nil r0
 obtain rfl:args = #[v0]:=by cases args;simp_all
 obtain⟨rfl,rfl⟩:=trodVars_none hV
 have lt0:∀x∈p0,x.block<W.heap.size:=by obtain⟨m,hm⟩:=h0;exact DataW.trod_lt m _ _ _ hm
 obtain⟨x0,e0,y0⟩:=Ddl (t:=.pair .str (.pair (.list (.pair .str (.pair .bool (.list (.int .i64))))) (.pair (.list (.pair (.int .i64) (.pair (.int .i64) (.int .i64)))) (.pair (.list (.pair (.int .i64) (.int .i64))) (.pair (.int .i64) (.int .i64)))))) hw Q.htt (k:=10) (by kernel_rfl) h0 (Ddk hsz (j:=0) (t:=26) rfl rfl) (by obtain⟨cs,hcs,_⟩:=okWide_struct Tryz.underlying26 (hval 0 26 v0 rfl rfl);exact⟨cs,hcs⟩)
 obtain⟨N,hN⟩:=Q.Cuv x0 y0
 refine (Das (W:=W) (rargs:=#[v0]) (Q.Cdk N).1 (args:=[Czt true (.pair .str (.pair (.list (.pair .str (.pair .bool (.list (.int .i64))))) (.pair (.list (.pair (.int .i64) (.pair (.int .i64) (.int .i64)))) (.pair (.list (.pair (.int .i64) (.int .i64))) (.pair (.int .i64) (.int .i64)))))) x0]) hw (And.intro e0 (True.intro)) hN).mono fun e W' ⟨he,bel⟩=>?_
 subst he
 exact⟨_,rfl,_,_,_,[],_,[],hW',trodAll_mk1 (shut_bool Tryz.underlying4 _),(trodAll_cons_mk (Below.trod laidOut (by kernel_rfl) (of_decide_eq_true (by kernel_rfl)) h0 bel lt0) trodAll_mk0),rfl,bel.frame _,fun h=>by cases h⟩
theorem over:Rows.peepFindsRow.holds Tryz.pinned (OpenSpec.ofChange Rows.peepFindsSpec) :=
 OpenClaim.holds_of_wide 3 Tryz.f3 rfl rfl rfl rfl rfl rfl rfl ⟨rfl,rfl,rfl,rfl,rfl⟩ rfl rfl rfl rfl rfl (by kernel_rfl) Tryz.func3 Dll
  (of_decide_eq_true (by kernel_rfl)) (by unfold Func.isWrapper;first|(rw[if_pos (by decide +kernel)];kernel_rfl)|(rw[if_neg (by decide +kernel)];exact⟨rfl,rfl⟩))
  (fun os started H enc _=>lifted os started H enc)
theorem proved:Rows.PeepFindsSaid:=over
#print axioms proved
end Go.Proofs.YtamaoomcbegaiaaGreat.peepFinds
namespace Go.Proofs.YtamaoomcbegaiaaGreat
theorem peepFinds_holds:Rows.PeepFindsSaid:=peepFinds.proved
end Go.Proofs.YtamaoomcbegaiaaGreat

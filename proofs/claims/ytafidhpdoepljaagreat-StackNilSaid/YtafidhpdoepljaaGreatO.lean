import Derived.Test.YtafidhpdoepljaaGreatE1
import Derived.Test.YtafidhpdoepljaaGreatSh
import Derived.WalkKit
import Derived.Laws.Externs
import Derived.Test.YtafidhpdoepljaaGreatAW
open Go Go.AX Go.Proofs
namespace Q
noncomputable section
set_option maxRecDepth 100000
set_option linter.unusedVariables false
theorem htt : TTok Go.Proofs.Tryz.prog tt := ttOf_ok (l := types) (by kernel_rfl)
theorem mixed : Go.Proofs.Tryz.prog.follows .mixedOrders = true := by kernel_rfl
theorem c_stack_Machine_Peek (N : Nat) : AllIn Go.Proofs.Tryz.prog (G_stack_Machine_Peek N) := trivial
theorem ok_stack_Machine_Peek (N : Nat) : SpecIn Go.Proofs.Tryz.prog 4 (s_stack_Machine_Peek N) :=
  ⟨fun_okM (fn := Go.Proofs.Tryz.f4) (c := b_stack_Machine_Peek) (dom := (domOf [])) (rs := [.tmp 4, .tmp 5]) mixed htt (callRule (ctx_of (c_stack_Machine_Peek N))) (lam_dom rfl) Go.Proofs.Tryz.func4 rfl rfl (by kernel_rfl) (cuts_of (l := []) (by kernel_rfl) trivial) (by decide) (by decide) (by decide) (fun R x C => e_stack_Machine_Peek N R x C), Go.Proofs.Tryz.f4, Go.Proofs.Tryz.func4, rfl, by decide⟩
theorem c_stack_Machine_Until (N : Nat) : AllIn Go.Proofs.Tryz.prog (G_stack_Machine_Until N) := trivial
theorem ok_stack_Machine_Until (N : Nat) : SpecIn Go.Proofs.Tryz.prog 5 (s_stack_Machine_Until N) :=
  ⟨fun_okM (fn := Go.Proofs.Tryz.f5) (c := b_stack_Machine_Until) (dom := (domOf [])) (rs := [.tmp 6, .tmp 7]) mixed htt (callRule (ctx_of (c_stack_Machine_Until N))) (lam_dom rfl) Go.Proofs.Tryz.func5 rfl rfl (by kernel_rfl) (cuts_of (l := []) (by kernel_rfl) trivial) (by decide) (by decide) (by decide) (fun R x C => e_stack_Machine_Until N R x C), Go.Proofs.Tryz.f5, Go.Proofs.Tryz.func5, rfl, by decide⟩
theorem c_stack_Machine_Step (N : Nat) : AllIn Go.Proofs.Tryz.prog (G_stack_Machine_Step N) := trivial
theorem ok_stack_Machine_Step (N : Nat) : SpecIn Go.Proofs.Tryz.prog 7 (s_stack_Machine_Step N) :=
  ⟨fun_okM (fn := Go.Proofs.Tryz.f7) (c := b_stack_Machine_Step) (dom := (domOf [])) (rs := [.cell 4 30]) mixed htt (callRule (ctx_of (c_stack_Machine_Step N))) (lam_dom rfl) Go.Proofs.Tryz.func7 rfl rfl (by kernel_rfl) (cuts_of (l := []) (by kernel_rfl) trivial) (by decide) (by decide) (by decide) (fun R x C => e_stack_Machine_Step N R x C), Go.Proofs.Tryz.f7, Go.Proofs.Tryz.func7, rfl, by decide⟩
theorem c_ref00_EqResult (N : Nat) : AllIn Go.Proofs.Tryz.prog (G_ref00_EqResult N) := trivial
theorem ok_ref00_EqResult (N : Nat) : SpecIn Go.Proofs.Tryz.prog 6 (s_ref00_EqResult N) :=
  ⟨fun_okM (fn := Go.Proofs.Tryz.f6) (c := b_ref00_EqResult) (dom := (domOf [])) (rs := [.tmp 4]) mixed htt (callRule (ctx_of (c_ref00_EqResult N))) (lam_dom rfl) Go.Proofs.Tryz.func6 rfl rfl (by kernel_rfl) (cuts_of (l := []) (by kernel_rfl) trivial) (by decide) (by decide) (by decide) (fun R x C => e_ref00_EqResult N R x C), Go.Proofs.Tryz.f6, Go.Proofs.Tryz.func6, rfl, by decide⟩
theorem c_stack_Machine_State (N : Nat) : AllIn Go.Proofs.Tryz.prog (G_stack_Machine_State N) := trivial
theorem ok_stack_Machine_State (N : Nat) : SpecIn Go.Proofs.Tryz.prog 8 (s_stack_Machine_State N) :=
  ⟨fun_okM (fn := Go.Proofs.Tryz.f8) (c := b_stack_Machine_State) (dom := (domOf [])) (rs := [.cell 2 33]) mixed htt (callRule (ctx_of (c_stack_Machine_State N))) (lam_dom rfl) Go.Proofs.Tryz.func8 rfl rfl (by kernel_rfl) (cuts_of (l := []) (by kernel_rfl) trivial) (by decide) (by decide) (by decide) (fun R x C => e_stack_Machine_State N R x C), Go.Proofs.Tryz.f8, Go.Proofs.Tryz.func8, rfl, by decide⟩
theorem c_stack_Machine_Walk (N : Nat) : AllIn Go.Proofs.Tryz.prog (G_stack_Machine_Walk N) := trivial
theorem ok_stack_Machine_Walk (N : Nat) : SpecIn Go.Proofs.Tryz.prog 9 (s_stack_Machine_Walk N) :=
  ⟨fun_okM (fn := Go.Proofs.Tryz.f9) (c := b_stack_Machine_Walk) (dom := (domOf [])) (rs := [.tmp 2]) mixed htt (callRule (ctx_of (c_stack_Machine_Walk N))) (lam_dom rfl) Go.Proofs.Tryz.func9 rfl rfl (by kernel_rfl) (cuts_of (l := []) (by kernel_rfl) trivial) (by decide) (by decide) (by decide) (fun R x C => e_stack_Machine_Walk N R x C), Go.Proofs.Tryz.f9, Go.Proofs.Tryz.func9, rfl, by decide⟩
theorem ok_law08_awake (N : Nat) : SpecIn Go.Proofs.Tryz.prog 10 (s_law08_awake N) :=
  ⟨Go.CE.Aw.awake_ok, Go.Proofs.Tryz.f10, Go.Proofs.Tryz.func10, rfl, by decide⟩
theorem c_law08_StackNil (N : Nat) : AllIn Go.Proofs.Tryz.prog (G_law08_StackNil N) := ⟨ok_stack_Machine_Peek N, ok_stack_Machine_Until N, ok_stack_Machine_Step N, ok_ref00_EqResult N, ok_stack_Machine_State N, ok_stack_Machine_Walk N, ok_law08_awake N, trivial⟩
theorem ok_law08_StackNil (N : Nat) : SpecIn Go.Proofs.Tryz.prog 3 (s_law08_StackNil N) :=
  ⟨fun_okM (fn := Go.Proofs.Tryz.f3) (c := b_law08_StackNil) (dom := (domOf [])) (rs := [.tmp 4]) mixed htt (callRule (ctx_of (c_law08_StackNil N))) (lam_dom rfl) Go.Proofs.Tryz.func3 rfl rfl (by kernel_rfl) (cuts_of (l := []) (by kernel_rfl) trivial) (by decide) (by decide) (by decide) (fun R x C => E_law08_StackNil @stack_Machine_Peek @stack_Machine_Until @stack_Machine_Step @ref00_EqResult @stack_Machine_State @stack_Machine_Walk N R x C), Go.Proofs.Tryz.f3, Go.Proofs.Tryz.func3, rfl, by decide⟩
end
end Q

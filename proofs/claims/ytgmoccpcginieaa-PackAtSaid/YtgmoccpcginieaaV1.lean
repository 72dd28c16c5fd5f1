import Derived.Test.YtgmoccpcginieaaX6
import Derived.Test.YtgmoccpcginieaaProg
import Derived.KernelRfl
open Go Go.AX Go.Proofs
namespace Q
noncomputable section
set_option maxRecDepth 100000
set_option linter.unusedVariables false
noncomputable def types : List Nat := [4, 22, 5, 26, 3, 24, 25, 0, 57, 59, 41]
noncomputable def tt : TT := [(4, (.mk .bool 1 1 (.some [(.a (.val .bool (false : Bool)))]) false)), (22, (.mk (.slice 5) 1 24 (.some [(.a .nilsl)]) false)), (5, (.mk (.int .u8) 1 1 (.some [(.a (.val (.int .u8) ((0 : Int) : Int)))]) false)), (26, (.mk .other 1 0 (.some [(.a .undef)]) false)), (3, (.mk (.int .i64) 1 8 (.some [(.a (.val (.int .i64) ((0 : Int) : Int)))]) false)), (24, (.mk (.struct [(0, (1, 3)), (1, (1, 3)), (2, (1, 3))]) 3 24 (.some [(.a (.val (.int .i64) ((0 : Int) : Int))), (.a (.val (.int .i64) ((0 : Int) : Int))), (.a (.val (.int .i64) ((0 : Int) : Int)))]) true)), (25, (.mk (.int .i64) 1 8 (.some [(.a (.val (.int .i64) ((0 : Int) : Int)))]) false)), (0, (.mk .other 1 0 (.some [(.a .undef)]) false)), (57, (.mk (.ptr 59) 1 8 (.some [(.a .nilptr)]) false)), (59, (.mk (.struct [(0, (1, 22)), (1, (1, 3)), (2, (1, 4))]) 3 40 (.some [(.a .nilsl), (.a (.val (.int .i64) ((0 : Int) : Int))), (.a (.val .bool (false : Bool)))]) true)), (41, (.mk (.slice 3) 1 24 (.some [(.a .nilsl)]) false))]
noncomputable def b_law10_PackAt : Code := Go.Proofs.Try.f3.body.getD .skip
noncomputable def b_pack_At : Code := Go.Proofs.Try.f12.body.getD .skip
noncomputable def b_pack_reader_signed : Code := Go.Proofs.Try.f35.body.getD .skip
noncomputable def b_pack_reader_num : Code := Go.Proofs.Try.f36.body.getD .skip
noncomputable def p_pack_reader_num_13 : SPat := ⟨[(0, .one (.ptr 0)), (5, .one (.val (.int .i64))), (27, .one (.val (.int .i64))), (28, .one (.val (.int .i64)))], [(0, .cells 59 [(.val (.list (.int .u8))), (.val (.int .i64)), (.val .bool)])]⟩
noncomputable def o_pack_reader_num_13_0 : SPat := ⟨[(5, .one (.val (.int .i64)))], [(0, .cells 59 [(.val (.list (.int .u8))), (.val (.int .i64)), (.val .bool)])]⟩
noncomputable def o_pack_reader_num_13 : Outs := .cons (.exit 0) o_pack_reader_num_13_0 (.nil)
noncomputable def pack_reader_num_13 {R : Type} (N : Nat) : Nat → ((Int) → (Int) → (Int) → (List (Int)) → (Int) → (Bool) → ((Int) → (List (Int)) → (Int) → (Bool) → Option R) → Option R)
  | 0, _, _, _, _, _, _, _ => none
  | k + 1, x22, x23, x24, x25, x26, x27, K0 =>
    if ((decide ((x24 < x23))) = true) then (if (((0 : Int) ≤ x26) ∧ (x26 < (((List.length x25) : Nat) : Int))) then (Q.pack_reader_num_13 N k ((Go.AX.orI Go.IntKind.i64 (Go.AX.shlI Go.IntKind.i64 x22 (8 : Int)) (Go.IntKind.wrap Go.IntKind.i64 (List.getD x25 (Int.toNat x26) (0 : Int))))) (x23) ((Go.IntKind.wrap Go.IntKind.i64 (x24 + (1 : Int)))) (x25) ((Go.IntKind.wrap Go.IntKind.i64 (x26 + (1 : Int)))) (x27) K0) else (none)) else (K0 (x22) (x25) (x26) (x27))
noncomputable def g_pack_reader_num_13 (N : Nat) (k : Nat) : Typed p_pack_reader_num_13 := fun R x K => Q.pack_reader_num_13 N k x.1.2.1 x.1.2.2.1 x.1.2.2.2.1 x.2.1.1 x.2.1.2.1 x.2.1.2.2.1 (fun y0 y1 y2 y3 => K (.exit 0) (Go.AX.encS Q.o_pack_reader_num_13_0 ((y0, ()), ((y1, y2, y3, ()), ()))))
/-! ### pack_reader_num -/
noncomputable def p_pack_reader_num : SPat := ⟨[(0, .one (.ptr 0)), (1, .one (.val (.int .i64)))], [(0, .cells 59 [(.val (.list (.int .u8))), (.val (.int .i64)), (.val .bool)])]⟩
noncomputable def q_pack_reader_num_0 : SPat := ⟨[(0, .one (.val (.int .i64)))], [(0, .cells 59 [(.val (.list (.int .u8))), (.val (.int .i64)), (.val .bool)])]⟩
noncomputable def pack_reader_num {R : Type} (N : Nat) (x16 : Int) (x17 : List (Int)) (x18 : Int) (x19 : Bool) (K0 : ((Int) → (List (Int)) → (Int) → (Bool) → Option R)) : Option R :=
    if (x19 = true) then (K0 ((0 : Int)) (x17) (x18) (true)) else (if ((decide (((Go.IntKind.wrap Go.IntKind.i64 (x18 + x16)) > (((List.length x17) : Nat) : Int)))) = true) then (K0 ((0 : Int)) (x17) (x18) (true)) else (Q.pack_reader_num_13 N N ((0 : Int)) (x16) ((0 : Int)) (x17) (x18) (x19) (fun y34 y35 y36 y37 => K0 (y34) (y35) (y36) (y37))))
noncomputable def g_pack_reader_num (N : Nat) : TypedM p_pack_reader_num [Q.q_pack_reader_num_0] := fun R x C => Q.pack_reader_num N x.1.2.1 x.2.1.1 x.2.1.2.1 x.2.1.2.2.1 (fun y0 y1 y2 y3 => C.1 ((y0, ()), ((y1, y2, y3, ()), ())))
noncomputable def s_pack_reader_num (N : Nat) : AX.Spec := Go.AX.specM [false, true] (List.replicate 32 true) true 2 1 Q.p_pack_reader_num [Q.q_pack_reader_num_0] (Q.g_pack_reader_num N)
noncomputable def L_pack_reader_num (N : Nat) : List (Nat × Frag) := [(13, fragOf p_pack_reader_num_13 (g_pack_reader_num_13 N N))]
noncomputable def G_pack_reader_num (N : Nat) : List (Nat × AX.Spec) := []
/-! ### pack_reader_signed -/
noncomputable def p_pack_reader_signed : SPat := ⟨[(0, .one (.ptr 0)), (1, .one (.val (.int .i64)))], [(0, .cells 59 [(.val (.list (.int .u8))), (.val (.int .i64)), (.val .bool)])]⟩
noncomputable def q_pack_reader_signed_0 : SPat := ⟨[(0, .one (.val (.int .i64)))], [(0, .cells 59 [(.val (.list (.int .u8))), (.val (.int .i64)), (.val .bool)])]⟩
noncomputable def pack_reader_signed {R : Type} (N : Nat) (x12 : Int) (x13 : List (Int)) (x14 : Int) (x15 : Bool) (K0 : ((Int) → (List (Int)) → (Int) → (Bool) → Option R)) : Option R :=
    Q.pack_reader_num N (x12) (x13) (x14) (x15) (fun y38 y39 y40 y41 => if ((decide ((x12 > (0 : Int)))) = true) then (let v42 := (Go.IntKind.wrap Go.IntKind.i64 ((8 : Int) * x12)); let v43 := (Go.IntKind.wrap Go.IntKind.i64 (v42 - (1 : Int))); if (v43 < (0 : Int)) then (none) else (if ((decide ((y38 ≥ (Go.AX.shlI Go.IntKind.i64 (1 : Int) v43)))) = true) then (if (v42 < (0 : Int)) then (none) else (K0 ((Go.IntKind.wrap Go.IntKind.i64 (y38 - (Go.AX.shlI Go.IntKind.i64 (1 : Int) v42)))) (y39) (y40) (y41))) else (K0 (y38) (y39) (y40) (y41)))) else (K0 (y38) (y39) (y40) (y41)))
noncomputable def g_pack_reader_signed (N : Nat) : TypedM p_pack_reader_signed [Q.q_pack_reader_signed_0] := fun R x C => Q.pack_reader_signed N x.1.2.1 x.2.1.1 x.2.1.2.1 x.2.1.2.2.1 (fun y0 y1 y2 y3 => C.1 ((y0, ()), ((y1, y2, y3, ()), ())))
noncomputable def s_pack_reader_signed (N : Nat) : AX.Spec := Go.AX.specM [false, true] (List.replicate 32 true) true 2 1 Q.p_pack_reader_signed [Q.q_pack_reader_signed_0] (Q.g_pack_reader_signed N)
noncomputable def L_pack_reader_signed (N : Nat) : List (Nat × Frag) := []
noncomputable def G_pack_reader_signed (N : Nat) : List (Nat × AX.Spec) := [(36, s_pack_reader_num N)]
noncomputable def b_pack_class : Code := Go.Proofs.Try.f38.body.getD .skip
/-! ### pack_class -/
noncomputable def p_pack_class : SPat := ⟨[(0, .one (.val (.int .i64)))], []⟩
noncomputable def q_pack_class_0 : SPat := ⟨[(0, .one (.val (.int .i64)))], []⟩
noncomputable def pack_class {R : Type} (N : Nat) (x66 : Int) (K0 : ((Int) → Option R)) : Option R :=
    if ((x66 == (0 : Int)) = true) then (K0 ((0 : Int))) else (if ((decide ((x66 ≥ (-128 : Int)))) = true) then (if ((decide ((x66 ≤ (127 : Int)))) = true) then (K0 ((1 : Int))) else (if ((decide ((x66 ≥ (-32768 : Int)))) = true) then (if ((decide ((x66 ≤ (32767 : Int)))) = true) then (K0 ((2 : Int))) else (K0 ((3 : Int)))) else (K0 ((3 : Int))))) else (if ((decide ((x66 ≥ (-32768 : Int)))) = true) then (if ((decide ((x66 ≤ (32767 : Int)))) = true) then (K0 ((2 : Int))) else (K0 ((3 : Int)))) else (K0 ((3 : Int)))))
noncomputable def g_pack_class (N : Nat) : TypedM p_pack_class [Q.q_pack_class_0] := fun R x C => Q.pack_class N x.1.1 (fun y0 => C.1 ((y0, ()), (())))
noncomputable def s_pack_class (N : Nat) : AX.Spec := Go.AX.specM [true] [] false 1 0 Q.p_pack_class [Q.q_pack_class_0] (Q.g_pack_class N)
noncomputable def L_pack_class (N : Nat) : List (Nat × Frag) := []
noncomputable def G_pack_class (N : Nat) : List (Nat × AX.Spec) := []
noncomputable def p_pack_At_24 : SPat := ⟨[(1, .one (.val (.int .i64))), (4, .one (.ptr 32)), (7, .one (.ptr 33)), (8, .one (.val (.int .i64))), (9, .one (.ptr 34))], [(32, .cells 24 [(.val (.int .i64)), (.val (.int .i64)), (.val (.int .i64))]), (33, .cells 24 [(.val (.int .i64)), (.val (.int .i64)), (.val (.int .i64))]), (34, .cells 59 [(.val (.list (.int .u8))), (.val (.int .i64)), (.val .bool)])]⟩
noncomputable def o_pack_At_24_0 : SPat := ⟨[(4, .one (.ptr 32)), (5, .one (.val (.int .i64))), (6, .one (.val (.int .i64)))], [(32, .cells 24 [(.val (.int .i64)), (.val (.int .i64)), (.val (.int .i64))])]⟩
noncomputable def o_pack_At_24 : Outs := .cons .ret o_pack_At_24_0 (.nil)
noncomputable def pack_At_24 {R : Type} (N : Nat) (x55 : Int) (x56 : Int) (x57 : Int) (x58 : Int) (x59 : Int) (x60 : Int) (x61 : Int) (x62 : Int) (x63 : List (Int)) (x64 : Int) (x65 : Bool) (K0 : ((Int) → (Int) → (Int) → (Int) → (Int) → Option R)) : Option R :=
    if (x65 = true) then (K0 ((0 : Int)) ((7 : Int)) ((0 : Int)) ((0 : Int)) ((0 : Int))) else (Q.pack_class N (x61) (fun y67 => if ((y67 != x56) = true) then (K0 ((0 : Int)) ((3 : Int)) ((0 : Int)) ((0 : Int)) ((0 : Int))) else (K0 ((Go.IntKind.wrap Go.IntKind.i64 (x64 - x55))) ((0 : Int)) (x60) (x61) (x62))))
noncomputable def g_pack_At_24 (N : Nat) : Typed p_pack_At_24 := fun R x K => Q.pack_At_24 N x.1.1 x.1.2.2.2.1 x.2.1.1 x.2.1.2.1 x.2.1.2.2.1 x.2.2.1.1 x.2.2.1.2.1 x.2.2.1.2.2.1 x.2.2.2.1.1 x.2.2.2.1.2.1 x.2.2.2.1.2.2.1 (fun y0 y1 y2 y3 y4 => K .ret (Go.AX.encS Q.o_pack_At_24_0 (((), y0, y1, ()), ((y2, y3, y4, ()), ()))))
noncomputable def b_pack_extra : Code := Go.Proofs.Try.f37.body.getD .skip
/-! ### pack_extra -/
noncomputable def p_pack_extra : SPat := ⟨[(0, .one (.val (.int .i64)))], []⟩
noncomputable def q_pack_extra_0 : SPat := ⟨[(0, .one (.val (.int .i64)))], []⟩
noncomputable def pack_extra {R : Type} (N : Nat) (x74 : Int) (K0 : ((Int) → Option R)) : Option R :=
    if ((x74 == (24 : Int)) = true) then (K0 ((1 : Int))) else (if ((x74 == (29 : Int)) = true) then (K0 ((2 : Int))) else (if ((x74 == (30 : Int)) = true) then (K0 ((4 : Int))) else (K0 ((0 : Int)))))
noncomputable def g_pack_extra (N : Nat) : TypedM p_pack_extra [Q.q_pack_extra_0] := fun R x C => Q.pack_extra N x.1.1 (fun y0 => C.1 ((y0, ()), (())))
noncomputable def s_pack_extra (N : Nat) : AX.Spec := Go.AX.specM [true] [] false 1 0 Q.p_pack_extra [Q.q_pack_extra_0] (Q.g_pack_extra N)
noncomputable def L_pack_extra (N : Nat) : List (Nat × Frag) := []
noncomputable def G_pack_extra (N : Nat) : List (Nat × AX.Spec) := []
/-! ### pack_At -/
noncomputable def p_pack_At : SPat := ⟨[(0, .one (.val (.list (.int .u8)))), (1, .one (.val (.int .i64)))], []⟩
noncomputable def q_pack_At_0 : SPat := ⟨[(0, .agg [(.val (.int .i64)), (.val (.int .i64)), (.val (.int .i64))]), (1, .one (.val (.int .i64))), (2, .one (.val (.int .i64)))], []⟩
noncomputable def pack_At {R : Type} (N : Nat) (x2 : List (Int)) (x3 : Int) (K0 : ((Int) → (Int) → (Int) → (Int) → (Int) → Option R)) : Option R :=
    if ((decide ((x3 < (0 : Int)))) = true) then (K0 ((0 : Int)) ((0 : Int)) ((0 : Int)) ((0 : Int)) ((1 : Int))) else (if ((decide ((x3 ≥ (((List.length x2) : Nat) : Int)))) = true) then (K0 ((0 : Int)) ((0 : Int)) ((0 : Int)) ((0 : Int)) ((1 : Int))) else (if (((0 : Int) ≤ x3) ∧ (x3 < (((List.length x2) : Nat) : Int))) then (let v6 := (Go.AX.andI Go.IntKind.u8 (List.getD x2 (Int.toNat x3) (0 : Int)) (31 : Int)); if (((0 : Int) ≤ x3) ∧ (x3 < (((List.length x2) : Nat) : Int))) then (if ((decide (((Go.IntKind.wrap Go.IntKind.i64 v6) < (1 : Int)))) = true) then (K0 ((0 : Int)) ((0 : Int)) ((0 : Int)) ((0 : Int)) ((3 : Int))) else (if ((decide (((Go.IntKind.wrap Go.IntKind.i64 v6) > (30 : Int)))) = true) then (K0 ((0 : Int)) ((0 : Int)) ((0 : Int)) ((0 : Int)) ((3 : Int))) else (if (((Go.IntKind.wrap Go.IntKind.i64 v6) == (19 : Int)) = true) then (K0 ((0 : Int)) ((0 : Int)) ((0 : Int)) ((0 : Int)) ((3 : Int))) else (if ((decide (((Go.IntKind.wrap Go.IntKind.i64 (Go.AX.shrI Go.IntKind.u8 (List.getD x2 (Int.toNat x3) (0 : Int)) (5 : Int))) > (3 : Int)))) = true) then (K0 ((0 : Int)) ((0 : Int)) ((0 : Int)) ((0 : Int)) ((3 : Int))) else (if (((0 : Int) ≤ (Go.IntKind.wrap Go.IntKind.i64 (Go.AX.shrI Go.IntKind.u8 (List.getD x2 (Int.toNat x3) (0 : Int)) (5 : Int)))) ∧ ((Go.IntKind.wrap Go.IntKind.i64 (Go.AX.shrI Go.IntKind.u8 (List.getD x2 (Int.toNat x3) (0 : Int)) (5 : Int))) < (4 : Int))) then (Q.pack_reader_signed N ((List.getD [(0 : Int), (1 : Int), (2 : Int), (4 : Int)] (Int.toNat (Go.IntKind.wrap Go.IntKind.i64 (Go.AX.shrI Go.IntKind.u8 (List.getD x2 (Int.toNat x3) (0 : Int)) (5 : Int)))) (0 : Int))) (x2) ((Go.IntKind.wrap Go.IntKind.i64 (x3 + (1 : Int)))) (false) (fun y47 y48 y49 y50 => if (((Go.IntKind.wrap Go.IntKind.i64 v6) == (30 : Int)) = true) then (Q.pack_reader_signed N ((4 : Int)) (y48) (y49) (y50) (fun y51 y52 y53 y54 => Q.pack_At_24 N (x3) ((Go.IntKind.wrap Go.IntKind.i64 (Go.AX.shrI Go.IntKind.u8 (List.getD x2 (Int.toNat x3) (0 : Int)) (5 : Int)))) ((0 : Int)) ((0 : Int)) ((0 : Int)) ((Go.IntKind.wrap Go.IntKind.i64 v6)) (y47) (y51) (y52) (y53) (y54) (fun y69 y70 y71 y72 y73 => K0 (y71) (y72) (y73) (y69) (y70)))) else (Q.pack_extra N ((Go.IntKind.wrap Go.IntKind.i64 v6)) (fun y75 => Q.pack_reader_num N (y75) (y48) (y49) (y50) (fun y76 y77 y78 y79 => Q.pack_At_24 N (x3) ((Go.IntKind.wrap Go.IntKind.i64 (Go.AX.shrI Go.IntKind.u8 (List.getD x2 (Int.toNat x3) (0 : Int)) (5 : Int)))) ((0 : Int)) ((0 : Int)) ((0 : Int)) ((Go.IntKind.wrap Go.IntKind.i64 v6)) (y47) (y76) (y77) (y78) (y79) (fun y80 y81 y82 y83 y84 => K0 (y82) (y83) (y84) (y80) (y81))))))) else (none)))))) else (none)) else (none)))
noncomputable def g_pack_At (N : Nat) : TypedM p_pack_At [Q.q_pack_At_0] := fun R x C => Q.pack_At N x.1.1 x.1.2.1 (fun y0 y1 y2 y3 y4 => C.1 (((y0, y1, y2, ()), y3, y4, ()), (())))
noncomputable def s_pack_At (N : Nat) : AX.Spec := Go.AX.specM [true, true] [] false 2 0 Q.p_pack_At [Q.q_pack_At_0] (Q.g_pack_At N)
noncomputable def L_pack_At (N : Nat) : List (Nat × Frag) := [(24, fragOf p_pack_At_24 (g_pack_At_24 N))]
noncomputable def G_pack_At (N : Nat) : List (Nat × AX.Spec) := [(35, s_pack_reader_signed N), (38, s_pack_class N), (37, s_pack_extra N), (36, s_pack_reader_num N)]
noncomputable def b_ref10_At : Code := Go.Proofs.Try.f13.body.getD .skip
noncomputable def b_ref10_widths : Code := Go.Proofs.Try.f39.body.getD .skip
/-! ### ref10_widths -/
noncomputable def p_ref10_widths : SPat := ⟨[(0, .one (.val (.int .i64)))], []⟩
noncomputable def q_ref10_widths_0 : SPat := ⟨[(0, .one (.val (.int .i64)))], []⟩
noncomputable def ref10_widths {R : Type} (N : Nat) (x98 : Int) (K0 : ((Int) → Option R)) : Option R :=
    if ((x98 == (3 : Int)) = true) then (K0 ((4 : Int))) else (K0 (x98))
noncomputable def g_ref10_widths (N : Nat) : TypedM p_ref10_widths [Q.q_ref10_widths_0] := fun R x C => Q.ref10_widths N x.1.1 (fun y0 => C.1 ((y0, ()), (())))
noncomputable def s_ref10_widths (N : Nat) : AX.Spec := Go.AX.specM [true] [] false 1 0 Q.p_ref10_widths [Q.q_ref10_widths_0] (Q.g_ref10_widths N)
noncomputable def L_ref10_widths (N : Nat) : List (Nat × Frag) := []
noncomputable def G_ref10_widths (N : Nat) : List (Nat × AX.Spec) := []
noncomputable def b_ref10_behind : Code := Go.Proofs.Try.f40.body.getD .skip
/-! ### ref10_behind -/
noncomputable def p_ref10_behind : SPat := ⟨[(0, .one (.val (.int .i64)))], []⟩
noncomputable def q_ref10_behind_0 : SPat := ⟨[(0, .one (.val (.int .i64)))], []⟩
noncomputable def ref10_behind {R : Type} (N : Nat) (x101 : Int) (K0 : ((Int) → Option R)) : Option R :=
    if ((x101 == (24 : Int)) = true) then (K0 ((1 : Int))) else (if ((x101 == (29 : Int)) = true) then (K0 ((2 : Int))) else (if ((x101 == (30 : Int)) = true) then (K0 ((4 : Int))) else (K0 ((0 : Int)))))
noncomputable def g_ref10_behind (N : Nat) : TypedM p_ref10_behind [Q.q_ref10_behind_0] := fun R x C => Q.ref10_behind N x.1.1 (fun y0 => C.1 ((y0, ()), (())))
noncomputable def s_ref10_behind (N : Nat) : AX.Spec := Go.AX.specM [true] [] false 1 0 Q.p_ref10_behind [Q.q_ref10_behind_0] (Q.g_ref10_behind N)
noncomputable def L_ref10_behind (N : Nat) : List (Nat × Frag) := []
noncomputable def G_ref10_behind (N : Nat) : List (Nat × AX.Spec) := []
noncomputable def b_ref10_signed : Code := Go.Proofs.Try.f41.body.getD .skip
noncomputable def b_ref10_unsigned : Code := Go.Proofs.Try.f43.body.getD .skip
noncomputable def p_ref10_unsigned_7 : SPat := ⟨[(0, .one (.val (.list (.int .u8)))), (3, .one (.val (.int .i64))), (4, .one (.val (.int .i64)))], []⟩
noncomputable def o_ref10_unsigned_7_0 : SPat := ⟨[(3, .one (.val (.int .i64)))], []⟩
noncomputable def o_ref10_unsigned_7 : Outs := .cons (.exit 0) o_ref10_unsigned_7_0 (.nil)
noncomputable def ref10_unsigned_7 {R : Type} (N : Nat) : Nat → ((List (Int)) → (Int) → (Int) → ((Int) → Option R) → Option R)
  | 0, _, _, _, _ => none
  | k + 1, x107, x108, x109, K0 =>
    if ((decide ((x109 < (((List.length x107) : Nat) : Int)))) = true) then (if (((0 : Int) ≤ x109) ∧ (x109 < (((List.length x107) : Nat) : Int))) then (Q.ref10_unsigned_7 N k (x107) ((Go.AX.orI Go.IntKind.i64 (Go.AX.shlI Go.IntKind.i64 x108 (8 : Int)) (Go.IntKind.wrap Go.IntKind.i64 (List.getD x107 (Int.toNat x109) (0 : Int))))) ((Go.IntKind.wrap Go.IntKind.i64 (x109 + (1 : Int)))) K0) else (none)) else (K0 (x108))
noncomputable def g_ref10_unsigned_7 (N : Nat) (k : Nat) : Typed p_ref10_unsigned_7 := fun R x K => Q.ref10_unsigned_7 N k x.1.1 x.1.2.1 x.1.2.2.1 (fun y0 => K (.exit 0) (Go.AX.encS Q.o_ref10_unsigned_7_0 ((y0, ()), (()))))
/-! ### ref10_unsigned -/
noncomputable def p_ref10_unsigned : SPat := ⟨[(0, .one (.val (.list (.int .u8))))], []⟩
noncomputable def q_ref10_unsigned_0 : SPat := ⟨[(0, .one (.val (.int .i64)))], []⟩
noncomputable def ref10_unsigned {R : Type} (N : Nat) (x106 : List (Int)) (K0 : ((Int) → Option R)) : Option R :=
    Q.ref10_unsigned_7 N N (x106) ((0 : Int)) ((0 : Int)) (fun y116 => K0 (y116))
noncomputable def g_ref10_unsigned (N : Nat) : TypedM p_ref10_unsigned [Q.q_ref10_unsigned_0] := fun R x C => Q.ref10_unsigned N x.1.1 (fun y0 => C.1 ((y0, ()), (())))
noncomputable def s_ref10_unsigned (N : Nat) : AX.Spec := Go.AX.specM [true] [] false 1 0 Q.p_ref10_unsigned [Q.q_ref10_unsigned_0] (Q.g_ref10_unsigned N)
noncomputable def L_ref10_unsigned (N : Nat) : List (Nat × Frag) := [(7, fragOf p_ref10_unsigned_7 (g_ref10_unsigned_7 N N))]
noncomputable def G_ref10_unsigned (N : Nat) : List (Nat × AX.Spec) := []
/-! ### ref10_signed -/
noncomputable def p_ref10_signed : SPat := ⟨[(0, .one (.val (.list (.int .u8))))], []⟩
noncomputable def q_ref10_signed_0 : SPat := ⟨[(0, .one (.val (.int .i64)))], []⟩
noncomputable def ref10_signed {R : Type} (N : Nat) (x105 : List (Int)) (K0 : ((Int) → Option R)) : Option R :=
    Q.ref10_unsigned N (x105) (fun y117 => if ((decide (((((List.length x105) : Nat) : Int) > (0 : Int)))) = true) then (if (((0 : Int) ≤ (0 : Int)) ∧ ((0 : Int) < (((List.length x105) : Nat) : Int))) then (if ((decide (((List.getD x105 (0 : Nat) (0 : Int)) ≥ (128 : Int)))) = true) then (let v120 := (Go.IntKind.wrap Go.IntKind.i64 ((8 : Int) * (((List.length x105) : Nat) : Int))); if (v120 < (0 : Int)) then (none) else (K0 ((Go.IntKind.wrap Go.IntKind.i64 (y117 - (Go.AX.shlI Go.IntKind.i64 (1 : Int) v120)))))) else (K0 (y117))) else (none)) else (K0 (y117)))
noncomputable def g_ref10_signed (N : Nat) : TypedM p_ref10_signed [Q.q_ref10_signed_0] := fun R x C => Q.ref10_signed N x.1.1 (fun y0 => C.1 ((y0, ()), (())))
noncomputable def s_ref10_signed (N : Nat) : AX.Spec := Go.AX.specM [true] [] false 1 0 Q.p_ref10_signed [Q.q_ref10_signed_0] (Q.g_ref10_signed N)
noncomputable def L_ref10_signed (N : Nat) : List (Nat × Frag) := []
noncomputable def G_ref10_signed (N : Nat) : List (Nat × AX.Spec) := [(43, s_ref10_unsigned N)]
noncomputable def b_ref10_fewest : Code := Go.Proofs.Try.f42.body.getD .skip
/-! ### ref10_fewest -/
noncomputable def p_ref10_fewest : SPat := ⟨[(0, .one (.val (.int .i64)))], []⟩
noncomputable def q_ref10_fewest_0 : SPat := ⟨[(0, .one (.val (.int .i64)))], []⟩
noncomputable def ref10_fewest {R : Type} (N : Nat) (x124 : Int) (K0 : ((Int) → Option R)) : Option R :=
    if ((x124 == (0 : Int)) = true) then (K0 ((0 : Int))) else (if ((decide ((x124 ≥ (-128 : Int)))) = true) then (if ((decide ((x124 ≤ (127 : Int)))) = true) then (K0 ((1 : Int))) else (if ((decide ((x124 ≥ (-32768 : Int)))) = true) then (if ((decide ((x124 ≤ (32767 : Int)))) = true) then (K0 ((2 : Int))) else (K0 ((3 : Int)))) else (K0 ((3 : Int))))) else (if ((decide ((x124 ≥ (-32768 : Int)))) = true) then (if ((decide ((x124 ≤ (32767 : Int)))) = true) then (K0 ((2 : Int))) else (K0 ((3 : Int)))) else (K0 ((3 : Int)))))
noncomputable def g_ref10_fewest (N : Nat) : TypedM p_ref10_fewest [Q.q_ref10_fewest_0] := fun R x C => Q.ref10_fewest N x.1.1 (fun y0 => C.1 ((y0, ()), (())))
noncomputable def s_ref10_fewest (N : Nat) : AX.Spec := Go.AX.specM [true] [] false 1 0 Q.p_ref10_fewest [Q.q_ref10_fewest_0] (Q.g_ref10_fewest N)
noncomputable def L_ref10_fewest (N : Nat) : List (Nat × Frag) := []
noncomputable def G_ref10_fewest (N : Nat) : List (Nat × AX.Spec) := []
noncomputable def p_ref10_At_36 : SPat := ⟨[(1, .one (.val (.int .i64))), (4, .one (.ptr 32)), (10, .one (.val (.int .i64)))], [(32, .cells 24 [(.val (.int .i64)), (.val (.int .i64)), (.val (.int .i64))])]⟩
noncomputable def o_ref10_At_36_0 : SPat := ⟨[(4, .one (.ptr 32)), (5, .one (.val (.int .i64))), (6, .one (.val (.int .i64)))], [(32, .cells 24 [(.val (.int .i64)), (.val (.int .i64)), (.val (.int .i64))])]⟩
noncomputable def o_ref10_At_36 : Outs := .cons .ret o_ref10_At_36_0 (.nil)
noncomputable def ref10_At_36 {R : Type} (N : Nat) (x129 : Int) (x130 : Int) (x131 : Int) (x132 : Int) (x133 : Int) (K0 : ((Int) → (Int) → (Int) → (Int) → (Int) → Option R)) : Option R :=
    K0 ((Go.IntKind.wrap Go.IntKind.i64 (x130 - x129))) ((0 : Int)) (x131) (x132) (x133)
noncomputable def g_ref10_At_36 (N : Nat) : Typed p_ref10_At_36 := fun R x K => Q.ref10_At_36 N x.1.1 x.1.2.2.1 x.2.1.1 x.2.1.2.1 x.2.1.2.2.1 (fun y0 y1 y2 y3 y4 => K .ret (Go.AX.encS Q.o_ref10_At_36_0 (((), y0, y1, ()), ((y2, y3, y4, ()), ()))))
/-! ### ref10_At -/
noncomputable def p_ref10_At : SPat := ⟨[(0, .one (.val (.list (.int .u8)))), (1, .one (.val (.int .i64)))], []⟩
noncomputable def q_ref10_At_0 : SPat := ⟨[(0, .agg [(.val (.int .i64)), (.val (.int .i64)), (.val (.int .i64))]), (1, .one (.val (.int .i64))), (2, .one (.val (.int .i64)))], []⟩
noncomputable def ref10_At {R : Type} (N : Nat) (x90 : List (Int)) (x91 : Int) (K0 : ((Int) → (Int) → (Int) → (Int) → (Int) → Option R)) : Option R :=
    if ((decide ((x91 < (0 : Int)))) = true) then (K0 ((0 : Int)) ((0 : Int)) ((0 : Int)) ((0 : Int)) ((1 : Int))) else (if ((decide ((x91 ≥ (((List.length x90) : Nat) : Int)))) = true) then (K0 ((0 : Int)) ((0 : Int)) ((0 : Int)) ((0 : Int)) ((1 : Int))) else (if (((0 : Int) ≤ x91) ∧ (x91 < (((List.length x90) : Nat) : Int))) then (let v93 := (List.getD x90 (Int.toNat x91) (0 : Int)); if (((0 : Int) ≤ x91) ∧ (x91 < (((List.length x90) : Nat) : Int))) then (let v96 := (Go.IntKind.wrap Go.IntKind.i64 (Int.tdiv (Go.IntKind.wrap Go.IntKind.i64 v93) (32 : Int))); if ((decide (((Int.tmod (Go.IntKind.wrap Go.IntKind.i64 v93) (32 : Int)) < (1 : Int)))) = true) then (K0 ((0 : Int)) ((0 : Int)) ((0 : Int)) ((0 : Int)) ((3 : Int))) else (if ((decide (((Int.tmod (Go.IntKind.wrap Go.IntKind.i64 v93) (32 : Int)) > (30 : Int)))) = true) then (K0 ((0 : Int)) ((0 : Int)) ((0 : Int)) ((0 : Int)) ((3 : Int))) else (if (((Int.tmod (Go.IntKind.wrap Go.IntKind.i64 v93) (32 : Int)) == (19 : Int)) = true) then (K0 ((0 : Int)) ((0 : Int)) ((0 : Int)) ((0 : Int)) ((3 : Int))) else (if ((decide ((v96 > (3 : Int)))) = true) then (K0 ((0 : Int)) ((0 : Int)) ((0 : Int)) ((0 : Int)) ((3 : Int))) else (let v97 := (Go.IntKind.wrap Go.IntKind.i64 (x91 + (1 : Int))); Q.ref10_widths N (v96) (fun y99 => let v100 := (Go.IntKind.wrap Go.IntKind.i64 (v97 + y99)); Q.ref10_behind N ((Int.tmod (Go.IntKind.wrap Go.IntKind.i64 v93) (32 : Int))) (fun y102 => let v103 := (Go.IntKind.wrap Go.IntKind.i64 (v100 + y102)); if ((decide ((v103 > (((List.length x90) : Nat) : Int)))) = true) then (K0 ((0 : Int)) ((0 : Int)) ((0 : Int)) ((0 : Int)) ((7 : Int))) else (if (((0 : Int) ≤ v100) ∧ (v100 ≤ (((List.length x90) : Nat) : Int))) then (if (((0 : Int) ≤ v97) ∧ (v97 ≤ v100)) then (Q.ref10_signed N ((List.drop (Int.toNat v97) (List.take (Int.toNat v100) x90))) (fun y123 => Q.ref10_fewest N (y123) (fun y125 => if ((y125 != v96) = true) then (K0 ((0 : Int)) ((0 : Int)) ((0 : Int)) ((0 : Int)) ((3 : Int))) else (if (((0 : Int) ≤ v103) ∧ (v103 ≤ (((List.length x90) : Nat) : Int))) then (if (((0 : Int) ≤ v100) ∧ (v100 ≤ v103)) then (let v126 := (List.drop (Int.toNat v100) (List.take (Int.toNat v103) x90)); Q.ref10_unsigned N (v126) (fun y127 => if (((Int.tmod (Go.IntKind.wrap Go.IntKind.i64 v93) (32 : Int)) == (30 : Int)) = true) then (if (((0 : Int) ≤ v103) ∧ (v103 ≤ (((List.length x90) : Nat) : Int))) then (if (((0 : Int) ≤ v100) ∧ (v100 ≤ v103)) then (Q.ref10_signed N (v126) (fun y128 => Q.ref10_At_36 N (x91) (v103) ((Int.tmod (Go.IntKind.wrap Go.IntKind.i64 v93) (32 : Int))) (y123) (y128) (fun y135 y136 y137 y138 y139 => K0 (y137) (y138) (y139) (y135) (y136)))) else (none)) else (none)) else (Q.ref10_At_36 N (x91) (v103) ((Int.tmod (Go.IntKind.wrap Go.IntKind.i64 v93) (32 : Int))) (y123) (y127) (fun y140 y141 y142 y143 y144 => K0 (y142) (y143) (y144) (y140) (y141))))) else (none)) else (none))))) else (none)) else (none))))))))) else (none)) else (none)))
noncomputable def g_ref10_At (N : Nat) : TypedM p_ref10_At [Q.q_ref10_At_0] := fun R x C => Q.ref10_At N x.1.1 x.1.2.1 (fun y0 y1 y2 y3 y4 => C.1 (((y0, y1, y2, ()), y3, y4, ()), (())))
noncomputable def s_ref10_At (N : Nat) : AX.Spec := Go.AX.specM [true, true] [] false 2 0 Q.p_ref10_At [Q.q_ref10_At_0] (Q.g_ref10_At N)
noncomputable def L_ref10_At (N : Nat) : List (Nat × Frag) := [(36, fragOf p_ref10_At_36 (g_ref10_At_36 N))]
noncomputable def G_ref10_At (N : Nat) : List (Nat × AX.Spec) := [(39, s_ref10_widths N), (40, s_ref10_behind N), (41, s_ref10_signed N), (42, s_ref10_fewest N), (43, s_ref10_unsigned N)]
noncomputable def b_law10_awake : Code := Go.Proofs.Try.f14.body.getD .skip
/-! ### law10_awake -/
noncomputable def p_law10_awake : SPat := ⟨[], []⟩
noncomputable def q_law10_awake_0 : SPat := ⟨[(0, .one (.val .bool))], []⟩
noncomputable def law10_awake {R : Type} (N : Nat) (K0 : ((Bool) → Option R)) : Option R :=
    Q.pack_At N ([(65 : Int), (1 : Int), (44 : Int)]) ((0 : Int)) (fun y150 y151 y152 y153 y154 => Q.pack_At N ([(34 : Int), (2 : Int), (1 : Int)]) ((2 : Int)) (fun y155 y156 y157 y158 y159 => if ((y154 == (0 : Int)) = true) then (if ((y159 == (0 : Int)) = true) then (if (((y150 == (1 : Int)) && ((y151 == (300 : Int)) && ((y152 == (0 : Int)) && true))) = true) then (if ((y153 == (3 : Int)) = true) then (if (((y155 == (1 : Int)) && ((y156 == (0 : Int)) && ((y157 == (0 : Int)) && true))) = true) then (K0 ((y158 == (1 : Int)))) else (K0 (false))) else (K0 (false))) else (K0 (false))) else (K0 (false))) else (K0 (false))))
noncomputable def g_law10_awake (N : Nat) : TypedM p_law10_awake [Q.q_law10_awake_0] := fun R x C => Q.law10_awake N  (fun y0 => C.1 ((y0, ()), (())))
noncomputable def s_law10_awake (N : Nat) : AX.Spec := Go.AX.specM [] [] false 0 0 Q.p_law10_awake [Q.q_law10_awake_0] (Q.g_law10_awake N)
noncomputable def L_law10_awake (N : Nat) : List (Nat × Frag) := []
noncomputable def G_law10_awake (N : Nat) : List (Nat × AX.Spec) := [(12, s_pack_At N)]
/-! ### law10_PackAt -/
noncomputable def p_law10_PackAt : SPat := ⟨[(0, .one (.val (.list (.int .u8)))), (1, .one (.val (.int .i64)))], []⟩
noncomputable def q_law10_PackAt_0 : SPat := ⟨[(0, .one (.val .bool))], []⟩
noncomputable def law10_PackAt {R : Type} (N : Nat) (x0 : List (Int)) (x1 : Int) (K0 : ((Bool) → Option R)) : Option R :=
    Q.pack_At N (x0) (x1) (fun y85 y86 y87 y88 y89 => Q.ref10_At N (x0) (x1) (fun y145 y146 y147 y148 y149 => if (((y85 == y145) && ((y86 == y146) && ((y87 == y147) && true))) = true) then (if ((y88 == y148) = true) then (if ((y89 == y149) = true) then (Q.law10_awake N (fun y160 => K0 (y160))) else (K0 (false))) else (K0 (false))) else (K0 (false))))
noncomputable def g_law10_PackAt (N : Nat) : TypedM p_law10_PackAt [Q.q_law10_PackAt_0] := fun R x C => Q.law10_PackAt N x.1.1 x.1.2.1 (fun y0 => C.1 ((y0, ()), (())))
noncomputable def s_law10_PackAt (N : Nat) : AX.Spec := Go.AX.specM [true, true] [] false 2 0 Q.p_law10_PackAt [Q.q_law10_PackAt_0] (Q.g_law10_PackAt N)
noncomputable def L_law10_PackAt (N : Nat) : List (Nat × Frag) := []
noncomputable def G_law10_PackAt (N : Nat) : List (Nat × AX.Spec) := [(12, s_pack_At N), (13, s_ref10_At N), (14, s_law10_awake N)]
-- THEOREMS
theorem htt : TTok Go.Proofs.Try.prog tt := ttOf_ok (l := types) (by kernel_rfl)
theorem mixed : Go.Proofs.Try.prog.follows .mixedOrders = true := by kernel_rfl
theorem c_pack_reader_num (N : Nat) : AllIn Go.Proofs.Try.prog (G_pack_reader_num N) := trivial
theorem e_pack_reader_num_13 (N : Nat) (R : Type) (k : Nat) (x : p_pack_reader_num_13.den) (K : Ex → ASt → Option R) : aexec tt (gam (G_pack_reader_num N)) (List.replicate 32 true) (lam (L_pack_reader_num N)) (sub b_pack_reader_num [1, 1, 1, 0, 1, 0, 0]) (encS p_pack_reader_num_13 x) (loopE (R := R) p_pack_reader_num_13 (fun y => g_pack_reader_num_13 N k R y K) K o_pack_reader_num_13) = g_pack_reader_num_13 N (k + 1) R x K := by kernel_rfl
theorem ok_pack_reader_num_13 (N : Nat) : FragOK Go.Proofs.Try.prog 53 (List.replicate 32 true) (sub b_pack_reader_num [1, 1, 1, 0, 1, 0]) (fragOf p_pack_reader_num_13 (g_pack_reader_num_13 N N)) :=
  loop_okE (c := sub b_pack_reader_num [1, 1, 1, 0, 1, 0, 0]) (dom := (domOf [13])) mixed htt (callRule (ctx_of (c_pack_reader_num N))) (lam_dom rfl) (by kernel_rfl) (cuts_of (l := []) (by kernel_rfl) trivial) o_pack_reader_num_13 (fun _ _ _ => rfl) (fun R k x K => e_pack_reader_num_13 N R k x K) N
theorem e_pack_reader_num (N : Nat) (R : Type) (x : p_pack_reader_num.den) (C : Conts R [Q.q_pack_reader_num_0]) : aexec tt (gam (G_pack_reader_num N)) (List.replicate 32 true) (lam (L_pack_reader_num N)) b_pack_reader_num (encS p_pack_reader_num x) (retM (R := R) tt [.tmp 4] [Q.q_pack_reader_num_0] C) = g_pack_reader_num N R x C := by kernel_rfl
theorem ok_pack_reader_num (N : Nat) : SpecIn Go.Proofs.Try.prog 36 (s_pack_reader_num N) :=
  ⟨fun_okM (fn := Go.Proofs.Try.f36) (c := b_pack_reader_num) (dom := (domOf [13])) (rs := [.tmp 4]) mixed htt (callRule (ctx_of (c_pack_reader_num N))) (lam_dom rfl) Go.Proofs.Try.func36 rfl rfl (by kernel_rfl) (cuts_of (l := [(13, sub b_pack_reader_num [1, 1, 1, 0, 1, 0])]) (by kernel_rfl) ⟨⟨_, rfl, ok_pack_reader_num_13 N⟩, trivial⟩) (by decide) (by decide) (by decide) (fun R x C => e_pack_reader_num N R x C), Go.Proofs.Try.f36, Go.Proofs.Try.func36, rfl, by decide⟩
theorem c_pack_reader_signed (N : Nat) : AllIn Go.Proofs.Try.prog (G_pack_reader_signed N) := ⟨ok_pack_reader_num N, trivial⟩
theorem e_pack_reader_signed (N : Nat) (R : Type) (x : p_pack_reader_signed.den) (C : Conts R [Q.q_pack_reader_signed_0]) : aexec tt (gam (G_pack_reader_signed N)) (List.replicate 32 true) (lam (L_pack_reader_signed N)) b_pack_reader_signed (encS p_pack_reader_signed x) (retM (R := R) tt [.tmp 4] [Q.q_pack_reader_signed_0] C) = g_pack_reader_signed N R x C := by kernel_rfl
theorem ok_pack_reader_signed (N : Nat) : SpecIn Go.Proofs.Try.prog 35 (s_pack_reader_signed N) :=
  ⟨fun_okM (fn := Go.Proofs.Try.f35) (c := b_pack_reader_signed) (dom := (domOf [])) (rs := [.tmp 4]) mixed htt (callRule (ctx_of (c_pack_reader_signed N))) (lam_dom rfl) Go.Proofs.Try.func35 rfl rfl (by kernel_rfl) (cuts_of (l := []) (by kernel_rfl) trivial) (by decide) (by decide) (by decide) (fun R x C => e_pack_reader_signed N R x C), Go.Proofs.Try.f35, Go.Proofs.Try.func35, rfl, by decide⟩
theorem c_pack_class (N : Nat) : AllIn Go.Proofs.Try.prog (G_pack_class N) := trivial
theorem e_pack_class (N : Nat) (R : Type) (x : p_pack_class.den) (C : Conts R [Q.q_pack_class_0]) : aexec tt (gam (G_pack_class N)) [] (lam (L_pack_class N)) b_pack_class (encS p_pack_class x) (retM (R := R) tt [.tmp 2] [Q.q_pack_class_0] C) = g_pack_class N R x C := by kernel_rfl
theorem ok_pack_class (N : Nat) : SpecIn Go.Proofs.Try.prog 38 (s_pack_class N) :=
  ⟨fun_okM (fn := Go.Proofs.Try.f38) (c := b_pack_class) (dom := (domOf [])) (rs := [.tmp 2]) mixed htt (callRule (ctx_of (c_pack_class N))) (lam_dom rfl) Go.Proofs.Try.func38 rfl rfl (by kernel_rfl) (cuts_of (l := []) (by kernel_rfl) trivial) (by decide) (by decide) (by decide) (fun R x C => e_pack_class N R x C), Go.Proofs.Try.f38, Go.Proofs.Try.func38, rfl, by decide⟩
theorem c_pack_extra (N : Nat) : AllIn Go.Proofs.Try.prog (G_pack_extra N) := trivial
theorem e_pack_extra (N : Nat) (R : Type) (x : p_pack_extra.den) (C : Conts R [Q.q_pack_extra_0]) : aexec tt (gam (G_pack_extra N)) [] (lam (L_pack_extra N)) b_pack_extra (encS p_pack_extra x) (retM (R := R) tt [.tmp 2] [Q.q_pack_extra_0] C) = g_pack_extra N R x C := by kernel_rfl
theorem ok_pack_extra (N : Nat) : SpecIn Go.Proofs.Try.prog 37 (s_pack_extra N) :=
  ⟨fun_okM (fn := Go.Proofs.Try.f37) (c := b_pack_extra) (dom := (domOf [])) (rs := [.tmp 2]) mixed htt (callRule (ctx_of (c_pack_extra N))) (lam_dom rfl) Go.Proofs.Try.func37 rfl rfl (by kernel_rfl) (cuts_of (l := []) (by kernel_rfl) trivial) (by decide) (by decide) (by decide) (fun R x C => e_pack_extra N R x C), Go.Proofs.Try.f37, Go.Proofs.Try.func37, rfl, by decide⟩
theorem c_pack_At (N : Nat) : AllIn Go.Proofs.Try.prog (G_pack_At N) := ⟨ok_pack_reader_signed N, ok_pack_class N, ok_pack_extra N, ok_pack_reader_num N, trivial⟩
theorem e_pack_At_24 (N : Nat) (R : Type) (x : p_pack_At_24.den) (K : Ex → ASt → Option R) : aexec tt (gam (G_pack_At N)) [] (lam (L_pack_At N)) (sub b_pack_At [1, 1, 1, 1, 1, 1, 1, 1]) (encS p_pack_At_24 x) (outE (R := R) K o_pack_At_24) = g_pack_At_24 N R x K := by kernel_rfl
theorem ok_pack_At_24 (N : Nat) : FragOK Go.Proofs.Try.prog 94 [] (sub b_pack_At [1, 1, 1, 1, 1, 1, 1, 1]) (fragOf p_pack_At_24 (g_pack_At_24 N)) :=
  cut_okE (dom := (domOf [24])) mixed htt (callRule (ctx_of (c_pack_At N))) (lam_dom rfl) (by kernel_rfl) (cuts_of (l := []) (by kernel_rfl) trivial) o_pack_At_24 (fun R x K => e_pack_At_24 N R x K)
theorem e_pack_At (N : Nat) (R : Type) (x : p_pack_At.den) (C : Conts R [Q.q_pack_At_0]) : aexec tt (gam (G_pack_At N)) [] (lam (L_pack_At N)) b_pack_At (encS p_pack_At x) (retM (R := R) tt [.cell 4 24, .tmp 5, .tmp 6] [Q.q_pack_At_0] C) = g_pack_At N R x C := by kernel_rfl
theorem ok_pack_At (N : Nat) : SpecIn Go.Proofs.Try.prog 12 (s_pack_At N) :=
  ⟨fun_okM (fn := Go.Proofs.Try.f12) (c := b_pack_At) (dom := (domOf [24])) (rs := [.cell 4 24, .tmp 5, .tmp 6]) mixed htt (callRule (ctx_of (c_pack_At N))) (lam_dom rfl) Go.Proofs.Try.func12 rfl rfl (by kernel_rfl) (cuts_of (l := [(24, sub b_pack_At [1, 1, 1, 1, 1, 1, 1, 1])]) (by kernel_rfl) ⟨⟨_, rfl, ok_pack_At_24 N⟩, trivial⟩) (by decide) (by decide) (by decide) (fun R x C => e_pack_At N R x C), Go.Proofs.Try.f12, Go.Proofs.Try.func12, rfl, by decide⟩
theorem c_ref10_widths (N : Nat) : AllIn Go.Proofs.Try.prog (G_ref10_widths N) := trivial
theorem e_ref10_widths (N : Nat) (R : Type) (x : p_ref10_widths.den) (C : Conts R [Q.q_ref10_widths_0]) : aexec tt (gam (G_ref10_widths N)) [] (lam (L_ref10_widths N)) b_ref10_widths (encS p_ref10_widths x) (retM (R := R) tt [.tmp 2] [Q.q_ref10_widths_0] C) = g_ref10_widths N R x C := by kernel_rfl
theorem ok_ref10_widths (N : Nat) : SpecIn Go.Proofs.Try.prog 39 (s_ref10_widths N) :=
  ⟨fun_okM (fn := Go.Proofs.Try.f39) (c := b_ref10_widths) (dom := (domOf [])) (rs := [.tmp 2]) mixed htt (callRule (ctx_of (c_ref10_widths N))) (lam_dom rfl) Go.Proofs.Try.func39 rfl rfl (by kernel_rfl) (cuts_of (l := []) (by kernel_rfl) trivial) (by decide) (by decide) (by decide) (fun R x C => e_ref10_widths N R x C), Go.Proofs.Try.f39, Go.Proofs.Try.func39, rfl, by decide⟩
theorem c_ref10_behind (N : Nat) : AllIn Go.Proofs.Try.prog (G_ref10_behind N) := trivial
theorem e_ref10_behind (N : Nat) (R : Type) (x : p_ref10_behind.den) (C : Conts R [Q.q_ref10_behind_0]) : aexec tt (gam (G_ref10_behind N)) [] (lam (L_ref10_behind N)) b_ref10_behind (encS p_ref10_behind x) (retM (R := R) tt [.tmp 2] [Q.q_ref10_behind_0] C) = g_ref10_behind N R x C := by kernel_rfl
theorem ok_ref10_behind (N : Nat) : SpecIn Go.Proofs.Try.prog 40 (s_ref10_behind N) :=
  ⟨fun_okM (fn := Go.Proofs.Try.f40) (c := b_ref10_behind) (dom := (domOf [])) (rs := [.tmp 2]) mixed htt (callRule (ctx_of (c_ref10_behind N))) (lam_dom rfl) Go.Proofs.Try.func40 rfl rfl (by kernel_rfl) (cuts_of (l := []) (by kernel_rfl) trivial) (by decide) (by decide) (by decide) (fun R x C => e_ref10_behind N R x C), Go.Proofs.Try.f40, Go.Proofs.Try.func40, rfl, by decide⟩
theorem c_ref10_unsigned (N : Nat) : AllIn Go.Proofs.Try.prog (G_ref10_unsigned N) := trivial
theorem e_ref10_unsigned_7 (N : Nat) (R : Type) (k : Nat) (x : p_ref10_unsigned_7.den) (K : Ex → ASt → Option R) : aexec tt (gam (G_ref10_unsigned N)) [] (lam (L_ref10_unsigned N)) (sub b_ref10_unsigned [1, 1, 0, 1, 0, 0]) (encS p_ref10_unsigned_7 x) (loopE (R := R) p_ref10_unsigned_7 (fun y => g_ref10_unsigned_7 N k R y K) K o_ref10_unsigned_7) = g_ref10_unsigned_7 N (k + 1) R x K := by kernel_rfl
theorem ok_ref10_unsigned_7 (N : Nat) : FragOK Go.Proofs.Try.prog 20 [] (sub b_ref10_unsigned [1, 1, 0, 1, 0]) (fragOf p_ref10_unsigned_7 (g_ref10_unsigned_7 N N)) :=
  loop_okE (c := sub b_ref10_unsigned [1, 1, 0, 1, 0, 0]) (dom := (domOf [7])) mixed htt (callRule (ctx_of (c_ref10_unsigned N))) (lam_dom rfl) (by kernel_rfl) (cuts_of (l := []) (by kernel_rfl) trivial) o_ref10_unsigned_7 (fun _ _ _ => rfl) (fun R k x K => e_ref10_unsigned_7 N R k x K) N
theorem e_ref10_unsigned (N : Nat) (R : Type) (x : p_ref10_unsigned.den) (C : Conts R [Q.q_ref10_unsigned_0]) : aexec tt (gam (G_ref10_unsigned N)) [] (lam (L_ref10_unsigned N)) b_ref10_unsigned (encS p_ref10_unsigned x) (retM (R := R) tt [.tmp 2] [Q.q_ref10_unsigned_0] C) = g_ref10_unsigned N R x C := by kernel_rfl
theorem ok_ref10_unsigned (N : Nat) : SpecIn Go.Proofs.Try.prog 43 (s_ref10_unsigned N) :=
  ⟨fun_okM (fn := Go.Proofs.Try.f43) (c := b_ref10_unsigned) (dom := (domOf [7])) (rs := [.tmp 2]) mixed htt (callRule (ctx_of (c_ref10_unsigned N))) (lam_dom rfl) Go.Proofs.Try.func43 rfl rfl (by kernel_rfl) (cuts_of (l := [(7, sub b_ref10_unsigned [1, 1, 0, 1, 0])]) (by kernel_rfl) ⟨⟨_, rfl, ok_ref10_unsigned_7 N⟩, trivial⟩) (by decide) (by decide) (by decide) (fun R x C => e_ref10_unsigned N R x C), Go.Proofs.Try.f43, Go.Proofs.Try.func43, rfl, by decide⟩
theorem c_ref10_signed (N : Nat) : AllIn Go.Proofs.Try.prog (G_ref10_signed N) := ⟨ok_ref10_unsigned N, trivial⟩
theorem e_ref10_signed (N : Nat) (R : Type) (x : p_ref10_signed.den) (C : Conts R [Q.q_ref10_signed_0]) : aexec tt (gam (G_ref10_signed N)) [] (lam (L_ref10_signed N)) b_ref10_signed (encS p_ref10_signed x) (retM (R := R) tt [.tmp 2] [Q.q_ref10_signed_0] C) = g_ref10_signed N R x C := by kernel_rfl
theorem ok_ref10_signed (N : Nat) : SpecIn Go.Proofs.Try.prog 41 (s_ref10_signed N) :=
  ⟨fun_okM (fn := Go.Proofs.Try.f41) (c := b_ref10_signed) (dom := (domOf [])) (rs := [.tmp 2]) mixed htt (callRule (ctx_of (c_ref10_signed N))) (lam_dom rfl) Go.Proofs.Try.func41 rfl rfl (by kernel_rfl) (cuts_of (l := []) (by kernel_rfl) trivial) (by decide) (by decide) (by decide) (fun R x C => e_ref10_signed N R x C), Go.Proofs.Try.f41, Go.Proofs.Try.func41, rfl, by decide⟩
theorem c_ref10_fewest (N : Nat) : AllIn Go.Proofs.Try.prog (G_ref10_fewest N) := trivial
theorem e_ref10_fewest (N : Nat) (R : Type) (x : p_ref10_fewest.den) (C : Conts R [Q.q_ref10_fewest_0]) : aexec tt (gam (G_ref10_fewest N)) [] (lam (L_ref10_fewest N)) b_ref10_fewest (encS p_ref10_fewest x) (retM (R := R) tt [.tmp 2] [Q.q_ref10_fewest_0] C) = g_ref10_fewest N R x C := by kernel_rfl
theorem ok_ref10_fewest (N : Nat) : SpecIn Go.Proofs.Try.prog 42 (s_ref10_fewest N) :=
  ⟨fun_okM (fn := Go.Proofs.Try.f42) (c := b_ref10_fewest) (dom := (domOf [])) (rs := [.tmp 2]) mixed htt (callRule (ctx_of (c_ref10_fewest N))) (lam_dom rfl) Go.Proofs.Try.func42 rfl rfl (by kernel_rfl) (cuts_of (l := []) (by kernel_rfl) trivial) (by decide) (by decide) (by decide) (fun R x C => e_ref10_fewest N R x C), Go.Proofs.Try.f42, Go.Proofs.Try.func42, rfl, by decide⟩
theorem c_ref10_At (N : Nat) : AllIn Go.Proofs.Try.prog (G_ref10_At N) := ⟨ok_ref10_widths N, ok_ref10_behind N, ok_ref10_signed N, ok_ref10_fewest N, ok_ref10_unsigned N, trivial⟩
theorem e_ref10_At_36 (N : Nat) (R : Type) (x : p_ref10_At_36.den) (K : Ex → ASt → Option R) : aexec tt (gam (G_ref10_At N)) [] (lam (L_ref10_At N)) (sub b_ref10_At [1, 1, 1, 1, 1, 1, 1, 1, 1, 1, 1, 1, 1]) (encS p_ref10_At_36 x) (outE (R := R) K o_ref10_At_36) = g_ref10_At_36 N R x K := by kernel_rfl
theorem ok_ref10_At_36 (N : Nat) : FragOK Go.Proofs.Try.prog 98 [] (sub b_ref10_At [1, 1, 1, 1, 1, 1, 1, 1, 1, 1, 1, 1, 1]) (fragOf p_ref10_At_36 (g_ref10_At_36 N)) :=
  cut_okE (dom := (domOf [36])) mixed htt (callRule (ctx_of (c_ref10_At N))) (lam_dom rfl) (by kernel_rfl) (cuts_of (l := []) (by kernel_rfl) trivial) o_ref10_At_36 (fun R x K => e_ref10_At_36 N R x K)
theorem e_ref10_At (N : Nat) (R : Type) (x : p_ref10_At.den) (C : Conts R [Q.q_ref10_At_0]) : aexec tt (gam (G_ref10_At N)) [] (lam (L_ref10_At N)) b_ref10_At (encS p_ref10_At x) (retM (R := R) tt [.cell 4 24, .tmp 5, .tmp 6] [Q.q_ref10_At_0] C) = g_ref10_At N R x C := by kernel_rfl
theorem ok_ref10_At (N : Nat) : SpecIn Go.Proofs.Try.prog 13 (s_ref10_At N) :=
  ⟨fun_okM (fn := Go.Proofs.Try.f13) (c := b_ref10_At) (dom := (domOf [36])) (rs := [.cell 4 24, .tmp 5, .tmp 6]) mixed htt (callRule (ctx_of (c_ref10_At N))) (lam_dom rfl) Go.Proofs.Try.func13 rfl rfl (by kernel_rfl) (cuts_of (l := [(36, sub b_ref10_At [1, 1, 1, 1, 1, 1, 1, 1, 1, 1, 1, 1, 1])]) (by kernel_rfl) ⟨⟨_, rfl, ok_ref10_At_36 N⟩, trivial⟩) (by decide) (by decide) (by decide) (fun R x C => e_ref10_At N R x C), Go.Proofs.Try.f13, Go.Proofs.Try.func13, rfl, by decide⟩
theorem c_law10_awake (N : Nat) : AllIn Go.Proofs.Try.prog (G_law10_awake N) := ⟨ok_pack_At N, trivial⟩
theorem e_law10_awake (N : Nat) (R : Type) (x : p_law10_awake.den) (C : Conts R [Q.q_law10_awake_0]) : aexec tt (gam (G_law10_awake N)) [] (lam (L_law10_awake N)) b_law10_awake (encS p_law10_awake x) (retM (R := R) tt [.tmp 0] [Q.q_law10_awake_0] C) = g_law10_awake N R x C := by kernel_rfl
theorem ok_law10_awake (N : Nat) : SpecIn Go.Proofs.Try.prog 14 (s_law10_awake N) :=
  ⟨fun_okM (fn := Go.Proofs.Try.f14) (c := b_law10_awake) (dom := (domOf [])) (rs := [.tmp 0]) mixed htt (callRule (ctx_of (c_law10_awake N))) (lam_dom rfl) Go.Proofs.Try.func14 rfl rfl (by kernel_rfl) (cuts_of (l := []) (by kernel_rfl) trivial) (by decide) (by decide) (by decide) (fun R x C => e_law10_awake N R x C), Go.Proofs.Try.f14, Go.Proofs.Try.func14, rfl, by decide⟩
theorem c_law10_PackAt (N : Nat) : AllIn Go.Proofs.Try.prog (G_law10_PackAt N) := ⟨ok_pack_At N, ok_ref10_At N, ok_law10_awake N, trivial⟩
theorem e_law10_PackAt (N : Nat) (R : Type) (x : p_law10_PackAt.den) (C : Conts R [Q.q_law10_PackAt_0]) : aexec tt (gam (G_law10_PackAt N)) [] (lam (L_law10_PackAt N)) b_law10_PackAt (encS p_law10_PackAt x) (retM (R := R) tt [.tmp 4] [Q.q_law10_PackAt_0] C) = g_law10_PackAt N R x C := by kernel_rfl
theorem ok_law10_PackAt (N : Nat) : SpecIn Go.Proofs.Try.prog 3 (s_law10_PackAt N) :=
  ⟨fun_okM (fn := Go.Proofs.Try.f3) (c := b_law10_PackAt) (dom := (domOf [])) (rs := [.tmp 4]) mixed htt (callRule (ctx_of (c_law10_PackAt N))) (lam_dom rfl) Go.Proofs.Try.func3 rfl rfl (by kernel_rfl) (cuts_of (l := []) (by kernel_rfl) trivial) (by decide) (by decide) (by decide) (fun R x C => e_law10_PackAt N R x C), Go.Proofs.Try.f3, Go.Proofs.Try.func3, rfl, by decide⟩
end
end Q

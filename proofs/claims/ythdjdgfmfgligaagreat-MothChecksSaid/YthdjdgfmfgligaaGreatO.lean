/- Part O of the proof. -/
import Derived.Test.YthdjdgfmfgligaaGreatE1
import Derived.Test.YthdjdgfmfgligaaGreatE2
import Derived.Test.YthdjdgfmfgligaaGreatSh
import Derived.WalkKit
import Derived.Laws.Externs
import Derived.Test.YthdjdgfmfgligaaGreatAW
open Go Go.AX Go.Proofs
namespace Q
noncomputable section
set_option maxRecDepth 100000
set_option linter.unusedVariables false
theorem htt : Ajh Tryz.prog tt := Cb0 (l := types) (by kernel_rfl)
theorem mixed : Tryz.prog.follows .mixedOrders = true := by kernel_rfl
theorem Bl6 (N : Nat) : Ac7 Tryz.prog (B4c N) := trivial
theorem Bqk (N : Nat) : Aeh Tryz.prog 59 [] (sub Anv [1, 1, 1, 0, 1, 0, 0]) (Aaa Ah3 (A02 N N)) :=
 Adt (c := sub Anv [1, 1, 1, 0, 1, 0, 0]) (dom := (Aar [11])) mixed htt (Aad (Aal (Bl6 N))) (Aaf rfl) (by kernel_rfl) (Aag (l := []) (by kernel_rfl) trivial) Bcj (B := (fun _ _ _ => none)) (Aeh.none _ _ _ _) (fun _ _ _ => rfl) (fun R k x K => Bun @Ad2 N R (fun a0 a1 a2 a3 a4 a5 a6 => Ad2 N k a0 a1 a2 a3 a4 a5 a6 (fun a => K (.exit 0) (Aab Ap9 ((a, ()), (()))))) x K) N
theorem Bql (N : Nat) : Aaz Tryz.prog 59 [] (sub Anv [1, 1, 1, 0, 1, 0]) (Aaa Ah3 (A02 N N)) := (Bqk N).frag
theorem B1l (N : Nat) : Abi Tryz.prog 4 (Bk6 N) :=
 ⟨Abe (fn := Tryz.f4) (c := Anv) (dom := (Aar [11])) (rs := [.tmp 2]) mixed htt (Aad (Aal (Bl6 N))) (Aaf rfl) Tryz.func4 rfl rfl (by kernel_rfl) (Aag (l := [(11, sub Anv [1, 1, 1, 0, 1, 0])]) (by kernel_rfl) ⟨⟨_, rfl, Bql N⟩, trivial⟩) (by decide) (by decide) (by decide) (fun R x C => B51 @Ad2 N R x C), Tryz.f4, Tryz.func4, rfl, by decide⟩
theorem B1m (N : Nat) : Abi Tryz.prog 5 (A8v N) :=
 ⟨Go.CE.Aw.awake_ok, Tryz.f5, Tryz.func5, rfl, by decide⟩
theorem Bl7 (N : Nat) : Ac7 Tryz.prog (B4e N) := trivial
theorem Bqm (N : Nat) : Aeh Tryz.prog 50 [] (sub Anw [1, 1, 1, 0, 1, 0, 0]) (Aaa Ah4 (A05 N N)) :=
 Adt (c := sub Anw [1, 1, 1, 0, 1, 0, 0]) (dom := (Aar [11])) mixed htt (Aad (Aal (Bl7 N))) (Aaf rfl) (by kernel_rfl) (Aag (l := []) (by kernel_rfl) trivial) Bcl (B := (fun _ _ _ => none)) (Aeh.none _ _ _ _) (fun _ _ _ => rfl) (fun R k x K => Bup @Ad3 N R (fun a0 a1 a2 a3 => Ad3 N k a0 a1 a2 a3 (fun a => K (.exit 0) (Aab Aqb ((a, ()), (()))))) x K) N
theorem Bqn (N : Nat) : Aaz Tryz.prog 50 [] (sub Anw [1, 1, 1, 0, 1, 0]) (Aaa Ah4 (A05 N N)) := (Bqm N).frag
theorem B1n (N : Nat) : Abi Tryz.prog 46 (Bk9 N) :=
 ⟨Abe (fn := Tryz.f46) (c := Anw) (dom := (Aar [11])) (rs := [.tmp 2]) mixed htt (Aad (Aal (Bl7 N))) (Aaf rfl) Tryz.func46 rfl rfl (by kernel_rfl) (Aag (l := [(11, sub Anw [1, 1, 1, 0, 1, 0])]) (by kernel_rfl) ⟨⟨_, rfl, Bqn N⟩, trivial⟩) (by decide) (by decide) (by decide) (fun R x C => B6e @Ad3 N R x C), Tryz.f46, Tryz.func46, rfl, by decide⟩
theorem Bci : (Tryz.prog.info? 161).map (·.size) = some 2 := by kernel_rfl
theorem Bs8 : liesAt Tryz.prog Tryz.prog.depth 161 (2 / Tryz.prog.cellsOf 161) 0 161 1 = true := by kernel_rfl
set_option maxHeartbeats 1000000 in
theorem A54 (b : Nat) (w : World) (h0 : w.cell? ⟨b, 0, none⟩ = some (.pointer (some ⟨b, 0, none⟩))) :
  Calls Tryz.prog 141 #[.pointer (some ⟨b, 0, none⟩)] w fun e w' => e = .returned (.tuple #[]) ∧ w' = w := by
 obtain ⟨j, hj, _⟩ := Option.map_eq_some_iff.1 Bci
 go_enter Tryz.func141, Tryz.ntmps141
 go_wp2
 rw [Lib.run_neq_ptr_same w _ Tryz.underlying159 hj]
 go_wp2
 go_end0
 exact ⟨rfl, rfl⟩
set_option maxHeartbeats 1000000 in
theorem A3j (b : Nat) (w : World) (h0 : w.cell? ⟨b, 0, none⟩ = some (.pointer none)) (hsh : w.shape? b = some (161, 2)) (hfz : w.frozen? ⟨b, 0, none⟩ = false) :
  Calls Tryz.prog 141 #[.pointer (some ⟨b, 0, none⟩)] w fun e w' => e = .returned (.tuple #[]) ∧ w' = w.setCell ⟨b, 0, none⟩ (.pointer (some ⟨b, 0, none⟩)) := by
 obtain ⟨j, hj, hjs⟩ := Option.map_eq_some_iff.1 Bci
 go_enter Tryz.func141, Tryz.ntmps141
 go_wp2
 rw [Lib.run_to_unsafe w ⟨b, 0, none⟩ Tryz.underlying159 Tryz.underlying180 hj (by rw [hjs]; decide) hsh (Nat.zero_lt_succ 1)]
 simp only [Result.andThen]
 rw [Oper.upon_value]
 go_wp2
 rw [run_callFunc_extern Tryz.func147 (by kernel_rfl) (by kernel_rfl) (by kernel_rfl) (e := Extern.AbiNoEscape.same) (by kernel_rfl)]
 rw [Lib.run_noEscape]
 simp only [Result.andThen]
 rw [Oper.upon_value]
 go_wp2
 rw [Lib.run_from_unsafe w ⟨b, 0, none⟩ Tryz.underlying180 Tryz.underlying159 hj hsh Bs8]
 simp only [Result.andThen]
 rw [Oper.upon_value]
 go_wp2
 go_end0
 exact ⟨rfl, rfl⟩
theorem Asz (N : Nat) : Abi Tryz.prog 141 (Anc N) :=
 ⟨B8a A54 A3j, Tryz.f141, Tryz.func141, rfl, by decide⟩
theorem A8e (N : Nat) : Ac7 Tryz.prog (As6 N) := ⟨Asz N, trivial⟩
theorem A6t (N : Nat) : Abi Tryz.prog 108 (As5 N) :=
 ⟨Abe (fn := Tryz.f108) (c := Ako) (dom := (Aar [])) (rs := [.tmp 4]) mixed htt (Aad (Aal (A8e N))) (Aaf rfl) Tryz.func108 rfl rfl (by kernel_rfl) (Aag (l := []) (by kernel_rfl) trivial) (by decide) (by decide) (by decide) (fun R x C => A8d N R x C), Tryz.f108, Tryz.func108, rfl, by decide⟩
theorem Bkv (N : Nat) : Abi Tryz.prog 109 (Api N) :=
 ⟨B79 Tryz.strings_IndexByte, Tryz.f109, Tryz.func109, rfl, by decide⟩
theorem A5g (N : Nat) : Ac7 Tryz.prog (Aqd N) := ⟨Asz N, trivial⟩
theorem A25 (N : Nat) : Abi Tryz.prog 108 (Aqc N) :=
 ⟨Abe (fn := Tryz.f108) (c := Ako) (dom := (Aar [])) (rs := [.tmp 4]) mixed htt (Aad (Aal (A5g N))) (Aaf rfl) Tryz.func108 rfl rfl (by kernel_rfl) (Aag (l := []) (by kernel_rfl) trivial) (by decide) (by decide) (by decide) (fun R x C => A5f N R x C), Tryz.f108, Tryz.func108, rfl, by decide⟩
theorem Bbi (N : Nat) : Abi Tryz.prog 110 (Alr N) :=
 ⟨Cfp Tryz.lays169 Tryz.Builder_Extra_169, Tryz.f110, Tryz.func110, rfl, by decide⟩
theorem Bsi (N : Nat) : Ac7 Tryz.prog (Cav N) := ⟨Ccw rfl (A6t N) (A25 N), Bkv N, Bbi N, trivial⟩
theorem B1o (N : Nat) : Aeh Tryz.prog 41 [] (sub Arm [1, 1, 1, 0, 1, 0, 0]) (Aaa Aku (A80 N N)) :=
 Adt (c := sub Arm [1, 1, 1, 0, 1, 0, 0]) (dom := (Aar [9])) mixed htt (Aad (Aal (Bsi N))) (Aaf rfl) (by kernel_rfl) (Aag (l := []) (by kernel_rfl) trivial) Bla (B := (fun _ _ _ => none)) (Aeh.none _ _ _ _) (fun _ _ _ => rfl) (fun R k x K => B57 @Abh @Aat @Afo N R (fun a0 a1 a2 a3 => Afo N k a0 a1 a2 a3 (fun a b => K .ret (Aab Avx ((a, b, ()), (())))) (fun a b => K (.exit 0) (Aab Avy ((a, (), ()), (((), (), ()), b, ()))))) x K) N
theorem B1p (N : Nat) : Aaz Tryz.prog 41 [] (sub Arm [1, 1, 1, 0, 1, 0]) (Aaa Aku (A80 N N)) := (B1o N).frag
theorem Bo8 (N : Nat) : Abi Tryz.prog 68 (Bhg N) :=
 ⟨Abe (fn := Tryz.f68) (c := Arm) (dom := (Aar [9])) (rs := [.tmp 2, .tmp 3]) mixed htt (Aad (Aal (Bsi N))) (Aaf rfl) Tryz.func68 rfl rfl (by kernel_rfl) (Aag (l := [(9, sub Arm [1, 1, 1, 0, 1, 0])]) (by kernel_rfl) ⟨⟨_, rfl, B1p N⟩, trivial⟩) (by decide) (by decide) (by decide) (fun R x C => Ca7 @Abh @Aat @Afo N R x C), Tryz.f68, Tryz.func68, rfl, by decide⟩
theorem B6k (N : Nat) : Ac7 Tryz.prog (Bld N) := trivial
theorem Bjj (N : Nat) : Abi Tryz.prog 69 (A82 N) :=
 ⟨Abe (fn := Tryz.f69) (c := Blc) (dom := (Aar [])) (rs := [.cell 0 125]) mixed htt (Aad (Aal (B6k N))) (Aaf rfl) Tryz.func69 rfl rfl (by kernel_rfl) (Aag (l := []) (by kernel_rfl) trivial) (by decide) (by decide) (by decide) (fun R x C => B6j N R x C), Tryz.f69, Tryz.func69, rfl, by decide⟩
theorem Ceq (N : Nat) : Ac7 Tryz.prog (Bxc N) := trivial
theorem A64 (N : Nat) : Abi Tryz.prog 112 (A3t N) :=
 ⟨Abe (fn := Tryz.f112) (c := Bxb) (dom := (Aar [])) (rs := [.tmp 6]) mixed htt (Aad (Aal (Ceq N))) (Aaf rfl) Tryz.func112 rfl rfl (by kernel_rfl) (Aag (l := []) (by kernel_rfl) trivial) (by decide) (by decide) (by decide) (fun R x C => Cen N R x C), Tryz.f112, Tryz.func112, rfl, by decide⟩
theorem B9z (N : Nat) : Ac7 Tryz.prog (B9i N) := ⟨A64 N, trivial⟩
theorem Bl8 (N : Nat) : Abi Tryz.prog 111 (Bcp N) :=
 ⟨Abe (fn := Tryz.f111) (c := Boc) (dom := (Aar [])) (rs := [.tmp 2]) mixed htt (Aad (Aal (B9z N))) (Aaf rfl) Tryz.func111 rfl rfl (by kernel_rfl) (Aag (l := []) (by kernel_rfl) trivial) (by decide) (by decide) (by decide) (fun R x C => B9w @Aa0 N R x C), Tryz.f111, Tryz.func111, rfl, by decide⟩
theorem Bgo (N : Nat) : Ac7 Tryz.prog (Bxe N) := ⟨A64 N, Bl8 N, trivial⟩
theorem Bml (N : Nat) : Aaz Tryz.prog 102 [] (sub Aqe [1, 1, 1]) (Aaa Ajj (A7o N)) :=
 Ade (dom := (Aar [42])) mixed htt (Aad (Aal (Bgo N))) (Aaf rfl) (by kernel_rfl) (Aag (l := []) (by kernel_rfl) trivial) A7n (fun R x K => Bo7 @Aa0 @Aep @Abm N R x K)
theorem But (N : Nat) : Abi Tryz.prog 70 (Bfn N) :=
 ⟨Abe (fn := Tryz.f70) (c := Aqe) (dom := (Aar [42])) (rs := [.tmp 6]) mixed htt (Aad (Aal (Bgo N))) (Aaf rfl) Tryz.func70 rfl rfl (by kernel_rfl) (Aag (l := [(42, sub Aqe [1, 1, 1])]) (by kernel_rfl) ⟨⟨_, rfl, Bml N⟩, trivial⟩) (by decide) (by decide) (by decide) (fun R x C => Bx8 @Aa0 @Aep @Abm N R x C), Tryz.f70, Tryz.func70, rfl, by decide⟩
theorem Bjk (N : Nat) : Ac7 Tryz.prog (B0g N) := trivial
theorem Bqo (N : Nat) : Aeh Tryz.prog 74 [] (sub Amf [1, 1, 1, 0, 1, 0, 0]) (Aaa Ah6 (A1c N N)) :=
 Adt (c := sub Amf [1, 1, 1, 0, 1, 0, 0]) (dom := (Aar [9])) mixed htt (Aad (Aal (Bjk N))) (Aaf rfl) (by kernel_rfl) (Aag (l := []) (by kernel_rfl) trivial) Bcs (B := (fun _ _ _ => none)) (Aeh.none _ _ _ _) (fun _ _ _ => rfl) (fun R k x K => Buj @Aei N R (fun a0 a1 a2 a3 a4 a5 a6 a7 a8 a9 a10 a11 a12 => Aei N k a0 a1 a2 a3 a4 a5 a6 a7 a8 a9 a10 a11 a12 (fun a b d => K .ret (Aab Aqi (((), (), a, ()), (b, d, ())))) (fun a b d e f g h i j m => K (.exit 0) (Aab Aqj (((), (), (), a, b, ()), ((d, e, f, g, h, i, ()), j, m, ()))))) x K) N
theorem Bqp (N : Nat) : Aaz Tryz.prog 74 [] (sub Amf [1, 1, 1, 0, 1, 0]) (Aaa Ah6 (A1c N N)) := (Bqo N).frag
theorem Bgp (N : Nat) : Abi Tryz.prog 71 (A57 N) :=
 ⟨Abe (fn := Tryz.f71) (c := Amf) (dom := (Aar [9])) (rs := [.tmp 2, .tmp 3, .tmp 4]) mixed htt (Aad (Aal (Bjk N))) (Aaf rfl) Tryz.func71 rfl rfl (by kernel_rfl) (Aag (l := [(9, sub Amf [1, 1, 1, 0, 1, 0])]) (by kernel_rfl) ⟨⟨_, rfl, Bqp N⟩, trivial⟩) (by decide) (by decide) (by decide) (fun R x C => B1e @Aei N R x C), Tryz.f71, Tryz.func71, rfl, by decide⟩
theorem Bo9 (N : Nat) : Ac7 Tryz.prog (B9k N) := trivial
theorem Buu (N : Nat) : Aaz Tryz.prog 39 [] (sub Axc [1, 0, 1, 0, 1]) (Aaa Als (Bfp N)) :=
 Ade (dom := (Aar [12])) mixed htt (Aad (Aal (Bo9 N))) (Aaf rfl) (by kernel_rfl) (Aag (l := []) (by kernel_rfl) trivial) Bfo (fun R x K => Byd @Aek N R x K)
theorem Bl9 (N : Nat) : Abi Tryz.prog 78 (Bcy N) :=
 ⟨Abe (fn := Tryz.f78) (c := Axc) (dom := (Aar [12])) (rs := [.tmp 4]) mixed htt (Aad (Aal (Bo9 N))) (Aaf rfl) Tryz.func78 rfl rfl (by kernel_rfl) (Aag (l := [(12, sub Axc [1, 0, 1, 0, 1])]) (by kernel_rfl) ⟨⟨_, rfl, Buu N⟩, trivial⟩) (by decide) (by decide) (by decide) (fun R x C => B9v @Aek N R x C), Tryz.f78, Tryz.func78, rfl, by decide⟩
theorem A0o (N : Nat) : Ac7 Tryz.prog (B4j N) := ⟨Bl9 N, trivial⟩
theorem Bqq (N : Nat) : Aeh Tryz.prog 132 [] (sub Afr [1, 0, 1, 0, 0, 1, 0, 0, 1, 0, 1, 0, 1, 0, 0, 1, 0, 0]) (Aaa Agl (A1e N N)) :=
 Adt (c := sub Afr [1, 0, 1, 0, 0, 1, 0, 0, 1, 0, 1, 0, 1, 0, 0, 1, 0, 0]) (dom := (Aar [17, 44, 5])) mixed htt (Aad (Aal (A0o N))) (Aaf rfl) (by kernel_rfl) (Aag (l := []) (by kernel_rfl) trivial) Bcu (B := (fun _ _ _ => none)) (Aeh.none _ _ _ _) (fun _ _ _ => rfl) (fun R k x K => Buk @Abn @Ack @Abf @Ab8 N R (fun a0 a1 a2 a3 => Ack N k a0 a1 a2 a3 (fun a => K .ret (Aab Aqk ((a, ()), (())))) (fun a b => K (.exit 3) (Aab Aql ((a, b, ()), (()))))) x K) N
theorem Bqr (N : Nat) : Aaz Tryz.prog 132 [] (sub Afr [1, 0, 1, 0, 0, 1, 0, 0, 1, 0, 1, 0, 1, 0, 0, 1, 0]) (Aaa Agl (A1e N N)) := (Bqq N).frag
theorem Bqs (N : Nat) : Aaz Tryz.prog 132 [] (sub Afr [1, 0, 1, 0, 0, 1, 0, 0, 1, 1]) (Aaa Ah7 (Bc0 N)) :=
 Ade (dom := (Aar [17, 44, 5])) mixed htt (Aad (Aal (A0o N))) (Aaf rfl) (by kernel_rfl) (Aag (l := []) (by kernel_rfl) trivial) Bcz (fun R x K => Bt5 @Abn @Ack @Abf @Ab8 N R x K)
theorem Buv (N : Nat) : Aeh Tryz.prog 132 [] (sub Afr [1, 0, 1, 0, 0]) (Aaa Ag4 (A30 N N)) :=
 Adt (c := sub Afr [1, 0, 1, 0, 0]) (dom := (Aar [17, 44, 5])) mixed htt (Aad (Aal (A0o N))) (Aaf rfl) (by kernel_rfl) (Aag (l := [(17, sub Afr [1, 0, 1, 0, 0, 1, 0, 0, 1, 0, 1, 0, 1, 0, 0, 1, 0]), (44, sub Afr [1, 0, 1, 0, 0, 1, 0, 0, 1, 1])]) (by kernel_rfl) ⟨⟨_, rfl, Bqr N⟩, ⟨_, rfl, Bqs N⟩, trivial⟩) Bfq (B := (fun _ _ _ => none)) (Aeh.none _ _ _ _) (fun _ _ _ => rfl) (fun R k x K => Bx7 @Abn @Ack @Abf @Ab8 N R (fun a0 a1 => Ab8 N k a0 a1 (fun a => K .ret (Aab Aru ((a, ()), (())))) (fun a => K (.exit 0) (Aab Arv ((a, ()), (()))))) x K) N
theorem Buw (N : Nat) : Aaz Tryz.prog 132 [] (sub Afr [1, 0, 1, 0]) (Aaa Ag4 (A30 N N)) := (Buv N).frag
theorem B1q (N : Nat) : Abi Tryz.prog 72 (Ble N) :=
 ⟨Abe (fn := Tryz.f72) (c := Afr) (dom := (Aar [17, 44, 5])) (rs := [.tmp 2]) mixed htt (Aad (Aal (A0o N))) (Aaf rfl) Tryz.func72 rfl rfl (by kernel_rfl) (Aag (l := [(5, sub Afr [1, 0, 1, 0])]) (by kernel_rfl) ⟨⟨_, rfl, Buw N⟩, trivial⟩) (by decide) (by decide) (by decide) (fun R x C => B5w @Abn @Ack @Abf @Ab8 N R x C), Tryz.f72, Tryz.func72, rfl, by decide⟩
theorem Byp (N : Nat) : Ac7 Tryz.prog (Bxh N) := ⟨Bl8 N, trivial⟩
theorem Bux (N : Nat) : Abi Tryz.prog 114 (Bft N) :=
 ⟨Abe (fn := Tryz.f114) (c := Bfs) (dom := (Aar [])) (rs := [.tmp 2]) mixed htt (Aad (Aal (Byp N))) (Aaf rfl) Tryz.func114 rfl rfl (by kernel_rfl) (Aag (l := []) (by kernel_rfl) trivial) (by decide) (by decide) (by decide) (fun R x C => Byo @Aep N R x C), Tryz.f114, Tryz.func114, rfl, by decide⟩
theorem Au5 (N : Nat) : Ac7 Tryz.prog (A86 N) := ⟨Bux N, trivial⟩
theorem A5r (N : Nat) : Aeh Tryz.prog 19 [] (sub Afs [1, 0, 1, 0, 0]) (Aaa Adu (Amk N N)) :=
 Adt (c := sub Afs [1, 0, 1, 0, 0]) (dom := (Aar [5])) mixed htt (Aad (Aal (Au5 N))) (Aaf rfl) (by kernel_rfl) (Aag (l := []) (by kernel_rfl) trivial) Asq (B := (fun _ _ _ => none)) (Aeh.none _ _ _ _) (fun _ _ _ => rfl) (fun R k x K => A6s @Ae5 @Aa3 N R (fun a0 a1 a2 => Aa3 N k a0 a1 a2 (fun a => K .ret (Aab Ai7 ((a, ()), (())))) (K (.exit 0) (Aab Ai8 ((()), (()))))) x K) N
theorem A5s (N : Nat) : Aaz Tryz.prog 19 [] (sub Afs [1, 0, 1, 0]) (Aaa Adu (Amk N N)) := (A5r N).frag
theorem A8f (N : Nat) : Abi Tryz.prog 143 (Auv N) :=
 ⟨Abe (fn := Tryz.f143) (c := Afs) (dom := (Aar [5])) (rs := [.tmp 4]) mixed htt (Aad (Aal (Au5 N))) (Aaf rfl) Tryz.func143 rfl rfl (by kernel_rfl) (Aag (l := [(5, sub Afs [1, 0, 1, 0])]) (by kernel_rfl) ⟨⟨_, rfl, A5s N⟩, trivial⟩) (by decide) (by decide) (by decide) (fun R x C => Bao @Ae5 @Aa3 N R x C), Tryz.f143, Tryz.func143, rfl, by decide⟩
theorem A5t (N : Nat) : Ac7 Tryz.prog (A5p N) := ⟨A8f N, trivial⟩
theorem A5h (N : Nat) : Abi Tryz.prog 113 (Arq N) :=
 ⟨Abe (fn := Tryz.f113) (c := Arp) (dom := (Aar [])) (rs := [.tmp 4]) mixed htt (Aad (Aal (A5t N))) (Aaf rfl) Tryz.func113 rfl rfl (by kernel_rfl) (Aag (l := []) (by kernel_rfl) trivial) (by decide) (by decide) (by decide) (fun R x C => A5q @Adb N R x C), Tryz.f113, Tryz.func113, rfl, by decide⟩
theorem Bap (N : Nat) : Ac7 Tryz.prog (B4n N) := ⟨Bo8 N, A5h N, A64 N, trivial⟩
theorem Bqt (N : Nat) : Aeh Tryz.prog 78 [] (sub Ahp [1, 1, 1, 0, 1, 0, 0]) (Aaa Ahd (A1h N N)) :=
 Adt (c := sub Ahp [1, 1, 1, 0, 1, 0, 0]) (dom := (Aar [5, 27])) mixed htt (Aad (Aal (Bap N))) (Aaf rfl) (by kernel_rfl) (Aag (l := []) (by kernel_rfl) trivial) Bc1 (B := (fun _ _ _ => none)) (Aeh.none _ _ _ _) (fun _ _ _ => rfl) (fun R k x K => Buh @Acx @Aaw @Aa0 @Adq @Ac3 N R (fun a0 a1 a2 a3 a4 a5 a6 a7 a8 a9 => Ac3 N k a0 a1 a2 a3 a4 a5 a6 a7 a8 a9 (fun a => K .ret (Aab Aqp ((a, ()), (())))) (K (.exit 2) (Aab Aqq ((()), (()))))) x K) N
theorem Bqu (N : Nat) : Aaz Tryz.prog 78 [] (sub Ahp [1, 1, 1, 0, 1, 0]) (Aaa Ahd (A1h N N)) := (Bqt N).frag
theorem Buy (N : Nat) : Aeh Tryz.prog 78 [] (sub Ahp [1, 0, 1, 0, 0]) (Aaa Ahv (A35 N N)) :=
 Adt (c := sub Ahp [1, 0, 1, 0, 0]) (dom := (Aar [5, 27])) mixed htt (Aad (Aal (Bap N))) (Aaf rfl) (by kernel_rfl) (Aag (l := []) (by kernel_rfl) trivial) Bfu (B := (fun _ _ _ => none)) (Aeh.none _ _ _ _) (fun _ _ _ => rfl) (fun R k x K => Byi @Acx @Aaw @Aa0 @Adq @Ac3 N R (fun a0 a1 a2 a3 a4 a5 a6 a7 a8 => Adq N k a0 a1 a2 a3 a4 a5 a6 a7 a8 (fun a => K .ret (Aab Arx ((a, ()), (())))) (fun a b d e f g => K (.exit 0) (Aab Ary (((), ()), ((a, b, d, e, f, g, ()), ()))))) x K) N
theorem Buz (N : Nat) : Aaz Tryz.prog 78 [] (sub Ahp [1, 0, 1, 0]) (Aaa Ahv (A35 N N)) := (Buy N).frag
theorem B1r (N : Nat) : Abi Tryz.prog 73 (Blf N) :=
 ⟨Abe (fn := Tryz.f73) (c := Ahp) (dom := (Aar [5, 27])) (rs := [.tmp 2]) mixed htt (Aad (Aal (Bap N))) (Aaf rfl) Tryz.func73 rfl rfl (by kernel_rfl) (Aag (l := [(5, sub Ahp [1, 0, 1, 0]), (27, sub Ahp [1, 1, 1, 0, 1, 0])]) (by kernel_rfl) ⟨⟨_, rfl, Buz N⟩, ⟨_, rfl, Bqu N⟩, trivial⟩) (by decide) (by decide) (by decide) (fun R x C => B59 @Acx @Aaw @Aa0 @Adq @Ac3 N R x C), Tryz.f73, Tryz.func73, rfl, by decide⟩
theorem Bma (N : Nat) : Ac7 Tryz.prog (B4p N) := trivial
theorem Bqv (N : Nat) : Aaz Tryz.prog 17 [] (sub Aux [1, 0, 1, 0, 1]) (Aaa Aky (Bc4 N)) :=
 Ade (dom := (Aar [14])) mixed htt (Aad (Aal (Bma N))) (Aaf rfl) (by kernel_rfl) (Aag (l := []) (by kernel_rfl) trivial) Bc3 (fun R x K => Bt8 @Adv N R x K)
theorem Bjl (N : Nat) : Abi Tryz.prog 74 (A9b N) :=
 ⟨Abe (fn := Tryz.f74) (c := Aux) (dom := (Aar [14])) (rs := [.tmp 2]) mixed htt (Aad (Aal (Bma N))) (Aaf rfl) Tryz.func74 rfl rfl (by kernel_rfl) (Aag (l := [(14, sub Aux [1, 0, 1, 0, 1])]) (by kernel_rfl) ⟨⟨_, rfl, Bqv N⟩, trivial⟩) (by decide) (by decide) (by decide) (fun R x C => B52 @Adv N R x C), Tryz.f74, Tryz.func74, rfl, by decide⟩
theorem A0p (N : Nat) : Ac7 Tryz.prog (B4r N) := ⟨Bo8 N, Bjj N, But N, Bgp N, B1q N, B1r N, Bjl N, trivial⟩
theorem Bqw (N : Nat) : Aaz Tryz.prog 111 [] (sub Afq [1, 1, 1, 1, 1, 1, 1, 0, 1, 0, 0, 1, 1, 0, 0, 1, 1]) (Aaa Ah8 (Bc6 N)) :=
 Ade (dom := (Aar [13, 40, 33])) mixed htt (Aad (Aal (A0p N))) (Aaf rfl) (by kernel_rfl) (Aag (l := []) (by kernel_rfl) trivial) Bc5 (fun R x K => Bub @Acx @Acb @Adh @Abo @Ad6 @Ad7 @Abv @Acv @Ac4 @Acl N R x K)
theorem Bqx (N : Nat) : Aeh Tryz.prog 111 [] (sub Afq [1, 1, 1, 1, 1, 1, 1, 0, 1, 0, 0]) (Aaa Agm (A1m N N)) :=
 Adt (c := sub Afq [1, 1, 1, 1, 1, 1, 1, 0, 1, 0, 0]) (dom := (Aar [13, 40, 33])) mixed htt (Aad (Aal (A0p N))) (Aaf rfl) (by kernel_rfl) (Aag (l := [(40, sub Afq [1, 1, 1, 1, 1, 1, 1, 0, 1, 0, 0, 1, 1, 0, 0, 1, 1])]) (by kernel_rfl) ⟨⟨_, rfl, Bqw N⟩, trivial⟩) Bc7 (B := (fun _ _ _ => none)) (Aeh.none _ _ _ _) (fun _ _ _ => rfl) (fun R k x K => Bua @Acx @Acb @Adh @Abo @Ad6 @Ad7 @Abv @Acv @Ac4 @Acl N R (fun a0 a1 a2 a3 a4 a5 => Acl N k a0 a1 a2 a3 a4 a5 (fun a => K .ret (Aab Aqr ((a, ()), (())))) (K (.exit 2) (Aab Aqs ((()), (()))))) x K) N
theorem Bqy (N : Nat) : Aaz Tryz.prog 111 [] (sub Afq [1, 1, 1, 1, 1, 1, 1, 0, 1, 0]) (Aaa Agm (A1m N N)) := (Bqx N).frag
theorem Bqz (N : Nat) : Aeh Tryz.prog 111 [] (sub Afq [1, 1, 1, 0, 1, 0, 0]) (Aaa Agk (A08 N N)) :=
 Adt (c := sub Afq [1, 1, 1, 0, 1, 0, 0]) (dom := (Aar [13, 40, 33])) mixed htt (Aad (Aal (A0p N))) (Aaf rfl) (by kernel_rfl) (Aag (l := []) (by kernel_rfl) trivial) Bcq (B := (fun _ _ _ => none)) (Aeh.none _ _ _ _) (fun _ _ _ => rfl) (fun R k x K => Btv @Acx @Acb @Adh @Abo @Ad6 @Ad7 @Abv @Acv @Ac4 @Acl N R (fun a0 a1 a2 a3 a4 a5 a6 a7 a8 a9 => Acv N k a0 a1 a2 a3 a4 a5 a6 a7 a8 a9 (fun a => K .ret (Aab Aqg ((a, ()), (())))) (fun a b d e f g => K (.exit 0) (Aab Aqh (((), ()), ((a, b, d, e, f, g, ()), ()))))) x K) N
theorem Bq0 (N : Nat) : Aaz Tryz.prog 111 [] (sub Afq [1, 1, 1, 0, 1, 0]) (Aaa Agk (A08 N N)) := (Bqz N).frag
theorem B1s (N : Nat) : Abi Tryz.prog 47 (Blh N) :=
 ⟨Abe (fn := Tryz.f47) (c := Afq) (dom := (Aar [13, 40, 33])) (rs := [.tmp 2]) mixed htt (Aad (Aal (A0p N))) (Aaf rfl) Tryz.func47 rfl rfl (by kernel_rfl) (Aag (l := [(13, sub Afq [1, 1, 1, 0, 1, 0]), (33, sub Afq [1, 1, 1, 1, 1, 1, 1, 0, 1, 0])]) (by kernel_rfl) ⟨⟨_, rfl, Bq0 N⟩, ⟨_, rfl, Bqy N⟩, trivial⟩) (by decide) (by decide) (by decide) (fun R x C => B5t @Acx @Acb @Adh @Abo @Ad6 @Ad7 @Abv @Acv @Ac4 @Acl N R x C), Tryz.f47, Tryz.func47, rfl, by decide⟩
theorem Bew (N : Nat) : Ac7 Tryz.prog (B9m N) := ⟨A64 N, trivial⟩
theorem Byq (N : Nat) : Aaz Tryz.prog 55 [] (sub Ang [1, 0, 1, 0, 1]) (Aaa Ak9 (Bip N)) :=
 Ade (dom := (Aar [8, 30])) mixed htt (Aad (Aal (Bew N))) (Aaf rfl) (by kernel_rfl) (Aag (l := []) (by kernel_rfl) trivial) Bio (fun R x K => B1a @Aa0 @Ae0 @Aec N R x K)
theorem Bu0 (N : Nat) : Aaz Tryz.prog 55 [] (sub Ang [1, 1]) (Aaa Akq (Bfx N)) :=
 Ade (dom := (Aar [8, 30])) mixed htt (Aad (Aal (Bew N))) (Aaf rfl) (by kernel_rfl) (Aag (l := []) (by kernel_rfl) trivial) Bfw (fun R x K => Bx9 @Aa0 @Ae0 @Aec N R x K)
theorem B6l (N : Nat) : Abi Tryz.prog 75 (Bod N) :=
 ⟨Abe (fn := Tryz.f75) (c := Ang) (dom := (Aar [8, 30])) (rs := [.tmp 8]) mixed htt (Aad (Aal (Bew N))) (Aaf rfl) Tryz.func75 rfl rfl (by kernel_rfl) (Aag (l := [(8, sub Ang [1, 0, 1, 0, 1]), (30, sub Ang [1, 1])]) (by kernel_rfl) ⟨⟨_, rfl, Byq N⟩, ⟨_, rfl, Bu0 N⟩, trivial⟩) (by decide) (by decide) (by decide) (fun R x C => B9u @Aa0 @Ae0 @Aec N R x C), Tryz.f75, Tryz.func75, rfl, by decide⟩
theorem Baq (N : Nat) : Ac7 Tryz.prog (B4t N) := trivial
theorem Bq1 (N : Nat) : Aaz Tryz.prog 32 [] (sub Al3 [1, 0, 1, 0, 1]) (Aaa Ajn (Bdd N)) :=
 Ade (dom := (Aar [16, 18])) mixed htt (Aad (Aal (Baq N))) (Aaf rfl) (by kernel_rfl) (Aag (l := []) (by kernel_rfl) trivial) Bdc (fun R x K => Bur @Adw @Ad4 N R x K)
theorem Bq2 (N : Nat) : Aaz Tryz.prog 32 [] (sub Al3 [1, 1]) (Aaa Ajo (Bdf N)) :=
 Ade (dom := (Aar [16, 18])) mixed htt (Aad (Aal (Baq N))) (Aaf rfl) (by kernel_rfl) (Aag (l := []) (by kernel_rfl) trivial) Bde (fun R x K => Buq @Adw @Ad4 N R x K)
theorem B1t (N : Nat) : Abi Tryz.prog 76 (Bli N) :=
 ⟨Abe (fn := Tryz.f76) (c := Al3) (dom := (Aar [16, 18])) (rs := [.tmp 6]) mixed htt (Aad (Aal (Baq N))) (Aaf rfl) Tryz.func76 rfl rfl (by kernel_rfl) (Aag (l := [(16, sub Al3 [1, 0, 1, 0, 1]), (18, sub Al3 [1, 1])]) (by kernel_rfl) ⟨⟨_, rfl, Bq1 N⟩, ⟨_, rfl, Bq2 N⟩, trivial⟩) (by decide) (by decide) (by decide) (fun R x C => B6b @Adw @Ad4 N R x C), Tryz.f76, Tryz.func76, rfl, by decide⟩
theorem Bmb (N : Nat) : Ac7 Tryz.prog (B4v N) := trivial
theorem Bu1 (N : Nat) : Aeh Tryz.prog 14 [] (sub An2 [1, 0, 0, 0]) (Aaa Ai9 (A39 N N)) :=
 Adt (c := sub An2 [1, 0, 0, 0]) (dom := (Aar [3])) mixed htt (Aad (Aal (Bmb N))) (Aaf rfl) (by kernel_rfl) (Aag (l := []) (by kernel_rfl) trivial) Bfy (B := (fun _ _ _ => none)) (Aeh.none _ _ _ _) (fun _ _ _ => rfl) (fun R k x K => Bym @Aer N R (fun a0 a1 => Aer N k a0 a1 (fun a => K (.exit 0) (Aab Arz ((a, ()), (()))))) x K) N
theorem Bu2 (N : Nat) : Aaz Tryz.prog 14 [] (sub An2 [1, 0, 0]) (Aaa Ai9 (A39 N N)) := (Bu1 N).frag
theorem B1u (N : Nat) : Abi Tryz.prog 77 (Blj N) :=
 ⟨Abe (fn := Tryz.f77) (c := An2) (dom := (Aar [3])) (rs := [.tmp 4]) mixed htt (Aad (Aal (Bmb N))) (Aaf rfl) Tryz.func77 rfl rfl (by kernel_rfl) (Aag (l := [(3, sub An2 [1, 0, 0])]) (by kernel_rfl) ⟨⟨_, rfl, Bu2 N⟩, trivial⟩) (by decide) (by decide) (by decide) (fun R x C => B54 @Aer N R x C), Tryz.f77, Tryz.func77, rfl, by decide⟩
theorem Bgq (N : Nat) : Ac7 Tryz.prog (Bxk N) := ⟨Bjj N, Bgp N, B6l N, B1t N, Bjl N, B1u N, Bl9 N, trivial⟩
theorem Bmm (N : Nat) : Aeh Tryz.prog 114 [] (sub Alt [1, 1, 1, 1, 0, 1, 0, 0]) (Aaa Ag5 (Axo N N)) :=
 Adt (c := sub Alt [1, 1, 1, 1, 0, 1, 0, 0]) (dom := (Aar [11])) mixed htt (Aad (Aal (Bgq N))) (Aaf rfl) (by kernel_rfl) (Aag (l := []) (by kernel_rfl) trivial) A7p (B := (fun _ _ _ => none)) (Aeh.none _ _ _ _) (fun _ _ _ => rfl) (fun R k x K => Bou @Acb @Abo @Afm @Ae9 @Abv @Adj @Abn @Ada N R (fun a0 a1 a2 a3 a4 a5 a6 a7 a8 a9 a10 a11 => Ada N k a0 a1 a2 a3 a4 a5 a6 a7 a8 a9 a10 a11 (fun a => K .ret (Aab Aoe ((a, ()), (())))) (K (.exit 0) (Aab Aof ((()), (()))))) x K) N
theorem Bmn (N : Nat) : Aaz Tryz.prog 114 [] (sub Alt [1, 1, 1, 1, 0, 1, 0]) (Aaa Ag5 (Axo N N)) := (Bmm N).frag
theorem Bu3 (N : Nat) : Abi Tryz.prog 48 (Bf1 N) :=
 ⟨Abe (fn := Tryz.f48) (c := Alt) (dom := (Aar [11])) (rs := [.tmp 2]) mixed htt (Aad (Aal (Bgq N))) (Aaf rfl) Tryz.func48 rfl rfl (by kernel_rfl) (Aag (l := [(11, sub Alt [1, 1, 1, 1, 0, 1, 0])]) (by kernel_rfl) ⟨⟨_, rfl, Bmn N⟩, trivial⟩) (by decide) (by decide) (by decide) (fun R x C => Byj @Acb @Abo @Afm @Ae9 @Abv @Adj @Abn @Ada N R x C), Tryz.f48, Tryz.func48, rfl, by decide⟩
theorem B6m (N : Nat) : Ac7 Tryz.prog (B4x N) := ⟨B1n N, B1s N, Bu3 N, trivial⟩
theorem B1v (N : Nat) : Abi Tryz.prog 25 (Blk N) :=
 ⟨Abe (fn := Tryz.f25) (c := Bk7) (dom := (Aar [])) (rs := [.tmp 2]) mixed htt (Aad (Aal (B6m N))) (Aaf rfl) Tryz.func25 rfl rfl (by kernel_rfl) (Aag (l := []) (by kernel_rfl) trivial) (by decide) (by decide) (by decide) (fun R x C => B5y @Aiu @Aiv @Ag0 N R x C), Tryz.f25, Tryz.func25, rfl, by decide⟩
theorem Bsj (N : Nat) : Ac7 Tryz.prog (Cax N) := trivial
theorem B1w (N : Nat) : Aaz Tryz.prog 37 [] (sub Az6 [1, 0, 1, 0, 1]) (Aaa An4 (Blm N)) :=
 Ade (dom := (Aar [8])) mixed htt (Aad (Aal (Bsj N))) (Aaf rfl) (by kernel_rfl) (Aag (l := []) (by kernel_rfl) trivial) Bll (fun R x K => B6f @Agu N R x K)
theorem B90 (N : Nat) : Abi Tryz.prog 13 (Bsd N) :=
 ⟨Abe (fn := Tryz.f13) (c := Az6) (dom := (Aar [8])) (rs := [.tmp 4]) mixed htt (Aad (Aal (Bsj N))) (Aaf rfl) Tryz.func13 rfl rfl (by kernel_rfl) (Aag (l := [(8, sub Az6 [1, 0, 1, 0, 1])]) (by kernel_rfl) ⟨⟨_, rfl, B1w N⟩, trivial⟩) (by decide) (by decide) (by decide) (fun R x C => Cbb @Agu N R x C), Tryz.f13, Tryz.func13, rfl, by decide⟩
theorem B1x (N : Nat) : Ac7 Tryz.prog (B0j N) := ⟨B90 N, trivial⟩
theorem Byr (N : Nat) : Abi Tryz.prog 12 (Bir N) :=
 ⟨Abe (fn := Tryz.f12) (c := Biq) (dom := (Aar [])) (rs := [.tmp 3]) mixed htt (Aad (Aal (B1x N))) (Aaf rfl) Tryz.func12 rfl rfl (by kernel_rfl) (Aag (l := []) (by kernel_rfl) trivial) (by decide) (by decide) (by decide) (fun R x C => B1f @Ala N R x C), Tryz.f12, Tryz.func12, rfl, by decide⟩
theorem B1y (N : Nat) : Ac7 Tryz.prog (Biu N) := trivial
theorem Bys (N : Nat) : Abi Tryz.prog 10 (Bit N) :=
 ⟨Abe (fn := Tryz.f10) (c := Bis) (dom := (Aar [])) (rs := [.tmp 3]) mixed htt (Aad (Aal (B1y N))) (Aaf rfl) Tryz.func10 rfl rfl (by kernel_rfl) (Aag (l := []) (by kernel_rfl) trivial) (by decide) (by decide) (by decide) (fun R x C => B1j N R x C), Tryz.f10, Tryz.func10, rfl, by decide⟩
theorem Bex (N : Nat) : Ac7 Tryz.prog (B9o N) := ⟨B1v N, Byr N, Bys N, trivial⟩
theorem Bu4 (N : Nat) : Aeh Tryz.prog 123 [] (sub Aim [1, 1, 1, 1, 1, 1, 0, 1, 0, 0]) (Aaa Ahw (A4g N N)) :=
 Adt (c := sub Aim [1, 1, 1, 1, 1, 1, 0, 1, 0, 0]) (dom := (Aar [11, 35])) mixed htt (Aad (Aal (Bex N))) (Aaf rfl) (by kernel_rfl) (Aag (l := []) (by kernel_rfl) trivial) Bf2 (B := (fun _ _ _ => none)) (Aeh.none _ _ _ _) (fun _ _ _ => rfl) (fun R k x K => Byg @Afa @Adn @Ae1 @Adp @Adr N R (fun a0 a1 a2 a3 a4 a5 a6 a7 a8 a9 a10 a11 a12 => Adr N k a0 a1 a2 a3 a4 a5 a6 a7 a8 a9 a10 a11 a12 (fun a b d e f g h => K .ret (Aab Ar1 ((a, b, ()), ((d, e, f, g, h, ()), ())))) (fun a b d e f => K (.exit 3) (Aab Ar2 ((()), ((a, b, d, e, f, ()), ()))))) x K) N
theorem Bu5 (N : Nat) : Aaz Tryz.prog 123 [] (sub Aim [1, 1, 1, 1, 1, 1, 0, 1, 0]) (Aaa Ahw (A4g N N)) := (Bu4 N).frag
theorem Bu6 (N : Nat) : Aeh Tryz.prog 123 [] (sub Aim [1, 1, 1, 0, 1, 0, 0]) (Aaa Ahu (A3o N N)) :=
 Adt (c := sub Aim [1, 1, 1, 0, 1, 0, 0]) (dom := (Aar [11, 35])) mixed htt (Aad (Aal (Bex N))) (Aaf rfl) (by kernel_rfl) (Aag (l := []) (by kernel_rfl) trivial) Bfl (B := (fun _ _ _ => none)) (Aeh.none _ _ _ _) (fun _ _ _ => rfl) (fun R k x K => Byf @Afa @Adn @Ae1 @Adp @Adr N R (fun a0 a1 a2 a3 a4 a5 a6 a7 a8 a9 a10 a11 a12 a13 a14 a15 a16 a17 => Adp N k a0 a1 a2 a3 a4 a5 a6 a7 a8 a9 a10 a11 a12 a13 a14 a15 a16 a17 (fun a b d e f g h i j m n o p q r s => K (.exit 0) (Aab Ars (((), (), (), (), ()), ((a, b, d, e, f, ()), (g, h, i, j, m, ()), (n, o, (), p, q, r, ()), s, ()))))) x K) N
theorem Bu7 (N : Nat) : Aaz Tryz.prog 123 [] (sub Aim [1, 1, 1, 0, 1, 0]) (Aaa Ahu (A3o N N)) := (Bu6 N).frag
theorem B6n (N : Nat) : Abi Tryz.prog 11 (Boe N) :=
 ⟨Abe (fn := Tryz.f11) (c := Aim) (dom := (Aar [11, 35])) (rs := [.tmp 6, .tmp 7]) mixed htt (Aad (Aal (Bex N))) (Aaf rfl) Tryz.func11 rfl rfl (by kernel_rfl) (Aag (l := [(11, sub Aim [1, 1, 1, 0, 1, 0]), (35, sub Aim [1, 1, 1, 1, 1, 1, 0, 1, 0])]) (by kernel_rfl) ⟨⟨_, rfl, Bu7 N⟩, ⟨_, rfl, Bu5 N⟩, trivial⟩) (by decide) (by decide) (by decide) (fun R x C => B9t @Afa @Adn @Ae1 @Adp @Adr N R x C), Tryz.f11, Tryz.func11, rfl, by decide⟩
theorem A65 (N : Nat) : Ac7 Tryz.prog (Caz N) := trivial
theorem Byt (N : Nat) : Aaz Tryz.prog 57 [] (sub Aks [1, 0, 1, 0, 1, 1, 1, 1, 1, 1, 1]) (Aaa Aj9 (Biw N)) :=
 Ade (dom := (Aar [24, 18, 12])) mixed htt (Aad (Aal (A65 N))) (Aaf rfl) (by kernel_rfl) (Aag (l := []) (by kernel_rfl) trivial) Biv (fun R x K => B1d @Adz @Ad8 @Ad9 N R x K)
theorem Byu (N : Nat) : Aaz Tryz.prog 57 [] (sub Aks [1, 0, 1, 0, 1, 1, 1, 1, 1]) (Aaa Aka (Biy N)) :=
 Ade (dom := (Aar [24, 18, 12])) mixed htt (Aad (Aal (A65 N))) (Aaf rfl) (by kernel_rfl) (Aag (l := [(24, sub Aks [1, 0, 1, 0, 1, 1, 1, 1, 1, 1, 1])]) (by kernel_rfl) ⟨⟨_, rfl, Byt N⟩, trivial⟩) Bix (fun R x K => B1b @Adz @Ad8 @Ad9 N R x K)
theorem Byv (N : Nat) : Aaz Tryz.prog 57 [] (sub Aks [1, 0, 1, 0, 1, 1, 1]) (Aaa Akb (Bi0 N)) :=
 Ade (dom := (Aar [24, 18, 12])) mixed htt (Aad (Aal (A65 N))) (Aaf rfl) (by kernel_rfl) (Aag (l := [(18, sub Aks [1, 0, 1, 0, 1, 1, 1, 1, 1])]) (by kernel_rfl) ⟨⟨_, rfl, Byu N⟩, trivial⟩) Biz (fun R x K => B1c @Adz @Ad8 @Ad9 N R x K)
theorem B91 (N : Nat) : Abi Tryz.prog 49 (Bse N) :=
 ⟨Abe (fn := Tryz.f49) (c := Aks) (dom := (Aar [24, 18, 12])) (rs := [.tmp 6]) mixed htt (Aad (Aal (A65 N))) (Aaf rfl) Tryz.func49 rfl rfl (by kernel_rfl) (Aag (l := [(12, sub Aks [1, 0, 1, 0, 1, 1, 1])]) (by kernel_rfl) ⟨⟨_, rfl, Byv N⟩, trivial⟩) (by decide) (by decide) (by decide) (fun R x C => Ca8 @Adz @Ad8 @Ad9 N R x C), Tryz.f49, Tryz.func49, rfl, by decide⟩
theorem Bsk (N : Nat) : Ac7 Tryz.prog (Ca1 N) := ⟨B91 N, trivial⟩
theorem B1z (N : Nat) : Aaz Tryz.prog 19 [] (sub Az8 [1, 1]) (Aaa An5 (Blo N)) :=
 Ade (dom := (Aar [6])) mixed htt (Aad (Aal (Bsk N))) (Aaf rfl) (by kernel_rfl) (Aag (l := []) (by kernel_rfl) trivial) Bln (fun R x K => B6d @Ai2 @Agv N R x K)
theorem B92 (N : Nat) : Abi Tryz.prog 27 (Bsf N) :=
 ⟨Abe (fn := Tryz.f27) (c := Az8) (dom := (Aar [6])) (rs := [.tmp 6]) mixed htt (Aad (Aal (Bsk N))) (Aaf rfl) Tryz.func27 rfl rfl (by kernel_rfl) (Aag (l := [(6, sub Az8 [1, 1])]) (by kernel_rfl) ⟨⟨_, rfl, B1z N⟩, trivial⟩) (by decide) (by decide) (by decide) (fun R x C => Ca9 @Ai2 @Agv N R x C), Tryz.f27, Tryz.func27, rfl, by decide⟩
theorem Byw (N : Nat) : Ac7 Tryz.prog (Bf6 N) := trivial
theorem Bu8 (N : Nat) : Abi Tryz.prog 28 (Bf5 N) :=
 ⟨Abe (fn := Tryz.f28) (c := Bf4) (dom := (Aar [])) (rs := [.tmp 2]) mixed htt (Aad (Aal (Byw N))) (Aaf rfl) Tryz.func28 rfl rfl (by kernel_rfl) (Aag (l := []) (by kernel_rfl) trivial) (by decide) (by decide) (by decide) (fun R x C => Bye N R x C), Tryz.f28, Tryz.func28, rfl, by decide⟩
theorem B6o (N : Nat) : Ac7 Tryz.prog (Blr N) := trivial
theorem B10 (N : Nat) : Abi Tryz.prog 26 (Blq N) :=
 ⟨Abe (fn := Tryz.f26) (c := Blp) (dom := (Aar [])) (rs := [.tmp 3]) mixed htt (Aad (Aal (B6o N))) (Aaf rfl) Tryz.func26 rfl rfl (by kernel_rfl) (Aag (l := []) (by kernel_rfl) trivial) (by decide) (by decide) (by decide) (fun R x C => B55 N R x C), Tryz.f26, Tryz.func26, rfl, by decide⟩
theorem Az9 (N : Nat) : Ac7 Tryz.prog (Ca3 N) := ⟨B92 N, Bu8 N, B10 N, trivial⟩
theorem Byx (N : Nat) : Aaz Tryz.prog 216 [] (sub Ahx [1, 1, 1, 1, 1, 0, 1, 0, 1, 1, 1, 1, 1, 1, 1, 1, 1, 1, 1, 1, 1, 1, 1, 1, 1, 1, 1, 1, 1]) (Aaa Aiw (Bi2 N)) :=
 Ade (dom := (Aar [62, 40, 18, 64])) mixed htt (Aad (Aal (Az9 N))) (Aaf rfl) (by kernel_rfl) (Aag (l := []) (by kernel_rfl) trivial) Bi1 (fun R x K => B07 @Aeo @Abb @Acg @Adf @Adg @Acq @Acr N R x K)
theorem Byy (N : Nat) : Aaz Tryz.prog 216 [] (sub Ahx [1, 1, 1, 1, 1, 0, 1, 0, 1, 1, 1, 1, 1, 1, 1, 1, 1, 1, 1]) (Aaa Aix (Bi4 N)) :=
 Ade (dom := (Aar [62, 40, 18, 64])) mixed htt (Aad (Aal (Az9 N))) (Aaf rfl) (by kernel_rfl) (Aag (l := [(62, sub Ahx [1, 1, 1, 1, 1, 0, 1, 0, 1, 1, 1, 1, 1, 1, 1, 1, 1, 1, 1, 1, 1, 1, 1, 1, 1, 1, 1, 1, 1])]) (by kernel_rfl) ⟨⟨_, rfl, Byx N⟩, trivial⟩) Bi3 (fun R x K => B1i @Aeo @Abb @Acg @Adf @Adg @Acq @Acr N R x K)
theorem Byz (N : Nat) : Aaz Tryz.prog 216 [] (sub Ahx [1, 1, 1, 1, 1, 0, 1, 0, 1]) (Aaa Aiy (Bi6 N)) :=
 Ade (dom := (Aar [62, 40, 18, 64])) mixed htt (Aad (Aal (Az9 N))) (Aaf rfl) (by kernel_rfl) (Aag (l := [(40, sub Ahx [1, 1, 1, 1, 1, 0, 1, 0, 1, 1, 1, 1, 1, 1, 1, 1, 1, 1, 1])]) (by kernel_rfl) ⟨⟨_, rfl, Byy N⟩, trivial⟩) Bi5 (fun R x K => B06 @Aeo @Abb @Acg @Adf @Adg @Acq @Acr N R x K)
theorem By0 (N : Nat) : Aaz Tryz.prog 216 [] (sub Ahx [1, 1, 1, 1, 1, 1]) (Aaa Aiz (Bi8 N)) :=
 Ade (dom := (Aar [62, 40, 18, 64])) mixed htt (Aad (Aal (Az9 N))) (Aaf rfl) (by kernel_rfl) (Aag (l := []) (by kernel_rfl) trivial) Bi7 (fun R x K => B08 @Aeo @Abb @Acg @Adf @Adg @Acq @Acr N R x K)
theorem B93 (N : Nat) : Abi Tryz.prog 14 (Bsg N) :=
 ⟨Abe (fn := Tryz.f14) (c := Ahx) (dom := (Aar [62, 40, 18, 64])) (rs := [.tmp 4]) mixed htt (Aad (Aal (Az9 N))) (Aaf rfl) Tryz.func14 rfl rfl (by kernel_rfl) (Aag (l := [(18, sub Ahx [1, 1, 1, 1, 1, 0, 1, 0, 1]), (64, sub Ahx [1, 1, 1, 1, 1, 1])]) (by kernel_rfl) ⟨⟨_, rfl, Byz N⟩, ⟨_, rfl, By0 N⟩, trivial⟩) (by decide) (by decide) (by decide) (fun R x C => Ca6 @Aeo @Abb @Acg @Adf @Adg @Acq @Acr N R x C), Tryz.f14, Tryz.func14, rfl, by decide⟩
theorem B11 (N : Nat) : Ac7 Tryz.prog (Bjb N) := trivial
theorem By1 (N : Nat) : Abi Tryz.prog 16 (Bja N) :=
 ⟨Abe (fn := Tryz.f16) (c := Bi9) (dom := (Aar [])) (rs := [.tmp 2]) mixed htt (Aad (Aal (B11 N))) (Aaf rfl) Tryz.func16 rfl rfl (by kernel_rfl) (Aag (l := []) (by kernel_rfl) trivial) (by decide) (by decide) (by decide) (fun R x C => B1g N R x C), Tryz.f16, Tryz.func16, rfl, by decide⟩
theorem A5i (N : Nat) : Ac7 Tryz.prog (Bxp N) := ⟨By1 N, trivial⟩
theorem Bmo (N : Nat) : Aeh Tryz.prog 77 [] (sub Agh [1, 0, 1, 0, 0, 1, 0, 0, 1, 0, 1, 0, 1, 0, 1, 0, 0]) (Aaa Af4 (Axq N N)) :=
 Adt (c := sub Agh [1, 0, 1, 0, 0, 1, 0, 0, 1, 0, 1, 0, 1, 0, 1, 0, 0]) (dom := (Aar [17, 5])) mixed htt (Aad (Aal (A5i N))) (Aaf rfl) (by kernel_rfl) (Aag (l := []) (by kernel_rfl) trivial) A7q (B := (fun _ _ _ => none)) (Aeh.none _ _ _ _) (fun _ _ _ => rfl) (fun R k x K => Boy @Ae2 @Ach @Acs N R (fun a0 a1 a2 a3 a4 a5 a6 => Ach N k a0 a1 a2 a3 a4 a5 a6 (fun a => K .ret (Aab Aog ((a, ()), (())))) (fun a b d e f => K (.exit 3) (Aab Aoh ((a, b, d, (), e, f, ()), (()))))) x K) N
theorem Bmp (N : Nat) : Aaz Tryz.prog 77 [] (sub Agh [1, 0, 1, 0, 0, 1, 0, 0, 1, 0, 1, 0, 1, 0, 1, 0]) (Aaa Af4 (Axq N N)) := (Bmo N).frag
theorem Bpa (N : Nat) : Aeh Tryz.prog 77 [] (sub Agh [1, 0, 1, 0, 0]) (Aaa Agw (Azu N N)) :=
 Adt (c := sub Agh [1, 0, 1, 0, 0]) (dom := (Aar [17, 5])) mixed htt (Aad (Aal (A5i N))) (Aaf rfl) (by kernel_rfl) (Aag (l := [(17, sub Agh [1, 0, 1, 0, 0, 1, 0, 0, 1, 0, 1, 0, 1, 0, 1, 0])]) (by kernel_rfl) ⟨⟨_, rfl, Bmp N⟩, trivial⟩) Baw (B := (fun _ _ _ => none)) (Aeh.none _ _ _ _) (fun _ _ _ => rfl) (fun R k x K => Bqh @Ae2 @Ach @Acs N R (fun a0 a1 a2 a3 => Acs N k a0 a1 a2 a3 (fun a => K .ret (Aab Apj ((a, ()), (())))) (K (.exit 0) (Aab Apk ((()), (()))))) x K) N
theorem Bpb (N : Nat) : Aaz Tryz.prog 77 [] (sub Agh [1, 0, 1, 0]) (Aaa Agw (Azu N N)) := (Bpa N).frag
theorem Bu9 (N : Nat) : Abi Tryz.prog 15 (Bf9 N) :=
 ⟨Abe (fn := Tryz.f15) (c := Agh) (dom := (Aar [17, 5])) (rs := [.tmp 8]) mixed htt (Aad (Aal (A5i N))) (Aaf rfl) Tryz.func15 rfl rfl (by kernel_rfl) (Aag (l := [(5, sub Agh [1, 0, 1, 0])]) (by kernel_rfl) ⟨⟨_, rfl, Bpb N⟩, trivial⟩) (by decide) (by decide) (by decide) (fun R x C => Bya @Ae2 @Ach @Acs N R x C), Tryz.f15, Tryz.func15, rfl, by decide⟩
theorem Bpc (N : Nat) : Ac7 Tryz.prog (B9q N) := ⟨B6n N, B93 N, Bu9 N, trivial⟩
theorem Bva (N : Nat) : Aeh Tryz.prog 35 [] (sub Aoy [1, 1, 1, 1, 0, 1, 0, 0]) (Aaa Aja (A4l N N)) :=
 Adt (c := sub Aoy [1, 1, 1, 1, 0, 1, 0, 0]) (dom := (Aar [13])) mixed htt (Aad (Aal (Bpc N))) (Aaf rfl) (by kernel_rfl) (Aag (l := []) (by kernel_rfl) trivial) Bf7 (B := (fun _ _ _ => none)) (Aeh.none _ _ _ _) (fun _ _ _ => rfl) (fun R k x K => Bx6 @Ahm @Ai3 @Aes @Ael N R (fun a0 a1 a2 a3 a4 a5 a6 a7 => Ael N k a0 a1 a2 a3 a4 a5 a6 a7 (fun a => K .ret (Aab Ar4 ((a, ()), (())))) (fun a b d e f g => K (.exit 0) (Aab Ar5 (((), a, ()), ((b, d, e, f, g, ()), ()))))) x K) N
theorem Bvb (N : Nat) : Aaz Tryz.prog 35 [] (sub Aoy [1, 1, 1, 1, 0, 1, 0]) (Aaa Aja (A4l N N)) := (Bva N).frag
theorem B6p (N : Nat) : Abi Tryz.prog 6 (Bog N) :=
 ⟨Abe (fn := Tryz.f6) (c := Aoy) (dom := (Aar [13])) (rs := [.tmp 2]) mixed htt (Aad (Aal (Bpc N))) (Aaf rfl) Tryz.func6 rfl rfl (by kernel_rfl) (Aag (l := [(13, sub Aoy [1, 1, 1, 1, 0, 1, 0])]) (by kernel_rfl) ⟨⟨_, rfl, Bvb N⟩, trivial⟩) (by decide) (by decide) (by decide) (fun R x C => B9y @Ahm @Ai3 @Aes @Ael N R x C), Tryz.f6, Tryz.func6, rfl, by decide⟩
theorem Bgr (N : Nat) : Ac7 Tryz.prog (Bxr N) := trivial
theorem Bmq (N : Nat) : Aeh Tryz.prog 60 [] (sub Alu [1, 1, 1, 0, 1, 0, 0]) (Aaa Ag6 (Axu N N)) :=
 Adt (c := sub Alu [1, 1, 1, 0, 1, 0, 0]) (dom := (Aar [11])) mixed htt (Aad (Aal (Bgr N))) (Aaf rfl) (by kernel_rfl) (Aag (l := []) (by kernel_rfl) trivial) A7s (B := (fun _ _ _ => none)) (Aeh.none _ _ _ _) (fun _ _ _ => rfl) (fun R k x K => Bo6 @Adc N R (fun a0 a1 a2 a3 a4 a5 a6 a7 => Adc N k a0 a1 a2 a3 a4 a5 a6 a7 (fun a => K (.exit 0) (Aab Aoi ((a, ()), (()))))) x K) N
theorem Bmr (N : Nat) : Aaz Tryz.prog 60 [] (sub Alu [1, 1, 1, 0, 1, 0]) (Aaa Ag6 (Axu N N)) := (Bmq N).frag
theorem Bvc (N : Nat) : Abi Tryz.prog 50 (Bga N) :=
 ⟨Abe (fn := Tryz.f50) (c := Alu) (dom := (Aar [11])) (rs := [.tmp 2]) mixed htt (Aad (Aal (Bgr N))) (Aaf rfl) Tryz.func50 rfl rfl (by kernel_rfl) (Aag (l := [(11, sub Alu [1, 1, 1, 0, 1, 0])]) (by kernel_rfl) ⟨⟨_, rfl, Bmr N⟩, trivial⟩) (by decide) (by decide) (by decide) (fun R x C => Byn @Adc N R x C), Tryz.f50, Tryz.func50, rfl, by decide⟩
theorem Bmc (N : Nat) : Ac7 Tryz.prog (B44 N) := trivial
theorem Bvd (N : Nat) : Aeh Tryz.prog 60 [] (sub An8 [1, 1, 0, 1, 0, 0]) (Aaa Ajb (A4u N N)) :=
 Adt (c := sub An8 [1, 1, 0, 1, 0, 0]) (dom := (Aar [7])) mixed htt (Aad (Aal (Bmc N))) (Aaf rfl) (by kernel_rfl) (Aag (l := []) (by kernel_rfl) trivial) Bgb (B := (fun _ _ _ => none)) (Aeh.none _ _ _ _) (fun _ _ _ => rfl) (fun R k x K => Byl @Aed N R (fun a0 a1 a2 => Aed N k a0 a1 a2 (fun a b => K .ret (Aab Ar9 ((a, b, ()), (())))) (fun a b => K (.exit 0) (Aab Asa ((a, b, ()), (()))))) x K) N
theorem Bve (N : Nat) : Aaz Tryz.prog 60 [] (sub An8 [1, 1, 0, 1, 0]) (Aaa Ajb (A4u N N)) := (Bvd N).frag
theorem B12 (N : Nat) : Abi Tryz.prog 79 (Bls N) :=
 ⟨Abe (fn := Tryz.f79) (c := An8) (dom := (Aar [7])) (rs := [.tmp 2, .tmp 3]) mixed htt (Aad (Aal (Bmc N))) (Aaf rfl) Tryz.func79 rfl rfl (by kernel_rfl) (Aag (l := [(7, sub An8 [1, 1, 0, 1, 0])]) (by kernel_rfl) ⟨⟨_, rfl, Bve N⟩, trivial⟩) (by decide) (by decide) (by decide) (fun R x C => B53 @Aed N R x C), Tryz.f79, Tryz.func79, rfl, by decide⟩
theorem Cer (N : Nat) : Ac7 Tryz.prog (Bxt N) := trivial
theorem A66 (N : Nat) : Abi Tryz.prog 80 (A4w N) :=
 ⟨Abe (fn := Tryz.f80) (c := Bxs) (dom := (Aar [])) (rs := [.tmp 6]) mixed htt (Aad (Aal (Cer N))) (Aaf rfl) Tryz.func80 rfl rfl (by kernel_rfl) (Aag (l := []) (by kernel_rfl) trivial) (by decide) (by decide) (by decide) (fun R x C => Ceo N R x C), Tryz.f80, Tryz.func80, rfl, by decide⟩
theorem Au6 (N : Nat) : Ac7 Tryz.prog (B46 N) := ⟨B12 N, A66 N, trivial⟩
theorem Bq3 (N : Nat) : Aeh Tryz.prog 110 [] (sub Adi [1, 1, 0, 1, 0, 0, 1, 0, 0, 1, 1, 1, 0, 0]) (Aaa Afv (A18 N N)) :=
 Adt (c := sub Adi [1, 1, 0, 1, 0, 0, 1, 0, 0, 1, 1, 1, 0, 0]) (dom := (Aar [25, 5, 47, 35])) mixed htt (Aad (Aal (Au6 N))) (Aaf rfl) (by kernel_rfl) (Aag (l := []) (by kernel_rfl) trivial) Bdp (B := (fun _ _ _ => none)) (Aeh.none _ _ _ _) (fun _ _ _ => rfl) (fun R k x K => Bty @Aci @Aam @Abx @Ab2 @Aby @Abj N R (fun a0 a1 a2 a3 a4 a5 a6 a7 a8 a9 => Aby N k a0 a1 a2 a3 a4 a5 a6 a7 a8 a9 (fun a => K .ret (Aab Aq3 ((a, ()), (())))) (fun a b d e f g h => K (.exit 6) (Aab Aq4 (((), a, ()), ((b, d, e, f, g, h, ()), ()))))) x K) N
theorem Bq4 (N : Nat) : Aaz Tryz.prog 110 [] (sub Adi [1, 1, 0, 1, 0, 0, 1, 0, 0, 1, 1, 1, 0]) (Aaa Afv (A18 N N)) := (Bq3 N).frag
theorem Bq5 (N : Nat) : Aeh Tryz.prog 110 [] (sub Adi [1, 0, 1, 0, 0, 1, 0, 0, 1, 1, 1, 1, 0, 0]) (Aaa Afu (A16 N N)) :=
 Adt (c := sub Adi [1, 0, 1, 0, 0, 1, 0, 0, 1, 1, 1, 1, 0, 0]) (dom := (Aar [25, 5, 47, 35])) mixed htt (Aad (Aal (Au6 N))) (Aaf rfl) (by kernel_rfl) (Aag (l := []) (by kernel_rfl) trivial) Bdn (B := (fun _ _ _ => none)) (Aeh.none _ _ _ _) (fun _ _ _ => rfl) (fun R k x K => Btw @Aci @Aam @Abx @Ab2 @Aby @Abj N R (fun a0 a1 a2 a3 a4 a5 a6 a7 a8 a9 a10 => Abx N k a0 a1 a2 a3 a4 a5 a6 a7 a8 a9 a10 (fun a => K .ret (Aab Aq1 ((a, ()), (())))) (fun a b d e f g h => K (.exit 2) (Aab Aq2 (((), a, ()), ((b, d, e, f, g, h, ()), ()))))) x K) N
theorem Bq6 (N : Nat) : Aaz Tryz.prog 110 [] (sub Adi [1, 0, 1, 0, 0, 1, 0, 0, 1, 1, 1, 1, 0]) (Aaa Afu (A16 N N)) := (Bq5 N).frag
theorem Bq7 (N : Nat) : Aeh Tryz.prog 110 [] (sub Adi [1, 1, 0, 1, 0, 0]) (Aaa Afw (A2a N N)) :=
 Adt (c := sub Adi [1, 1, 0, 1, 0, 0]) (dom := (Aar [25, 5, 47, 35])) mixed htt (Aad (Aal (Au6 N))) (Aaf rfl) (by kernel_rfl) (Aag (l := [(47, sub Adi [1, 1, 0, 1, 0, 0, 1, 0, 0, 1, 1, 1, 0])]) (by kernel_rfl) ⟨⟨_, rfl, Bq4 N⟩, trivial⟩) Bdr (B := (fun _ _ _ => none)) (Aeh.none _ _ _ _) (fun _ _ _ => rfl) (fun R k x K => Bt0 @Aci @Aam @Abx @Ab2 @Aby @Abj N R (fun a0 a1 a2 a3 a4 a5 a6 => Abj N k a0 a1 a2 a3 a4 a5 a6 (fun a => K .ret (Aab Aq5 ((a, ()), (())))) (fun a b d e f g => K (.exit 4) (Aab Aq6 (((), ()), ((a, b, d, e, f, g, ()), ()))))) x K) N
theorem Bq8 (N : Nat) : Aaz Tryz.prog 110 [] (sub Adi [1, 1, 0, 1, 0]) (Aaa Afw (A2a N N)) := (Bq7 N).frag
theorem Bvf (N : Nat) : Aeh Tryz.prog 110 [] (sub Adi [1, 0, 1, 0, 0]) (Aaa Agi (A4y N N)) :=
 Adt (c := sub Adi [1, 0, 1, 0, 0]) (dom := (Aar [25, 5, 47, 35])) mixed htt (Aad (Aal (Au6 N))) (Aaf rfl) (by kernel_rfl) (Aag (l := [(25, sub Adi [1, 0, 1, 0, 0, 1, 0, 0, 1, 1, 1, 1, 0])]) (by kernel_rfl) ⟨⟨_, rfl, Bq6 N⟩, trivial⟩) Bgd (B := (fun _ _ _ => none)) (Aeh.none _ _ _ _) (fun _ _ _ => rfl) (fun R k x K => Byh @Aci @Aam @Abx @Ab2 @Aby @Abj N R (fun a0 a1 a2 a3 a4 a5 a6 => Ab2 N k a0 a1 a2 a3 a4 a5 a6 (fun a => K .ret (Aab Asb ((a, ()), (())))) (fun a b d e f g => K (.exit 0) (Aab Asc (((), ()), ((a, b, d, e, f, g, ()), ()))))) x K) N
theorem Bvg (N : Nat) : Aaz Tryz.prog 110 [] (sub Adi [1, 0, 1, 0]) (Aaa Agi (A4y N N)) := (Bvf N).frag
theorem B13 (N : Nat) : Abi Tryz.prog 51 (Blt N) :=
 ⟨Abe (fn := Tryz.f51) (c := Adi) (dom := (Aar [25, 5, 47, 35])) (rs := [.tmp 2]) mixed htt (Aad (Aal (Au6 N))) (Aaf rfl) Tryz.func51 rfl rfl (by kernel_rfl) (Aag (l := [(5, sub Adi [1, 0, 1, 0]), (35, sub Adi [1, 1, 0, 1, 0])]) (by kernel_rfl) ⟨⟨_, rfl, Bvg N⟩, ⟨_, rfl, Bq8 N⟩, trivial⟩) (by decide) (by decide) (by decide) (fun R x C => B5v @Aci @Aam @Abx @Ab2 @Aby @Abj N R x C), Tryz.f51, Tryz.func51, rfl, by decide⟩
theorem Anu (N : Nat) : Ac7 Tryz.prog (Bxv N) := ⟨A66 N, trivial⟩
theorem Bms (N : Nat) : Aaz Tryz.prog 138 [] (sub Ad1 [1, 1, 1, 0, 1, 0, 1, 1, 1, 1, 1, 1, 1, 1, 1, 1, 1, 1, 1, 1, 1]) (Aaa Afd (A7v N)) :=
 Ade (dom := (Aar [68, 44, 36, 28, 82])) mixed htt (Aad (Aal (Anu N))) (Aaf rfl) (by kernel_rfl) (Aag (l := []) (by kernel_rfl) trivial) A7u (fun R x K => Bov @Aam @Aa2 @Aa7 @Aa8 @Aao @Aan N R x K)
theorem Bmt (N : Nat) : Aaz Tryz.prog 138 [] (sub Ad1 [1, 1, 1, 0, 1, 0, 1, 1, 1, 1, 1, 1, 1]) (Aaa Afe (A7x N)) :=
 Ade (dom := (Aar [68, 44, 36, 28, 82])) mixed htt (Aad (Aal (Anu N))) (Aaf rfl) (by kernel_rfl) (Aag (l := [(68, sub Ad1 [1, 1, 1, 0, 1, 0, 1, 1, 1, 1, 1, 1, 1, 1, 1, 1, 1, 1, 1, 1, 1])]) (by kernel_rfl) ⟨⟨_, rfl, Bms N⟩, trivial⟩) A7w (fun R x K => Bow @Aam @Aa2 @Aa7 @Aa8 @Aao @Aan N R x K)
theorem Bmu (N : Nat) : Aaz Tryz.prog 138 [] (sub Ad1 [1, 1, 1, 0, 1, 0, 1, 1, 1, 1, 1]) (Aaa Aff (A7z N)) :=
 Ade (dom := (Aar [68, 44, 36, 28, 82])) mixed htt (Aad (Aal (Anu N))) (Aaf rfl) (by kernel_rfl) (Aag (l := [(44, sub Ad1 [1, 1, 1, 0, 1, 0, 1, 1, 1, 1, 1, 1, 1])]) (by kernel_rfl) ⟨⟨_, rfl, Bmt N⟩, trivial⟩) A7y (fun R x K => Bo1 @Aam @Aa2 @Aa7 @Aa8 @Aao @Aan N R x K)
theorem Bmv (N : Nat) : Aaz Tryz.prog 138 [] (sub Ad1 [1, 1, 1, 0, 1, 0, 1, 1, 1]) (Aaa Afg (A71 N)) :=
 Ade (dom := (Aar [68, 44, 36, 28, 82])) mixed htt (Aad (Aal (Anu N))) (Aaf rfl) (by kernel_rfl) (Aag (l := [(36, sub Ad1 [1, 1, 1, 0, 1, 0, 1, 1, 1, 1, 1])]) (by kernel_rfl) ⟨⟨_, rfl, Bmu N⟩, trivial⟩) A70 (fun R x K => Box @Aam @Aa2 @Aa7 @Aa8 @Aao @Aan N R x K)
theorem Bmw (N : Nat) : Aaz Tryz.prog 138 [] (sub Ad1 [1, 1, 1, 1]) (Aaa Afh (A73 N)) :=
 Ade (dom := (Aar [68, 44, 36, 28, 82])) mixed htt (Aad (Aal (Anu N))) (Aaf rfl) (by kernel_rfl) (Aag (l := []) (by kernel_rfl) trivial) A72 (fun R x K => Bo4 @Aam @Aa2 @Aa7 @Aa8 @Aao @Aan N R x K)
theorem Bvh (N : Nat) : Abi Tryz.prog 52 (Bgf N) :=
 ⟨Abe (fn := Tryz.f52) (c := Ad1) (dom := (Aar [68, 44, 36, 28, 82])) (rs := [.tmp 4]) mixed htt (Aad (Aal (Anu N))) (Aaf rfl) Tryz.func52 rfl rfl (by kernel_rfl) (Aag (l := [(28, sub Ad1 [1, 1, 1, 0, 1, 0, 1, 1, 1]), (82, sub Ad1 [1, 1, 1, 1])]) (by kernel_rfl) ⟨⟨_, rfl, Bmv N⟩, ⟨_, rfl, Bmw N⟩, trivial⟩) (by decide) (by decide) (by decide) (fun R x C => Bx5 @Aam @Aa2 @Aa7 @Aa8 @Aao @Aan N R x C), Tryz.f52, Tryz.func52, rfl, by decide⟩
theorem B14 (N : Nat) : Ac7 Tryz.prog (Bjd N) := trivial
theorem Bgs (N : Nat) : Abi Tryz.prog 81 (A6j N) :=
 ⟨Abe (fn := Tryz.f81) (c := Bjc) (dom := (Aar [])) (rs := [.tmp 2]) mixed htt (Aad (Aal (B14 N))) (Aaf rfl) Tryz.func81 rfl rfl (by kernel_rfl) (Aag (l := []) (by kernel_rfl) trivial) (by decide) (by decide) (by decide) (fun R x C => B1k N R x C), Tryz.f81, Tryz.func81, rfl, by decide⟩
theorem A0q (N : Nat) : Ac7 Tryz.prog (B48 N) := ⟨Bgs N, trivial⟩
theorem Bq9 (N : Nat) : Aaz Tryz.prog 126 [] (sub Ag1 [1, 1, 0, 1, 0, 0, 1, 0, 0, 1, 1, 1, 1, 1]) (Aaa Aib (Bdw N)) :=
 Ade (dom := (Aar [44, 20, 7])) mixed htt (Aad (Aal (A0q N))) (Aaf rfl) (by kernel_rfl) (Aag (l := []) (by kernel_rfl) trivial) Bdv (fun R x K => Bt2 @Aav @Abz @Ac5 @Acu N R x K)
theorem Bra (N : Nat) : Aaz Tryz.prog 126 [] (sub Ag1 [1, 1, 0, 1, 0, 0, 1, 0, 0, 1, 1, 1]) (Aaa Aic (Bdy N)) :=
 Ade (dom := (Aar [44, 20, 7])) mixed htt (Aad (Aal (A0q N))) (Aaf rfl) (by kernel_rfl) (Aag (l := [(44, sub Ag1 [1, 1, 0, 1, 0, 0, 1, 0, 0, 1, 1, 1, 1, 1])]) (by kernel_rfl) ⟨⟨_, rfl, Bq9 N⟩, trivial⟩) Bdx (fun R x K => Bt3 @Aav @Abz @Ac5 @Acu N R x K)
theorem Bvi (N : Nat) : Aeh Tryz.prog 126 [] (sub Ag1 [1, 1, 0, 1, 0, 0]) (Aaa Ag8 (A43 N N)) :=
 Adt (c := sub Ag1 [1, 1, 0, 1, 0, 0]) (dom := (Aar [44, 20, 7])) mixed htt (Aad (Aal (A0q N))) (Aaf rfl) (by kernel_rfl) (Aag (l := [(20, sub Ag1 [1, 1, 0, 1, 0, 0, 1, 0, 0, 1, 1, 1])]) (by kernel_rfl) ⟨⟨_, rfl, Bra N⟩, trivial⟩) Bgg (B := (fun _ _ _ => none)) (Aeh.none _ _ _ _) (fun _ _ _ => rfl) (fun R k x K => Bx4 @Aav @Abz @Ac5 @Acu N R (fun a0 a1 a2 a3 a4 a5 a6 a7 a8 a9 => Acu N k a0 a1 a2 a3 a4 a5 a6 a7 a8 a9 (fun a => K .ret (Aab Ase ((a, ()), (())))) (fun a b d e f g h i j => K (.exit 0) (Aab Asf (((), a, b, d, ()), ((e, f, g, h, i, j, ()), ()))))) x K) N
theorem Bvj (N : Nat) : Aaz Tryz.prog 126 [] (sub Ag1 [1, 1, 0, 1, 0]) (Aaa Ag8 (A43 N N)) := (Bvi N).frag
theorem B15 (N : Nat) : Abi Tryz.prog 53 (Blu N) :=
 ⟨Abe (fn := Tryz.f53) (c := Ag1) (dom := (Aar [44, 20, 7])) (rs := [.tmp 2]) mixed htt (Aad (Aal (A0q N))) (Aaf rfl) Tryz.func53 rfl rfl (by kernel_rfl) (Aag (l := [(7, sub Ag1 [1, 1, 0, 1, 0])]) (by kernel_rfl) ⟨⟨_, rfl, Bvj N⟩, trivial⟩) (by decide) (by decide) (by decide) (fun R x C => B6a @Aav @Abz @Ac5 @Acu N R x C), Tryz.f53, Tryz.func53, rfl, by decide⟩
theorem Bmd (N : Nat) : Ac7 Tryz.prog (B5a N) := trivial
theorem Brb (N : Nat) : Aaz Tryz.prog 17 [] (sub Au0 [1, 0, 1, 0, 1]) (Aaa Ak3 (Bd2 N)) :=
 Ade (dom := (Aar [14])) mixed htt (Aad (Aal (Bmd N))) (Aaf rfl) (by kernel_rfl) (Aag (l := []) (by kernel_rfl) trivial) Bd1 (fun R x K => Bus @Adx N R x K)
theorem Bjm (N : Nat) : Abi Tryz.prog 82 (A90 N) :=
 ⟨Abe (fn := Tryz.f82) (c := Au0) (dom := (Aar [14])) (rs := [.tmp 2]) mixed htt (Aad (Aal (Bmd N))) (Aaf rfl) Tryz.func82 rfl rfl (by kernel_rfl) (Aag (l := [(14, sub Au0 [1, 0, 1, 0, 1])]) (by kernel_rfl) ⟨⟨_, rfl, Brb N⟩, trivial⟩) (by decide) (by decide) (by decide) (fun R x C => B6g @Adx N R x C), Tryz.f82, Tryz.func82, rfl, by decide⟩
theorem As0 (N : Nat) : Ac7 Tryz.prog (B01 N) := ⟨Bjm N, trivial⟩
theorem Bpd (N : Nat) : Aaz Tryz.prog 121 [] (sub Adk [1, 1, 1, 1, 0, 1, 0, 0, 1, 0, 0, 1]) (Aaa Agy (Baz N)) :=
 Ade (dom := (Aar [7, 24, 17, 37])) mixed htt (Aad (Aal (As0 N))) (Aaf rfl) (by kernel_rfl) (Aag (l := []) (by kernel_rfl) trivial) Bay (fun R x K => Bqj @Aa6 @Ab0 @Ab3 @Abk @Abd N R x K)
theorem Bpe (N : Nat) : Aeh Tryz.prog 121 [] (sub Adk [1, 1, 1, 1, 1, 0, 1, 0, 0]) (Aaa Ae8 (Az0 N N)) :=
 Adt (c := sub Adk [1, 1, 1, 1, 1, 0, 1, 0, 0]) (dom := (Aar [7, 24, 17, 37])) mixed htt (Aad (Aal (As0 N))) (Aaf rfl) (by kernel_rfl) (Aag (l := []) (by kernel_rfl) trivial) Ba2 (B := (fun _ _ _ => none)) (Aeh.none _ _ _ _) (fun _ _ _ => rfl) (fun R k x K => Bqg @Aa6 @Ab0 @Ab3 @Abk @Abd N R (fun a0 a1 a2 a3 a4 a5 a6 a7 a8 a9 a10 => Abd N k a0 a1 a2 a3 a4 a5 a6 a7 a8 a9 a10 (fun a b d => K .ret (Aab Apn (((), a, ()), (((), (), ()), b, d, ())))) (fun a b d e => K (.exit 4) (Aab Apo (((), (), ()), (((), (), ()), ((), (), ()), a, b, d, e, ()))))) x K) N
theorem Bpf (N : Nat) : Aaz Tryz.prog 121 [] (sub Adk [1, 1, 1, 1, 1, 0, 1, 0]) (Aaa Ae8 (Az0 N N)) := (Bpe N).frag
theorem Bpg (N : Nat) : Aeh Tryz.prog 121 [] (sub Adk [1, 1, 1, 1, 0, 1, 0, 0]) (Aaa Ae7 (Azx N N)) :=
 Adt (c := sub Adk [1, 1, 1, 1, 0, 1, 0, 0]) (dom := (Aar [7, 24, 17, 37])) mixed htt (Aad (Aal (As0 N))) (Aaf rfl) (by kernel_rfl) (Aag (l := [(24, sub Adk [1, 1, 1, 1, 0, 1, 0, 0, 1, 0, 0, 1])]) (by kernel_rfl) ⟨⟨_, rfl, Bpd N⟩, trivial⟩) Ba0 (B := (fun _ _ _ => none)) (Aeh.none _ _ _ _) (fun _ _ _ => rfl) (fun R k x K => Bqi @Aa6 @Ab0 @Ab3 @Abk @Abd N R (fun a0 a1 a2 a3 a4 a5 a6 a7 a8 a9 a10 a11 => Abk N k a0 a1 a2 a3 a4 a5 a6 a7 a8 a9 a10 a11 (fun a b d => K .ret (Aab Apl (((), a, ()), (((), (), ()), b, d, ())))) (fun a b d e f g h i j m => K (.exit 2) (Aab Apm (((), (), (), ()), ((a, b, d, e, f, g, ()), ((), (), ()), ((), (), ()), h, i, j, m, ()))))) x K) N
theorem Bph (N : Nat) : Aaz Tryz.prog 121 [] (sub Adk [1, 1, 1, 1, 0, 1, 0]) (Aaa Ae7 (Azx N N)) := (Bpg N).frag
theorem Brc (N : Nat) : Aeh Tryz.prog 121 [] (sub Adk [1, 1, 0, 1, 0, 0]) (Aaa Afx (A2i N N)) :=
 Adt (c := sub Adk [1, 1, 0, 1, 0, 0]) (dom := (Aar [7, 24, 17, 37])) mixed htt (Aad (Aal (As0 N))) (Aaf rfl) (by kernel_rfl) (Aag (l := []) (by kernel_rfl) trivial) Bdz (B := (fun _ _ _ => none)) (Aeh.none _ _ _ _) (fun _ _ _ => rfl) (fun R k x K => Bue @Aa6 @Ab0 @Ab3 @Abk @Abd N R (fun a0 a1 a2 a3 a4 a5 a6 a7 a8 a9 a10 => Ab0 N k a0 a1 a2 a3 a4 a5 a6 a7 a8 a9 a10 (fun a b d e f g h i j m => K (.exit 0) (Aab Arb (((), (), (), ()), ((a, b, d, e, f, g, ()), ((), (), ()), ((), (), ()), h, i, j, m, ()))))) x K) N
theorem Brd (N : Nat) : Aaz Tryz.prog 121 [] (sub Adk [1, 1, 0, 1, 0]) (Aaa Afx (A2i N N)) := (Brc N).frag
theorem By2 (N : Nat) : Abi Tryz.prog 54 (Bje N) :=
 ⟨Abe (fn := Tryz.f54) (c := Adk) (dom := (Aar [7, 24, 17, 37])) (rs := [.cell 2 101, .tmp 3]) mixed htt (Aad (Aal (As0 N))) (Aaf rfl) Tryz.func54 rfl rfl (by kernel_rfl) (Aag (l := [(7, sub Adk [1, 1, 0, 1, 0]), (17, sub Adk [1, 1, 1, 1, 0, 1, 0]), (37, sub Adk [1, 1, 1, 1, 1, 0, 1, 0])]) (by kernel_rfl) ⟨⟨_, rfl, Brd N⟩, ⟨_, rfl, Bph N⟩, ⟨_, rfl, Bpf N⟩, trivial⟩) (by decide) (by decide) (by decide) (fun R x C => B09 @Aa6 @Ab0 @Ab3 @Abk @Abd N R x C), Tryz.f54, Tryz.func54, rfl, by decide⟩
theorem A0r (N : Nat) : Ac7 Tryz.prog (B5c N) := trivial
theorem Bre (N : Nat) : Aaz Tryz.prog 55 [] (sub Aip [1, 0, 1, 0, 1, 1, 1, 1, 1, 1, 1, 1, 1, 1, 1]) (Aaa Aid (Bd4 N)) :=
 Ade (dom := (Aar [60, 42, 20])) mixed htt (Aad (Aal (A0r N))) (Aaf rfl) (by kernel_rfl) (Aag (l := []) (by kernel_rfl) trivial) Bd3 (fun R x K => Bul @Ac6 @Abl @Ab1 N R x K)
theorem Brf (N : Nat) : Aaz Tryz.prog 55 [] (sub Aip [1, 0, 1, 0, 1, 1, 1]) (Aaa Aie (Bd6 N)) :=
 Ade (dom := (Aar [60, 42, 20])) mixed htt (Aad (Aal (A0r N))) (Aaf rfl) (by kernel_rfl) (Aag (l := [(60, sub Aip [1, 0, 1, 0, 1, 1, 1, 1, 1, 1, 1, 1, 1, 1, 1])]) (by kernel_rfl) ⟨⟨_, rfl, Bre N⟩, trivial⟩) Bd5 (fun R x K => Bt6 @Ac6 @Abl @Ab1 N R x K)
theorem Brg (N : Nat) : Aaz Tryz.prog 55 [] (sub Aip [1, 0, 1, 0, 1]) (Aaa Aif (Bd8 N)) :=
 Ade (dom := (Aar [60, 42, 20])) mixed htt (Aad (Aal (A0r N))) (Aaf rfl) (by kernel_rfl) (Aag (l := [(42, sub Aip [1, 0, 1, 0, 1, 1, 1])]) (by kernel_rfl) ⟨⟨_, rfl, Brf N⟩, trivial⟩) Bd7 (fun R x K => Bum @Ac6 @Abl @Ab1 N R x K)
theorem B16 (N : Nat) : Abi Tryz.prog 83 (Blv N) :=
 ⟨Abe (fn := Tryz.f83) (c := Aip) (dom := (Aar [60, 42, 20])) (rs := [.tmp 4]) mixed htt (Aad (Aal (A0r N))) (Aaf rfl) Tryz.func83 rfl rfl (by kernel_rfl) (Aag (l := [(20, sub Aip [1, 0, 1, 0, 1])]) (by kernel_rfl) ⟨⟨_, rfl, Brg N⟩, trivial⟩) (by decide) (by decide) (by decide) (fun R x C => B5x @Ac6 @Abl @Ab1 N R x C), Tryz.f83, Tryz.func83, rfl, by decide⟩
theorem Bar (N : Nat) : Ac7 Tryz.prog (B5e N) := trivial
theorem Brh (N : Nat) : Aaz Tryz.prog 22 [] (sub Al5 [1, 0, 1, 0, 1, 1, 1]) (Aaa Ajy (Bea N)) :=
 Ade (dom := (Aar [32, 24])) mixed htt (Aad (Aal (Bar N))) (Aaf rfl) (by kernel_rfl) (Aag (l := []) (by kernel_rfl) trivial) Bd9 (fun R x K => Bt7 @Adl @Ab6 N R x K)
theorem Bri (N : Nat) : Aaz Tryz.prog 22 [] (sub Al5 [1, 0, 1, 0, 1]) (Aaa Ajz (Bec N)) :=
 Ade (dom := (Aar [32, 24])) mixed htt (Aad (Aal (Bar N))) (Aaf rfl) (by kernel_rfl) (Aag (l := [(32, sub Al5 [1, 0, 1, 0, 1, 1, 1])]) (by kernel_rfl) ⟨⟨_, rfl, Brh N⟩, trivial⟩) Beb (fun R x K => Buo @Adl @Ab6 N R x K)
theorem B17 (N : Nat) : Abi Tryz.prog 84 (Blw N) :=
 ⟨Abe (fn := Tryz.f84) (c := Al5) (dom := (Aar [32, 24])) (rs := [.tmp 2]) mixed htt (Aad (Aal (Bar N))) (Aaf rfl) Tryz.func84 rfl rfl (by kernel_rfl) (Aag (l := [(24, sub Al5 [1, 0, 1, 0, 1])]) (by kernel_rfl) ⟨⟨_, rfl, Bri N⟩, trivial⟩) (by decide) (by decide) (by decide) (fun R x C => B5z @Adl @Ab6 N R x C), Tryz.f84, Tryz.func84, rfl, by decide⟩
theorem Bme (N : Nat) : Ac7 Tryz.prog (B5g N) := ⟨A66 N, trivial⟩
theorem Bvk (N : Nat) : Aaz Tryz.prog 35 [] (sub Au1 [1, 0, 1, 0, 1]) (Aaa Alw (Bgj N)) :=
 Ade (dom := (Aar [8])) mixed htt (Aad (Aal (Bme N))) (Aaf rfl) (by kernel_rfl) (Aag (l := []) (by kernel_rfl) trivial) Bgi (fun R x K => Byb @Aam @Afy N R x K)
theorem B18 (N : Nat) : Abi Tryz.prog 85 (Blx N) :=
 ⟨Abe (fn := Tryz.f85) (c := Au1) (dom := (Aar [8])) (rs := [.tmp 4]) mixed htt (Aad (Aal (Bme N))) (Aaf rfl) Tryz.func85 rfl rfl (by kernel_rfl) (Aag (l := [(8, sub Au1 [1, 0, 1, 0, 1])]) (by kernel_rfl) ⟨⟨_, rfl, Bvk N⟩, trivial⟩) (by decide) (by decide) (by decide) (fun R x C => B50 @Aam @Afy N R x C), Tryz.f85, Tryz.func85, rfl, by decide⟩
theorem Bmf (N : Nat) : Ac7 Tryz.prog (B5i N) := trivial
theorem Bvl (N : Nat) : Aeh Tryz.prog 31 [] (sub An9 [1, 0, 0, 0]) (Aaa Ajc (A49 N N)) :=
 Adt (c := sub An9 [1, 0, 0, 0]) (dom := (Aar [3])) mixed htt (Aad (Aal (Bmf N))) (Aaf rfl) (by kernel_rfl) (Aag (l := []) (by kernel_rfl) trivial) Bgk (B := (fun _ _ _ => none)) (Aeh.none _ _ _ _) (fun _ _ _ => rfl) (fun R k x K => Byc @Aet N R (fun a0 a1 => Aet N k a0 a1 (fun a b => K (.exit 0) (Aab Asg ((a, b, ()), (()))))) x K) N
theorem Bvm (N : Nat) : Aaz Tryz.prog 31 [] (sub An9 [1, 0, 0]) (Aaa Ajc (A49 N N)) := (Bvl N).frag
theorem B19 (N : Nat) : Abi Tryz.prog 86 (Bly N) :=
 ⟨Abe (fn := Tryz.f86) (c := An9) (dom := (Aar [3])) (rs := [.tmp 4]) mixed htt (Aad (Aal (Bmf N))) (Aaf rfl) Tryz.func86 rfl rfl (by kernel_rfl) (Aag (l := [(3, sub An9 [1, 0, 0])]) (by kernel_rfl) ⟨⟨_, rfl, Bvm N⟩, trivial⟩) (by decide) (by decide) (by decide) (fun R x C => B6i @Aet N R x C), Tryz.f86, Tryz.func86, rfl, by decide⟩
theorem Bpi (N : Nat) : Ac7 Tryz.prog (B9s N) := ⟨B16 N, B17 N, A66 N, B18 N, Bjm N, B19 N, Bgs N, trivial⟩
theorem By3 (N : Nat) : Aeh Tryz.prog 96 [] (sub Apa [1, 1, 0, 1, 0, 0]) (Aaa Akh (A6q N N)) :=
 Adt (c := sub Apa [1, 1, 0, 1, 0, 0]) (dom := (Aar [7])) mixed htt (Aad (Aal (Bpi N))) (Aaf rfl) (by kernel_rfl) (Aag (l := []) (by kernel_rfl) trivial) Bjf (B := (fun _ _ _ => none)) (Aeh.none _ _ _ _) (fun _ _ _ => rfl) (fun R k x K => B05 @Afp @Aew @Aam @Aex @Aa6 @Aea @Aav @Aeq N R (fun a0 a1 a2 a3 a4 a5 a6 a7 a8 a9 a10 => Aeq N k a0 a1 a2 a3 a4 a5 a6 a7 a8 a9 a10 (fun a => K .ret (Aab Auc ((a, ()), (())))) (K (.exit 0) (Aab Aud ((()), (()))))) x K) N
theorem By4 (N : Nat) : Aaz Tryz.prog 96 [] (sub Apa [1, 1, 0, 1, 0]) (Aaa Akh (A6q N N)) := (By3 N).frag
theorem B6q (N : Nat) : Abi Tryz.prog 55 (Bom N) :=
 ⟨Abe (fn := Tryz.f55) (c := Apa) (dom := (Aar [7])) (rs := [.tmp 4]) mixed htt (Aad (Aal (Bpi N))) (Aaf rfl) Tryz.func55 rfl rfl (by kernel_rfl) (Aag (l := [(7, sub Apa [1, 1, 0, 1, 0])]) (by kernel_rfl) ⟨⟨_, rfl, By4 N⟩, trivial⟩) (by decide) (by decide) (by decide) (fun R x C => B9x @Afp @Aew @Aam @Aex @Aa6 @Aea @Aav @Aeq N R x C), Tryz.f55, Tryz.func55, rfl, by decide⟩
theorem Bmg (N : Nat) : Ac7 Tryz.prog (B5k N) := ⟨Bvc N, B13 N, Bvh N, B15 N, By2 N, B6q N, trivial⟩
theorem Brj (N : Nat) : Aeh Tryz.prog 50 [] (sub An7 [1, 1, 1, 0, 1, 0, 0]) (Aaa Aia (A2e N N)) :=
 Adt (c := sub An7 [1, 1, 1, 0, 1, 0, 0]) (dom := (Aar [13])) mixed htt (Aad (Aal (Bmg N))) (Aaf rfl) (by kernel_rfl) (Aag (l := []) (by kernel_rfl) trivial) Bdt (B := (fun _ _ _ => none)) (Aeh.none _ _ _ _) (fun _ _ _ => rfl) (fun R k x K => Buf @Ae6 @Agx @Aee @Af9 @Afi @Aho @Aej N R (fun a0 a1 a2 a3 a4 a5 a6 => Aej N k a0 a1 a2 a3 a4 a5 a6 (fun a => K .ret (Aab Aq8 ((a, ()), (())))) (fun a b d e f g => K (.exit 0) (Aab Aq9 (((), ()), ((a, b, d, e, f, g, ()), ()))))) x K) N
theorem Brk (N : Nat) : Aaz Tryz.prog 50 [] (sub An7 [1, 1, 1, 0, 1, 0]) (Aaa Aia (A2e N N)) := (Brj N).frag
theorem B2a (N : Nat) : Abi Tryz.prog 29 (Blz N) :=
 ⟨Abe (fn := Tryz.f29) (c := An7) (dom := (Aar [13])) (rs := [.tmp 2]) mixed htt (Aad (Aal (Bmg N))) (Aaf rfl) Tryz.func29 rfl rfl (by kernel_rfl) (Aag (l := [(13, sub An7 [1, 1, 1, 0, 1, 0])]) (by kernel_rfl) ⟨⟨_, rfl, Brk N⟩, trivial⟩) (by decide) (by decide) (by decide) (fun R x C => B5u @Ae6 @Agx @Aee @Af9 @Afi @Aho @Aej N R x C), Tryz.f29, Tryz.func29, rfl, by decide⟩
theorem Bmh (N : Nat) : Ac7 Tryz.prog (B5m N) := ⟨B2a N, trivial⟩
theorem Brl (N : Nat) : Aeh Tryz.prog 43 [] (sub An6 [1, 1, 1, 0, 1, 0, 0]) (Aaa Ah9 (A14 N N)) :=
 Adt (c := sub An6 [1, 1, 1, 0, 1, 0, 0]) (dom := (Aar [11])) mixed htt (Aad (Aal (Bmh N))) (Aaf rfl) (by kernel_rfl) (Aag (l := []) (by kernel_rfl) trivial) Bdl (B := (fun _ _ _ => none)) (Aeh.none _ _ _ _) (fun _ _ _ => rfl) (fun R k x K => Bt4 @Aga @Ad5 N R (fun a0 a1 a2 a3 a4 a5 a6 a7 a8 a9 a10 a11 => Ad5 N k a0 a1 a2 a3 a4 a5 a6 a7 a8 a9 a10 a11 (fun a b d e f g => K (.exit 0) (Aab Aqy (((), ()), ((a, b, (), d, e, f, ()), g, ()))))) x K) N
theorem Brm (N : Nat) : Aaz Tryz.prog 43 [] (sub An6 [1, 1, 1, 0, 1, 0]) (Aaa Ah9 (A14 N N)) := (Brl N).frag
theorem B2b (N : Nat) : Abi Tryz.prog 17 (Bl0 N) :=
 ⟨Abe (fn := Tryz.f17) (c := An6) (dom := (Aar [11])) (rs := [.tmp 2]) mixed htt (Aad (Aal (Bmh N))) (Aaf rfl) Tryz.func17 rfl rfl (by kernel_rfl) (Aag (l := [(11, sub An6 [1, 1, 1, 0, 1, 0])]) (by kernel_rfl) ⟨⟨_, rfl, Brm N⟩, trivial⟩) (by decide) (by decide) (by decide) (fun R x C => B6c @Aga @Ad5 N R x C), Tryz.f17, Tryz.func17, rfl, by decide⟩
theorem Ces (N : Nat) : Ac7 Tryz.prog (Bxy N) := trivial
theorem A67 (N : Nat) : Abi Tryz.prog 20 (A5b N) :=
 ⟨Abe (fn := Tryz.f20) (c := Bxx) (dom := (Aar [])) (rs := [.tmp 6]) mixed htt (Aad (Aal (Ces N))) (Aaf rfl) Tryz.func20 rfl rfl (by kernel_rfl) (Aag (l := []) (by kernel_rfl) trivial) (by decide) (by decide) (by decide) (fun R x C => Cem N R x C), Tryz.f20, Tryz.func20, rfl, by decide⟩
theorem Cet (N : Nat) : Ac7 Tryz.prog (Bx1 N) := trivial
theorem Cbc (N : Nat) : Abi Tryz.prog 87 (Bx0 N) :=
 ⟨Abe (fn := Tryz.f87) (c := Bxz) (dom := (Aar [])) (rs := [.tmp 6]) mixed htt (Aad (Aal (Cet N))) (Aaf rfl) Tryz.func87 rfl rfl (by kernel_rfl) (Aag (l := []) (by kernel_rfl) trivial) (by decide) (by decide) (by decide) (fun R x C => Cep N R x C), Tryz.f87, Tryz.func87, rfl, by decide⟩
theorem Ari (N : Nat) : Ac7 Tryz.prog (Bx3 N) := ⟨Cbc N, trivial⟩
theorem Bmx (N : Nat) : Aaz Tryz.prog 50 [] (sub Ae3 [1, 1, 0, 1, 0, 1, 1, 1, 1, 1, 1, 1]) (Aaa Agb (A75 N)) :=
 Ade (dom := (Aar [28, 22, 16, 38])) mixed htt (Aad (Aal (Ari N))) (Aaf rfl) (by kernel_rfl) (Aag (l := []) (by kernel_rfl) trivial) A74 (fun R x K => Bo3 @Acc @Abq @Abr @Abs @Abt N R x K)
theorem Bmy (N : Nat) : Aaz Tryz.prog 50 [] (sub Ae3 [1, 1, 0, 1, 0, 1, 1, 1, 1, 1]) (Aaa Agc (A77 N)) :=
 Ade (dom := (Aar [28, 22, 16, 38])) mixed htt (Aad (Aal (Ari N))) (Aaf rfl) (by kernel_rfl) (Aag (l := [(28, sub Ae3 [1, 1, 0, 1, 0, 1, 1, 1, 1, 1, 1, 1])]) (by kernel_rfl) ⟨⟨_, rfl, Bmx N⟩, trivial⟩) A76 (fun R x K => Bo2 @Acc @Abq @Abr @Abs @Abt N R x K)
theorem Bmz (N : Nat) : Aaz Tryz.prog 50 [] (sub Ae3 [1, 1, 0, 1, 0, 1, 1, 1]) (Aaa Agd (A79 N)) :=
 Ade (dom := (Aar [28, 22, 16, 38])) mixed htt (Aad (Aal (Ari N))) (Aaf rfl) (by kernel_rfl) (Aag (l := [(22, sub Ae3 [1, 1, 0, 1, 0, 1, 1, 1, 1, 1])]) (by kernel_rfl) ⟨⟨_, rfl, Bmy N⟩, trivial⟩) A78 (fun R x K => Boz @Acc @Abq @Abr @Abs @Abt N R x K)
theorem Bm0 (N : Nat) : Aaz Tryz.prog 50 [] (sub Ae3 [1, 1, 1]) (Aaa Age (A8b N)) :=
 Ade (dom := (Aar [28, 22, 16, 38])) mixed htt (Aad (Aal (Ari N))) (Aaf rfl) (by kernel_rfl) (Aag (l := []) (by kernel_rfl) trivial) A8a (fun R x K => Bo5 @Acc @Abq @Abr @Abs @Abt N R x K)
theorem Bvn (N : Nat) : Abi Tryz.prog 56 (Bgn N) :=
 ⟨Abe (fn := Tryz.f56) (c := Ae3) (dom := (Aar [28, 22, 16, 38])) (rs := [.tmp 8]) mixed htt (Aad (Aal (Ari N))) (Aaf rfl) Tryz.func56 rfl rfl (by kernel_rfl) (Aag (l := [(16, sub Ae3 [1, 1, 0, 1, 0, 1, 1, 1]), (38, sub Ae3 [1, 1, 1])]) (by kernel_rfl) ⟨⟨_, rfl, Bmz N⟩, ⟨_, rfl, Bm0 N⟩, trivial⟩) (by decide) (by decide) (by decide) (fun R x C => Byk @Acc @Abq @Abr @Abs @Abt N R x C), Tryz.f56, Tryz.func56, rfl, by decide⟩
theorem Cbd (N : Nat) : Ac7 Tryz.prog (Ca5 N) := ⟨Bvn N, trivial⟩
theorem Bpj (N : Nat) : Abi Tryz.prog 31 (Bht N) :=
 ⟨Abe (fn := Tryz.f31) (c := Bsh) (dom := (Aar [])) (rs := [.tmp 6]) mixed htt (Aad (Aal (Cbd N))) (Aaf rfl) Tryz.func31 rfl rfl (by kernel_rfl) (Aag (l := []) (by kernel_rfl) trivial) (by decide) (by decide) (by decide) (fun R x C => Cba @Ahr N R x C), Tryz.f31, Tryz.func31, rfl, by decide⟩
theorem Bvo (N : Nat) : Ac7 Tryz.prog (Btp N) := ⟨A67 N, Bpj N, trivial⟩
theorem Brn (N : Nat) : Abi Tryz.prog 30 (Beh N) :=
 ⟨Abe (fn := Tryz.f30) (c := Beg) (dom := (Aar [])) (rs := [.tmp 6]) mixed htt (Aad (Aal (Bvo N))) (Aaf rfl) Tryz.func30 rfl rfl (by kernel_rfl) (Aag (l := []) (by kernel_rfl) trivial) (by decide) (by decide) (by decide) (fun R x C => Bt9 @Aay @Aa9 N R x C), Tryz.f30, Tryz.func30, rfl, by decide⟩
theorem B6r (N : Nat) : Ac7 Tryz.prog (B5o N) := ⟨A67 N, trivial⟩
theorem B2c (N : Nat) : Abi Tryz.prog 32 (Bl2 N) :=
 ⟨Abe (fn := Tryz.f32) (c := Bl1) (dom := (Aar [])) (rs := [.tmp 4]) mixed htt (Aad (Aal (B6r N))) (Aaf rfl) Tryz.func32 rfl rfl (by kernel_rfl) (Aag (l := []) (by kernel_rfl) trivial) (by decide) (by decide) (by decide) (fun R x C => B6h @Aay N R x C), Tryz.f32, Tryz.func32, rfl, by decide⟩
theorem Au7 (N : Nat) : Ac7 Tryz.prog (B5q N) := ⟨Brn N, Bpj N, B2c N, A67 N, trivial⟩
theorem Bro (N : Nat) : Aaz Tryz.prog 220 [] (sub Agj [1, 0, 1, 0, 1, 1, 1, 1, 1, 1, 1, 1, 1]) (Aaa Ahf (Bej N)) :=
 Ade (dom := (Aar [30, 16, 10, 48])) mixed htt (Aad (Aal (Au7 N))) (Aaf rfl) (by kernel_rfl) (Aag (l := []) (by kernel_rfl) trivial) Bei (fun R x K => Buc @Aba @Aa9 @Acj @Aay @Acm @Acn @Ab9 @Aca N R x K)
theorem Brp (N : Nat) : Aaz Tryz.prog 220 [] (sub Agj [1, 0, 1, 0, 1, 1, 1]) (Aaa Ahg (Bel N)) :=
 Ade (dom := (Aar [30, 16, 10, 48])) mixed htt (Aad (Aal (Au7 N))) (Aaf rfl) (by kernel_rfl) (Aag (l := [(30, sub Agj [1, 0, 1, 0, 1, 1, 1, 1, 1, 1, 1, 1, 1])]) (by kernel_rfl) ⟨⟨_, rfl, Bro N⟩, trivial⟩) Bek (fun R x K => Btx @Aba @Aa9 @Acj @Aay @Acm @Acn @Ab9 @Aca N R x K)
theorem Brq (N : Nat) : Aaz Tryz.prog 220 [] (sub Agj [1, 0, 1, 0, 1]) (Aaa Ahh (Ben N)) :=
 Ade (dom := (Aar [30, 16, 10, 48])) mixed htt (Aad (Aal (Au7 N))) (Aaf rfl) (by kernel_rfl) (Aag (l := [(16, sub Agj [1, 0, 1, 0, 1, 1, 1])]) (by kernel_rfl) ⟨⟨_, rfl, Brp N⟩, trivial⟩) Bem (fun R x K => Bud @Aba @Aa9 @Acj @Aay @Acm @Acn @Ab9 @Aca N R x K)
theorem Brr (N : Nat) : Aaz Tryz.prog 220 [] (sub Agj [1, 1]) (Aaa Ahi (Bep N)) :=
 Ade (dom := (Aar [30, 16, 10, 48])) mixed htt (Aad (Aal (Au7 N))) (Aaf rfl) (by kernel_rfl) (Aag (l := []) (by kernel_rfl) trivial) Beo (fun R x K => Bt1 @Aba @Aa9 @Acj @Aay @Acm @Acn @Ab9 @Aca N R x K)
theorem B2d (N : Nat) : Abi Tryz.prog 18 (Bl3 N) :=
 ⟨Abe (fn := Tryz.f18) (c := Agj) (dom := (Aar [30, 16, 10, 48])) (rs := [.tmp 4]) mixed htt (Aad (Aal (Au7 N))) (Aaf rfl) Tryz.func18 rfl rfl (by kernel_rfl) (Aag (l := [(10, sub Agj [1, 0, 1, 0, 1]), (48, sub Agj [1, 1])]) (by kernel_rfl) ⟨⟨_, rfl, Brq N⟩, ⟨_, rfl, Brr N⟩, trivial⟩) (by decide) (by decide) (by decide) (fun R x C => B56 @Aba @Aa9 @Acj @Aay @Acm @Acn @Ab9 @Aca N R x C), Tryz.f18, Tryz.func18, rfl, by decide⟩
theorem B2e (N : Nat) : Ac7 Tryz.prog (Bji N) := trivial
theorem By5 (N : Nat) : Abi Tryz.prog 19 (Bjh N) :=
 ⟨Abe (fn := Tryz.f19) (c := Bjg) (dom := (Aar [])) (rs := [.tmp 2]) mixed htt (Aad (Aal (B2e N))) (Aaf rfl) Tryz.func19 rfl rfl (by kernel_rfl) (Aag (l := []) (by kernel_rfl) trivial) (by decide) (by decide) (by decide) (fun R x C => B1h N R x C), Tryz.f19, Tryz.func19, rfl, by decide⟩
theorem A0s (N : Nat) : Ac7 Tryz.prog (B5s N) := ⟨B2b N, B2d N, By5 N, A67 N, trivial⟩
theorem Brs (N : Nat) : Aaz Tryz.prog 137 [] (sub Aft [1, 1, 1, 1, 0, 1, 0, 0, 1, 0, 0, 1, 1, 1, 1]) (Aaa Aik (Ber N)) :=
 Ade (dom := (Aar [28, 13, 39])) mixed htt (Aad (Aal (A0s N))) (Aaf rfl) (by kernel_rfl) (Aag (l := []) (by kernel_rfl) trivial) Beq (fun R x K => Bui @Aef @Aeg @Ac2 @Aay @Abg @Aco @Acp N R x K)
theorem Brt (N : Nat) : Aeh Tryz.prog 137 [] (sub Aft [1, 1, 1, 1, 1, 1, 0, 1, 0, 0]) (Aaa Ago (A2x N N)) :=
 Adt (c := sub Aft [1, 1, 1, 1, 1, 1, 0, 1, 0, 0]) (dom := (Aar [28, 13, 39])) mixed htt (Aad (Aal (A0s N))) (Aaf rfl) (by kernel_rfl) (Aag (l := []) (by kernel_rfl) trivial) Beu (B := (fun _ _ _ => none)) (Aeh.none _ _ _ _) (fun _ _ _ => rfl) (fun R k x K => Bug @Aef @Aeg @Ac2 @Aay @Abg @Aco @Acp N R (fun a0 a1 a2 a3 a4 a5 => Acp N k a0 a1 a2 a3 a4 a5 (fun a => K .ret (Aab Arg ((a, ()), (())))) (K (.exit 2) (Aab Arh ((()), (()))))) x K) N
theorem Bru (N : Nat) : Aaz Tryz.prog 137 [] (sub Aft [1, 1, 1, 1, 1, 1, 0, 1, 0]) (Aaa Ago (A2x N N)) := (Brt N).frag
theorem Brv (N : Nat) : Aeh Tryz.prog 137 [] (sub Aft [1, 1, 1, 1, 0, 1, 0, 0]) (Aaa Agn (A2u N N)) :=
 Adt (c := sub Aft [1, 1, 1, 1, 0, 1, 0, 0]) (dom := (Aar [28, 13, 39])) mixed htt (Aad (Aal (A0s N))) (Aaf rfl) (by kernel_rfl) (Aag (l := [(28, sub Aft [1, 1, 1, 1, 0, 1, 0, 0, 1, 0, 0, 1, 1, 1, 1])]) (by kernel_rfl) ⟨⟨_, rfl, Brs N⟩, trivial⟩) Bes (B := (fun _ _ _ => none)) (Aeh.none _ _ _ _) (fun _ _ _ => rfl) (fun R k x K => Btz @Aef @Aeg @Ac2 @Aay @Abg @Aco @Acp N R (fun a0 a1 a2 a3 a4 a5 a6 => Aco N k a0 a1 a2 a3 a4 a5 a6 (fun a => K .ret (Aab Are ((a, ()), (())))) (fun a b d e f g => K (.exit 0) (Aab Arf (((), a, ()), ((b, d, e, f, g, ()), ()))))) x K) N
theorem Brw (N : Nat) : Aaz Tryz.prog 137 [] (sub Aft [1, 1, 1, 1, 0, 1, 0]) (Aaa Agn (A2u N N)) := (Brv N).frag
theorem B2f (N : Nat) : Abi Tryz.prog 7 (Bl5 N) :=
 ⟨Abe (fn := Tryz.f7) (c := Aft) (dom := (Aar [28, 13, 39])) (rs := [.tmp 2]) mixed htt (Aad (Aal (A0s N))) (Aaf rfl) Tryz.func7 rfl rfl (by kernel_rfl) (Aag (l := [(13, sub Aft [1, 1, 1, 1, 0, 1, 0]), (39, sub Aft [1, 1, 1, 1, 1, 1, 0, 1, 0])]) (by kernel_rfl) ⟨⟨_, rfl, Brw N⟩, ⟨_, rfl, Bru N⟩, trivial⟩) (by decide) (by decide) (by decide) (fun R x C => B58 @Aef @Aeg @Ac2 @Aay @Abg @Aco @Acp N R x C), Tryz.f7, Tryz.func7, rfl, by decide⟩
theorem Bpk (N : Nat) : Ac7 Tryz.prog (Bot N) := ⟨B1l N, B1m N, B6p N, B2f N, trivial⟩
theorem Bm1 (N : Nat) : Abi Tryz.prog 3 (A8c N) :=
 ⟨Abe (fn := Tryz.f3) (c := A7j) (dom := (Aar [])) (rs := [.tmp 2]) mixed htt (Aad (Aal (Bpk N))) (Aaf rfl) Tryz.func3 rfl rfl (by kernel_rfl) (Aag (l := []) (by kernel_rfl) trivial) (by decide) (by decide) (by decide) (fun R x C => Bo0 @Ait @Akg @Ai1 N R x C), Tryz.f3, Tryz.func3, rfl, by decide⟩
end
end Q

/- Part O of the proof. -/
import Derived.Test.YtjdklngopfpjgaaGreatE1
import Derived.Test.YtjdklngopfpjgaaGreatE2
import Derived.Test.YtjdklngopfpjgaaGreatSh
import Derived.WalkKit
import Derived.Laws.Externs
import Derived.Test.YtjdklngopfpjgaaGreatAW
open Go Go.AX Go.Proofs
namespace Q
noncomputable section
set_option maxRecDepth 100000
set_option linter.unusedVariables false
theorem htt : Ajb Tryz.prog tt := Cbr (l := types) (by kernel_rfl)
theorem mixed : Tryz.prog.follows .mixedOrders = true := by kernel_rfl
theorem Blx (N : Nat) : Acv Tryz.prog (B4g N) := trivial
theorem Bqo (N : Nat) : Aed Tryz.prog 59 [] (sub Ank [1, 1, 1, 0, 1, 0, 0]) (Aaa Ah2 (A0s N N)) :=
 Adm (c := sub Ank [1, 1, 1, 0, 1, 0, 0]) (dom := (Aas [11])) mixed htt (Aad (Aam (Blx N))) (Aaf rfl) (by kernel_rfl) (Aah (l := []) (by kernel_rfl) trivial) Bck (B := (fun _ _ _ => none)) (Aed.none _ _ _ _) (fun _ _ _ => rfl) (fun R k x K => Bt2 @Adz N R (fun a0 a1 a2 a3 a4 a5 a6 => Adz N k a0 a1 a2 a3 a4 a5 a6 (fun a => K (.exit 0) (Aab Apz ((a, ()), (()))))) x K) N
theorem Bqp (N : Nat) : Aa5 Tryz.prog 59 [] (sub Ank [1, 1, 1, 0, 1, 0]) (Aaa Ah2 (A0s N N)) := (Bqo N).frag
theorem B1m (N : Nat) : Abg Tryz.prog 12 (Bk3 N) :=
 ⟨Abc (fn := Tryz.f12) (c := Ank) (dom := (Aas [11])) (rs := [.tmp 2]) mixed htt (Aad (Aam (Blx N))) (Aaf rfl) Tryz.func12 rfl rfl (by kernel_rfl) (Aah (l := [(11, sub Ank [1, 1, 1, 0, 1, 0])]) (by kernel_rfl) ⟨⟨_, rfl, Bqp N⟩, trivial⟩) (by decide) (by decide) (by decide) (fun R x C => B51 @Adz N R x C), Tryz.f12, Tryz.func12, rfl, by decide⟩
theorem B1n (N : Nat) : Abg Tryz.prog 13 (A8z N) :=
 ⟨Go.CE.Aw.awake_ok, Tryz.f13, Tryz.func13, rfl, by decide⟩
theorem Bly (N : Nat) : Acv Tryz.prog (B4i N) := trivial
theorem Bqq (N : Nat) : Aed Tryz.prog 50 [] (sub Anl [1, 1, 1, 0, 1, 0, 0]) (Aaa Ah3 (A0v N N)) :=
 Adm (c := sub Anl [1, 1, 1, 0, 1, 0, 0]) (dom := (Aas [11])) mixed htt (Aad (Aam (Bly N))) (Aaf rfl) (by kernel_rfl) (Aah (l := []) (by kernel_rfl) trivial) Bcm (B := (fun _ _ _ => none)) (Aed.none _ _ _ _) (fun _ _ _ => rfl) (fun R k x K => Bul @Ad0 N R (fun a0 a1 a2 a3 => Ad0 N k a0 a1 a2 a3 (fun a => K (.exit 0) (Aab Ap1 ((a, ()), (()))))) x K) N
theorem Bqr (N : Nat) : Aa5 Tryz.prog 50 [] (sub Anl [1, 1, 1, 0, 1, 0]) (Aaa Ah3 (A0v N N)) := (Bqq N).frag
theorem B1o (N : Nat) : Abg Tryz.prog 132 (Bk6 N) :=
 ⟨Abc (fn := Tryz.f132) (c := Anl) (dom := (Aas [11])) (rs := [.tmp 2]) mixed htt (Aad (Aam (Bly N))) (Aaf rfl) Tryz.func132 rfl rfl (by kernel_rfl) (Aah (l := [(11, sub Anl [1, 1, 1, 0, 1, 0])]) (by kernel_rfl) ⟨⟨_, rfl, Bqr N⟩, trivial⟩) (by decide) (by decide) (by decide) (fun R x C => B6c @Ad0 N R x C), Tryz.f132, Tryz.func132, rfl, by decide⟩
theorem Bcj : (Tryz.prog.info? 243).map (·.size) = some 2 := by kernel_rfl
theorem Bs5 : liesAt Tryz.prog Tryz.prog.depth 243 (2 / Tryz.prog.cellsOf 243) 0 243 1 = true := by kernel_rfl
set_option maxHeartbeats 1000000 in
theorem A5i (b : Nat) (w : World) (h0 : w.cell? ⟨b, 0, none⟩ = some (.pointer (some ⟨b, 0, none⟩))) :
  Calls Tryz.prog 300 #[.pointer (some ⟨b, 0, none⟩)] w fun e w' => e = .returned (.tuple #[]) ∧ w' = w := by
 obtain ⟨j, hj, _⟩ := Option.map_eq_some_iff.1 Bcj
 go_enter Tryz.func300, Tryz.ntmps300
 go_wp2
 rw [Lib.run_neq_ptr_same w _ Tryz.underlying241 hj]
 go_wp2
 go_end0
 exact ⟨rfl, rfl⟩
set_option maxHeartbeats 1000000 in
theorem A2z (b : Nat) (w : World) (h0 : w.cell? ⟨b, 0, none⟩ = some (.pointer none)) (hsh : w.shape? b = some (243, 2)) (hfz : w.frozen? ⟨b, 0, none⟩ = false) :
  Calls Tryz.prog 300 #[.pointer (some ⟨b, 0, none⟩)] w fun e w' => e = .returned (.tuple #[]) ∧ w' = w.setCell ⟨b, 0, none⟩ (.pointer (some ⟨b, 0, none⟩)) := by
 obtain ⟨j, hj, hjs⟩ := Option.map_eq_some_iff.1 Bcj
 go_enter Tryz.func300, Tryz.ntmps300
 go_wp2
 rw [Lib.run_to_unsafe w ⟨b, 0, none⟩ Tryz.underlying241 Tryz.underlying268 hj (by rw [hjs]; decide) hsh (Nat.zero_lt_succ 1)]
 simp only [Result.andThen]
 rw [Oper.upon_value]
 go_wp2
 rw [run_callFunc_extern Tryz.func313 (by kernel_rfl) (by kernel_rfl) (by kernel_rfl) (e := Extern.AbiNoEscape.same) (by kernel_rfl)]
 rw [Lib.run_noEscape]
 simp only [Result.andThen]
 rw [Oper.upon_value]
 go_wp2
 rw [Lib.run_from_unsafe w ⟨b, 0, none⟩ Tryz.underlying268 Tryz.underlying241 hj hsh Bs5]
 simp only [Result.andThen]
 rw [Oper.upon_value]
 go_wp2
 go_end0
 exact ⟨rfl, rfl⟩
theorem Ass (N : Nat) : Abg Tryz.prog 300 (Am0 N) :=
 ⟨B79 A5i A2z, Tryz.f300, Tryz.func300, rfl, by decide⟩
theorem A8f (N : Nat) : Acv Tryz.prog (Asz N) := ⟨Ass N, trivial⟩
theorem A6n (N : Nat) : Abg Tryz.prog 273 (Asy N) :=
 ⟨Abc (fn := Tryz.f273) (c := Akf) (dom := (Aas [])) (rs := [.tmp 4]) mixed htt (Aad (Aam (A8f N))) (Aaf rfl) Tryz.func273 rfl rfl (by kernel_rfl) (Aah (l := []) (by kernel_rfl) trivial) (by decide) (by decide) (by decide) (fun R x C => A8e N R x C), Tryz.f273, Tryz.func273, rfl, by decide⟩
theorem Bks (N : Nat) : Abg Tryz.prog 274 (Apb N) :=
 ⟨B78 Tryz.strings_IndexByte, Tryz.f274, Tryz.func274, rfl, by decide⟩
theorem A4u (N : Nat) : Acv Tryz.prog (Ap3 N) := ⟨Ass N, trivial⟩
theorem A2l (N : Nat) : Abg Tryz.prog 273 (Ap2 N) :=
 ⟨Abc (fn := Tryz.f273) (c := Akf) (dom := (Aas [])) (rs := [.tmp 4]) mixed htt (Aad (Aam (A4u N))) (Aaf rfl) Tryz.func273 rfl rfl (by kernel_rfl) (Aah (l := []) (by kernel_rfl) trivial) (by decide) (by decide) (by decide) (fun R x C => A4t N R x C), Tryz.f273, Tryz.func273, rfl, by decide⟩
theorem Bbi (N : Nat) : Abg Tryz.prog 275 (Ali N) :=
 ⟨Cff Tryz.lays169 Tryz.Builder_Extra_169, Tryz.f275, Tryz.func275, rfl, by decide⟩
theorem Bsi (N : Nat) : Acv Tryz.prog (Cav N) := ⟨Ccq rfl (A6n N) (A2l N), Bks N, Bbi N, trivial⟩
theorem B1p (N : Nat) : Aed Tryz.prog 41 [] (sub Arf [1, 1, 1, 0, 1, 0, 0]) (Aaa Akm (A84 N N)) :=
 Adm (c := sub Arf [1, 1, 1, 0, 1, 0, 0]) (dom := (Aas [9])) mixed htt (Aad (Aam (Bsi N))) (Aaf rfl) (by kernel_rfl) (Aah (l := []) (by kernel_rfl) trivial) Bk7 (B := (fun _ _ _ => none)) (Aed.none _ _ _ _) (fun _ _ _ => rfl) (fun R k x K => B5u @Abk @Aau @Afq N R (fun a0 a1 a2 a3 => Afq N k a0 a1 a2 a3 (fun a b => K .ret (Aab Avt ((a, b, ()), (())))) (fun a b => K (.exit 0) (Aab Avu ((a, (), ()), (((), (), ()), b, ()))))) x K) N
theorem B1q (N : Nat) : Aa5 Tryz.prog 41 [] (sub Arf [1, 1, 1, 0, 1, 0]) (Aaa Akm (A84 N N)) := (B1p N).frag
theorem Bpa (N : Nat) : Abg Tryz.prog 196 (Bhd N) :=
 ⟨Abc (fn := Tryz.f196) (c := Arf) (dom := (Aas [9])) (rs := [.tmp 2, .tmp 3]) mixed htt (Aad (Aam (Bsi N))) (Aaf rfl) Tryz.func196 rfl rfl (by kernel_rfl) (Aah (l := [(9, sub Arf [1, 1, 1, 0, 1, 0])]) (by kernel_rfl) ⟨⟨_, rfl, B1q N⟩, trivial⟩) (by decide) (by decide) (by decide) (fun R x C => Ca1 @Abk @Aau @Afq N R x C), Tryz.f196, Tryz.func196, rfl, by decide⟩
theorem B6i (N : Nat) : Acv Tryz.prog (Bla N) := trivial
theorem Bjd (N : Nat) : Abg Tryz.prog 197 (A86 N) :=
 ⟨Abc (fn := Tryz.f197) (c := Bk9) (dom := (Aas [])) (rs := [.cell 0 218]) mixed htt (Aad (Aam (B6i N))) (Aaf rfl) Tryz.func197 rfl rfl (by kernel_rfl) (Aah (l := []) (by kernel_rfl) trivial) (by decide) (by decide) (by decide) (fun R x C => B54 N R x C), Tryz.f197, Tryz.func197, rfl, by decide⟩
theorem Cei (N : Nat) : Acv Tryz.prog (Bw4 N) := trivial
theorem A61 (N : Nat) : Abg Tryz.prog 277 (A29 N) :=
 ⟨Abc (fn := Tryz.f277) (c := Bw3) (dom := (Aas [])) (rs := [.tmp 6]) mixed htt (Aad (Aam (Cei N))) (Aaf rfl) Tryz.func277 rfl rfl (by kernel_rfl) (Aah (l := []) (by kernel_rfl) trivial) (by decide) (by decide) (by decide) (fun R x C => Ceg N R x C), Tryz.f277, Tryz.func277, rfl, by decide⟩
theorem B93 (N : Nat) : Acv Tryz.prog (B9i N) := ⟨A61 N, trivial⟩
theorem Blz (N : Nat) : Abg Tryz.prog 276 (Bcq N) :=
 ⟨Abc (fn := Tryz.f276) (c := Bn4) (dom := (Aas [])) (rs := [.tmp 2]) mixed htt (Aad (Aam (B93 N))) (Aaf rfl) Tryz.func276 rfl rfl (by kernel_rfl) (Aah (l := []) (by kernel_rfl) trivial) (by decide) (by decide) (by decide) (fun R x C => B91 @Aa2 N R x C), Tryz.f276, Tryz.func276, rfl, by decide⟩
theorem Bgn (N : Nat) : Acv Tryz.prog (Bw6 N) := ⟨A61 N, Blz N, trivial⟩
theorem Bmc (N : Nat) : Aa5 Tryz.prog 102 [] (sub Ap4 [1, 1, 1]) (Aaa Ajd (A7k N)) :=
 Ady (dom := (Aas [42])) mixed htt (Aad (Aam (Bgn N))) (Aaf rfl) (by kernel_rfl) (Aah (l := []) (by kernel_rfl) trivial) A7j (fun R x K => Bow @Aa2 @Aek @Abq N R x K)
theorem Bun (N : Nat) : Abg Tryz.prog 198 (Bfr N) :=
 ⟨Abc (fn := Tryz.f198) (c := Ap4) (dom := (Aas [42])) (rs := [.tmp 6]) mixed htt (Aad (Aam (Bgn N))) (Aaf rfl) Tryz.func198 rfl rfl (by kernel_rfl) (Aah (l := [(42, sub Ap4 [1, 1, 1])]) (by kernel_rfl) ⟨⟨_, rfl, Bmc N⟩, trivial⟩) (by decide) (by decide) (by decide) (fun R x C => Bxy @Aa2 @Aek @Abq N R x C), Tryz.f198, Tryz.func198, rfl, by decide⟩
theorem Bje (N : Nat) : Acv Tryz.prog (Bz2 N) := trivial
theorem Bqs (N : Nat) : Aed Tryz.prog 74 [] (sub Al6 [1, 1, 1, 0, 1, 0, 0]) (Aaa Ah5 (A02 N N)) :=
 Adm (c := sub Al6 [1, 1, 1, 0, 1, 0, 0]) (dom := (Aas [9])) mixed htt (Aad (Aam (Bje N))) (Aaf rfl) (by kernel_rfl) (Aah (l := []) (by kernel_rfl) trivial) Bct (B := (fun _ _ _ => none)) (Aed.none _ _ _ _) (fun _ _ _ => rfl) (fun R k x K => Btx @Aee N R (fun a0 a1 a2 a3 a4 a5 a6 a7 a8 a9 a10 a11 a12 => Aee N k a0 a1 a2 a3 a4 a5 a6 a7 a8 a9 a10 a11 a12 (fun a b d => K .ret (Aab Ap8 (((), (), a, ()), (b, d, ())))) (fun a b d e f g h i j m => K (.exit 0) (Aab Ap9 (((), (), (), a, b, ()), ((d, e, f, g, h, i, ()), j, m, ()))))) x K) N
theorem Bqt (N : Nat) : Aa5 Tryz.prog 74 [] (sub Al6 [1, 1, 1, 0, 1, 0]) (Aaa Ah5 (A02 N N)) := (Bqs N).frag
theorem Bgo (N : Nat) : Abg Tryz.prog 199 (A5m N) :=
 ⟨Abc (fn := Tryz.f199) (c := Al6) (dom := (Aas [9])) (rs := [.tmp 2, .tmp 3, .tmp 4]) mixed htt (Aad (Aam (Bje N))) (Aaf rfl) Tryz.func199 rfl rfl (by kernel_rfl) (Aah (l := [(9, sub Al6 [1, 1, 1, 0, 1, 0])]) (by kernel_rfl) ⟨⟨_, rfl, Bqt N⟩, trivial⟩) (by decide) (by decide) (by decide) (fun R x C => B1i @Aee N R x C), Tryz.f199, Tryz.func199, rfl, by decide⟩
theorem Bpb (N : Nat) : Acv Tryz.prog (B9k N) := trivial
theorem Buo (N : Nat) : Aa5 Tryz.prog 39 [] (sub Aw2 [1, 0, 1, 0, 1]) (Aaa Alj (Bft N)) :=
 Ady (dom := (Aas [12])) mixed htt (Aad (Aam (Bpb N))) (Aaf rfl) (by kernel_rfl) (Aah (l := []) (by kernel_rfl) trivial) Bfs (fun R x K => Bx3 @Aeg N R x K)
theorem Bl0 (N : Nat) : Abg Tryz.prog 206 (Bcz N) :=
 ⟨Abc (fn := Tryz.f206) (c := Aw2) (dom := (Aas [12])) (rs := [.tmp 4]) mixed htt (Aad (Aam (Bpb N))) (Aaf rfl) Tryz.func206 rfl rfl (by kernel_rfl) (Aah (l := [(12, sub Aw2 [1, 0, 1, 0, 1])]) (by kernel_rfl) ⟨⟨_, rfl, Buo N⟩, trivial⟩) (by decide) (by decide) (by decide) (fun R x C => B9z @Aeg N R x C), Tryz.f206, Tryz.func206, rfl, by decide⟩
theorem A0e (N : Nat) : Acv Tryz.prog (B4n N) := ⟨Bl0 N, trivial⟩
theorem Bqu (N : Nat) : Aed Tryz.prog 132 [] (sub Aft [1, 0, 1, 0, 0, 1, 0, 0, 1, 0, 1, 0, 1, 0, 0, 1, 0, 0]) (Aaa Ago (A04 N N)) :=
 Adm (c := sub Aft [1, 0, 1, 0, 0, 1, 0, 0, 1, 0, 1, 0, 1, 0, 0, 1, 0, 0]) (dom := (Aas [17, 44, 5])) mixed htt (Aad (Aam (A0e N))) (Aaf rfl) (by kernel_rfl) (Aah (l := []) (by kernel_rfl) trivial) Bcv (B := (fun _ _ _ => none)) (Aed.none _ _ _ _) (fun _ _ _ => rfl) (fun R k x K => Bty @Abs @Acm @Abj @Ace N R (fun a0 a1 a2 a3 => Acm N k a0 a1 a2 a3 (fun a => K .ret (Aab Aqa ((a, ()), (())))) (fun a b => K (.exit 3) (Aab Aqb ((a, b, ()), (()))))) x K) N
theorem Bqv (N : Nat) : Aa5 Tryz.prog 132 [] (sub Aft [1, 0, 1, 0, 0, 1, 0, 0, 1, 0, 1, 0, 1, 0, 0, 1, 0]) (Aaa Ago (A04 N N)) := (Bqu N).frag
theorem Bqw (N : Nat) : Aa5 Tryz.prog 132 [] (sub Aft [1, 0, 1, 0, 0, 1, 0, 0, 1, 1]) (Aaa Ah6 (Bc1 N)) :=
 Ady (dom := (Aas [17, 44, 5])) mixed htt (Aad (Aam (A0e N))) (Aaf rfl) (by kernel_rfl) (Aah (l := []) (by kernel_rfl) trivial) Bc0 (fun R x K => Bt0 @Abs @Acm @Abj @Ace N R x K)
theorem Bup (N : Nat) : Aed Tryz.prog 132 [] (sub Aft [1, 0, 1, 0, 0]) (Aaa Ag4 (A3g N N)) :=
 Adm (c := sub Aft [1, 0, 1, 0, 0]) (dom := (Aas [17, 44, 5])) mixed htt (Aad (Aam (A0e N))) (Aaf rfl) (by kernel_rfl) (Aah (l := [(17, sub Aft [1, 0, 1, 0, 0, 1, 0, 0, 1, 0, 1, 0, 1, 0, 0, 1, 0]), (44, sub Aft [1, 0, 1, 0, 0, 1, 0, 0, 1, 1])]) (by kernel_rfl) ⟨⟨_, rfl, Bqv N⟩, ⟨_, rfl, Bqw N⟩, trivial⟩) Bfu (B := (fun _ _ _ => none)) (Aed.none _ _ _ _) (fun _ _ _ => rfl) (fun R k x K => Bxx @Abs @Acm @Abj @Ace N R (fun a0 a1 => Ace N k a0 a1 (fun a => K .ret (Aab Arm ((a, ()), (())))) (fun a => K (.exit 0) (Aab Arn ((a, ()), (()))))) x K) N
theorem Buq (N : Nat) : Aa5 Tryz.prog 132 [] (sub Aft [1, 0, 1, 0]) (Aaa Ag4 (A3g N N)) := (Bup N).frag
theorem B1r (N : Nat) : Abg Tryz.prog 200 (Blb N) :=
 ⟨Abc (fn := Tryz.f200) (c := Aft) (dom := (Aas [17, 44, 5])) (rs := [.tmp 2]) mixed htt (Aad (Aam (A0e N))) (Aaf rfl) Tryz.func200 rfl rfl (by kernel_rfl) (Aah (l := [(5, sub Aft [1, 0, 1, 0])]) (by kernel_rfl) ⟨⟨_, rfl, Buq N⟩, trivial⟩) (by decide) (by decide) (by decide) (fun R x C => B58 @Abs @Acm @Abj @Ace N R x C), Tryz.f200, Tryz.func200, rfl, by decide⟩
theorem Bya (N : Nat) : Acv Tryz.prog (Bw9 N) := ⟨Blz N, trivial⟩
theorem Bur (N : Nat) : Abg Tryz.prog 279 (Bfx N) :=
 ⟨Abc (fn := Tryz.f279) (c := Bfw) (dom := (Aas [])) (rs := [.tmp 2]) mixed htt (Aad (Aam (Bya N))) (Aaf rfl) Tryz.func279 rfl rfl (by kernel_rfl) (Aah (l := []) (by kernel_rfl) trivial) (by decide) (by decide) (by decide) (fun R x C => Bx9 @Aek N R x C), Tryz.f279, Tryz.func279, rfl, by decide⟩
theorem Au3 (N : Nat) : Acv Tryz.prog (A9a N) := ⟨Bur N, trivial⟩
theorem A45 (N : Nat) : Aed Tryz.prog 19 [] (sub Afu [1, 0, 1, 0, 0]) (Aaa Adn (Amb N N)) :=
 Adm (c := sub Afu [1, 0, 1, 0, 0]) (dom := (Aas [5])) mixed htt (Aad (Aam (Au3 N))) (Aaf rfl) (by kernel_rfl) (Aah (l := []) (by kernel_rfl) trivial) Ash (B := (fun _ _ _ => none)) (Aed.none _ _ _ _) (fun _ _ _ => rfl) (fun R k x K => A6m @Ae4 @Aa4 N R (fun a0 a1 a2 => Aa4 N k a0 a1 a2 (fun a => K .ret (Aab Ai2 ((a, ()), (())))) (K (.exit 0) (Aab Ai3 ((()), (()))))) x K) N
theorem A46 (N : Nat) : Aa5 Tryz.prog 19 [] (sub Afu [1, 0, 1, 0]) (Aaa Adn (Amb N N)) := (A45 N).frag
theorem A8g (N : Nat) : Abg Tryz.prog 302 (Aut N) :=
 ⟨Abc (fn := Tryz.f302) (c := Afu) (dom := (Aas [5])) (rs := [.tmp 4]) mixed htt (Aad (Aam (Au3 N))) (Aaf rfl) Tryz.func302 rfl rfl (by kernel_rfl) (Aah (l := [(5, sub Afu [1, 0, 1, 0])]) (by kernel_rfl) ⟨⟨_, rfl, A46 N⟩, trivial⟩) (by decide) (by decide) (by decide) (fun R x C => Baq @Ae4 @Aa4 N R x C), Tryz.f302, Tryz.func302, rfl, by decide⟩
theorem A47 (N : Nat) : Acv Tryz.prog (A43 N) := ⟨A8g N, trivial⟩
theorem A4v (N : Nat) : Abg Tryz.prog 278 (Ari N) :=
 ⟨Abc (fn := Tryz.f278) (c := Arh) (dom := (Aas [])) (rs := [.tmp 4]) mixed htt (Aad (Aam (A47 N))) (Aaf rfl) Tryz.func278 rfl rfl (by kernel_rfl) (Aah (l := []) (by kernel_rfl) trivial) (by decide) (by decide) (by decide) (fun R x C => A44 @Ac8 N R x C), Tryz.f278, Tryz.func278, rfl, by decide⟩
theorem Bar (N : Nat) : Acv Tryz.prog (B4r N) := ⟨Bpa N, A4v N, A61 N, trivial⟩
theorem Bqx (N : Nat) : Aed Tryz.prog 78 [] (sub Ahr [1, 1, 1, 0, 1, 0, 0]) (Aaa Ahe (A07 N N)) :=
 Adm (c := sub Ahr [1, 1, 1, 0, 1, 0, 0]) (dom := (Aas [5, 27])) mixed htt (Aad (Aam (Bar N))) (Aaf rfl) (by kernel_rfl) (Aah (l := []) (by kernel_rfl) trivial) Bc2 (B := (fun _ _ _ => none)) (Aed.none _ _ _ _) (fun _ _ _ => rfl) (fun R k x K => Bue @Acx @Aax @Aa2 @Adj @Ac0 N R (fun a0 a1 a2 a3 a4 a5 a6 a7 a8 a9 => Ac0 N k a0 a1 a2 a3 a4 a5 a6 a7 a8 a9 (fun a => K .ret (Aab Aqf ((a, ()), (())))) (K (.exit 2) (Aab Aqg ((()), (()))))) x K) N
theorem Bqy (N : Nat) : Aa5 Tryz.prog 78 [] (sub Ahr [1, 1, 1, 0, 1, 0]) (Aaa Ahe (A07 N N)) := (Bqx N).frag
theorem Bus (N : Nat) : Aed Tryz.prog 78 [] (sub Ahr [1, 0, 1, 0, 0]) (Aaa Ahx (A3l N N)) :=
 Adm (c := sub Ahr [1, 0, 1, 0, 0]) (dom := (Aas [5, 27])) mixed htt (Aad (Aam (Bar N))) (Aaf rfl) (by kernel_rfl) (Aah (l := []) (by kernel_rfl) trivial) Bfy (B := (fun _ _ _ => none)) (Aed.none _ _ _ _) (fun _ _ _ => rfl) (fun R k x K => Bxt @Acx @Aax @Aa2 @Adj @Ac0 N R (fun a0 a1 a2 a3 a4 a5 a6 a7 a8 => Adj N k a0 a1 a2 a3 a4 a5 a6 a7 a8 (fun a => K .ret (Aab Arp ((a, ()), (())))) (fun a b d e f g => K (.exit 0) (Aab Arq (((), ()), ((a, b, d, e, f, g, ()), ()))))) x K) N
theorem But (N : Nat) : Aa5 Tryz.prog 78 [] (sub Ahr [1, 0, 1, 0]) (Aaa Ahx (A3l N N)) := (Bus N).frag
theorem B1s (N : Nat) : Abg Tryz.prog 201 (Blc N) :=
 ⟨Abc (fn := Tryz.f201) (c := Ahr) (dom := (Aas [5, 27])) (rs := [.tmp 2]) mixed htt (Aad (Aam (Bar N))) (Aaf rfl) Tryz.func201 rfl rfl (by kernel_rfl) (Aah (l := [(5, sub Ahr [1, 0, 1, 0]), (27, sub Ahr [1, 1, 1, 0, 1, 0])]) (by kernel_rfl) ⟨⟨_, rfl, But N⟩, ⟨_, rfl, Bqy N⟩, trivial⟩) (by decide) (by decide) (by decide) (fun R x C => B57 @Acx @Aax @Aa2 @Adj @Ac0 N R x C), Tryz.f201, Tryz.func201, rfl, by decide⟩
theorem Bl1 (N : Nat) : Acv Tryz.prog (B4t N) := trivial
theorem Bqz (N : Nat) : Aa5 Tryz.prog 17 [] (sub Auv [1, 0, 1, 0, 1]) (Aaa Akn (Bc5 N)) :=
 Ady (dom := (Aas [14])) mixed htt (Aad (Aam (Bl1 N))) (Aaf rfl) (by kernel_rfl) (Aah (l := []) (by kernel_rfl) trivial) Bc4 (fun R x K => Bt5 @Ado N R x K)
theorem Bjf (N : Nat) : Abg Tryz.prog 202 (A9f N) :=
 ⟨Abc (fn := Tryz.f202) (c := Auv) (dom := (Aas [14])) (rs := [.tmp 2]) mixed htt (Aad (Aam (Bl1 N))) (Aaf rfl) Tryz.func202 rfl rfl (by kernel_rfl) (Aah (l := [(14, sub Auv [1, 0, 1, 0, 1])]) (by kernel_rfl) ⟨⟨_, rfl, Bqz N⟩, trivial⟩) (by decide) (by decide) (by decide) (fun R x C => B6e @Ado N R x C), Tryz.f202, Tryz.func202, rfl, by decide⟩
theorem A0f (N : Nat) : Acv Tryz.prog (B4v N) := ⟨Bpa N, Bjd N, Bun N, Bgo N, B1r N, B1s N, Bjf N, trivial⟩
theorem Bq0 (N : Nat) : Aa5 Tryz.prog 111 [] (sub Afs [1, 1, 1, 1, 1, 1, 1, 0, 1, 0, 0, 1, 1, 0, 0, 1, 1]) (Aaa Ah7 (Bc7 N)) :=
 Ady (dom := (Aas [13, 40, 33])) mixed htt (Aad (Aam (A0f N))) (Aaf rfl) (by kernel_rfl) (Aah (l := []) (by kernel_rfl) trivial) Bc6 (fun R x K => Btr @Acx @Acg @Ada @Abt @Ad3 @Ad4 @Ab0 @Acu @Ac1 @Acn N R x K)
theorem Bq1 (N : Nat) : Aed Tryz.prog 111 [] (sub Afs [1, 1, 1, 1, 1, 1, 1, 0, 1, 0, 0]) (Aaa Agp (A1c N N)) :=
 Adm (c := sub Afs [1, 1, 1, 1, 1, 1, 1, 0, 1, 0, 0]) (dom := (Aas [13, 40, 33])) mixed htt (Aad (Aam (A0f N))) (Aaf rfl) (by kernel_rfl) (Aah (l := [(40, sub Afs [1, 1, 1, 1, 1, 1, 1, 0, 1, 0, 0, 1, 1, 0, 0, 1, 1])]) (by kernel_rfl) ⟨⟨_, rfl, Bq0 N⟩, trivial⟩) Bc8 (B := (fun _ _ _ => none)) (Aed.none _ _ _ _) (fun _ _ _ => rfl) (fun R k x K => Btq @Acx @Acg @Ada @Abt @Ad3 @Ad4 @Ab0 @Acu @Ac1 @Acn N R (fun a0 a1 a2 a3 a4 a5 => Acn N k a0 a1 a2 a3 a4 a5 (fun a => K .ret (Aab Aqh ((a, ()), (())))) (K (.exit 2) (Aab Aqi ((()), (()))))) x K) N
theorem Bq2 (N : Nat) : Aa5 Tryz.prog 111 [] (sub Afs [1, 1, 1, 1, 1, 1, 1, 0, 1, 0]) (Aaa Agp (A1c N N)) := (Bq1 N).frag
theorem Bq3 (N : Nat) : Aed Tryz.prog 111 [] (sub Afs [1, 1, 1, 0, 1, 0, 0]) (Aaa Agn (A0y N N)) :=
 Adm (c := sub Afs [1, 1, 1, 0, 1, 0, 0]) (dom := (Aas [13, 40, 33])) mixed htt (Aad (Aam (A0f N))) (Aaf rfl) (by kernel_rfl) (Aah (l := []) (by kernel_rfl) trivial) Bcr (B := (fun _ _ _ => none)) (Aed.none _ _ _ _) (fun _ _ _ => rfl) (fun R k x K => Bt7 @Acx @Acg @Ada @Abt @Ad3 @Ad4 @Ab0 @Acu @Ac1 @Acn N R (fun a0 a1 a2 a3 a4 a5 a6 a7 a8 a9 => Acu N k a0 a1 a2 a3 a4 a5 a6 a7 a8 a9 (fun a => K .ret (Aab Ap6 ((a, ()), (())))) (fun a b d e f g => K (.exit 0) (Aab Ap7 (((), ()), ((a, b, d, e, f, g, ()), ()))))) x K) N
theorem Bq4 (N : Nat) : Aa5 Tryz.prog 111 [] (sub Afs [1, 1, 1, 0, 1, 0]) (Aaa Agn (A0y N N)) := (Bq3 N).frag
theorem B1t (N : Nat) : Abg Tryz.prog 133 (Ble N) :=
 ⟨Abc (fn := Tryz.f133) (c := Afs) (dom := (Aas [13, 40, 33])) (rs := [.tmp 2]) mixed htt (Aad (Aam (A0f N))) (Aaf rfl) Tryz.func133 rfl rfl (by kernel_rfl) (Aah (l := [(13, sub Afs [1, 1, 1, 0, 1, 0]), (33, sub Afs [1, 1, 1, 1, 1, 1, 1, 0, 1, 0])]) (by kernel_rfl) ⟨⟨_, rfl, Bq4 N⟩, ⟨_, rfl, Bq2 N⟩, trivial⟩) (by decide) (by decide) (by decide) (fun R x C => B5t @Acx @Acg @Ada @Abt @Ad3 @Ad4 @Ab0 @Acu @Ac1 @Acn N R x C), Tryz.f133, Tryz.func133, rfl, by decide⟩
theorem Bex (N : Nat) : Acv Tryz.prog (B9m N) := ⟨A61 N, trivial⟩
theorem Byb (N : Nat) : Aa5 Tryz.prog 55 [] (sub Am3 [1, 0, 1, 0, 1]) (Aaa Aky (Bic N)) :=
 Ady (dom := (Aas [8, 30])) mixed htt (Aad (Aam (Bex N))) (Aaf rfl) (by kernel_rfl) (Aah (l := []) (by kernel_rfl) trivial) Bib (fun R x K => B03 @Aa2 @Aez @Ad8 N R x K)
theorem Buu (N : Nat) : Aa5 Tryz.prog 55 [] (sub Am3 [1, 1]) (Aaa Akh (Bf1 N)) :=
 Ady (dom := (Aas [8, 30])) mixed htt (Aad (Aam (Bex N))) (Aaf rfl) (by kernel_rfl) (Aah (l := []) (by kernel_rfl) trivial) Bf0 (fun R x K => Bxz @Aa2 @Aez @Ad8 N R x K)
theorem B6j (N : Nat) : Abg Tryz.prog 203 (Bn5 N) :=
 ⟨Abc (fn := Tryz.f203) (c := Am3) (dom := (Aas [8, 30])) (rs := [.tmp 8]) mixed htt (Aad (Aam (Bex N))) (Aaf rfl) Tryz.func203 rfl rfl (by kernel_rfl) (Aah (l := [(8, sub Am3 [1, 0, 1, 0, 1]), (30, sub Am3 [1, 1])]) (by kernel_rfl) ⟨⟨_, rfl, Byb N⟩, ⟨_, rfl, Buu N⟩, trivial⟩) (by decide) (by decide) (by decide) (fun R x C => B9y @Aa2 @Aez @Ad8 N R x C), Tryz.f203, Tryz.func203, rfl, by decide⟩
theorem Bas (N : Nat) : Acv Tryz.prog (B4x N) := trivial
theorem Bq5 (N : Nat) : Aa5 Tryz.prog 32 [] (sub Alu [1, 0, 1, 0, 1]) (Aaa Ajh (Bde N)) :=
 Ady (dom := (Aas [16, 18])) mixed htt (Aad (Aam (Bas N))) (Aaf rfl) (by kernel_rfl) (Aah (l := []) (by kernel_rfl) trivial) Bdd (fun R x K => Bum @Adp @Ad1 N R x K)
theorem Bq6 (N : Nat) : Aa5 Tryz.prog 32 [] (sub Alu [1, 1]) (Aaa Aji (Bdg N)) :=
 Ady (dom := (Aas [16, 18])) mixed htt (Aad (Aam (Bas N))) (Aaf rfl) (by kernel_rfl) (Aah (l := []) (by kernel_rfl) trivial) Bdf (fun R x K => Bt4 @Adp @Ad1 N R x K)
theorem B1u (N : Nat) : Abg Tryz.prog 204 (Blf N) :=
 ⟨Abc (fn := Tryz.f204) (c := Alu) (dom := (Aas [16, 18])) (rs := [.tmp 6]) mixed htt (Aad (Aam (Bas N))) (Aaf rfl) Tryz.func204 rfl rfl (by kernel_rfl) (Aah (l := [(16, sub Alu [1, 0, 1, 0, 1]), (18, sub Alu [1, 1])]) (by kernel_rfl) ⟨⟨_, rfl, Bq5 N⟩, ⟨_, rfl, Bq6 N⟩, trivial⟩) (by decide) (by decide) (by decide) (fun R x C => B5y @Adp @Ad1 N R x C), Tryz.f204, Tryz.func204, rfl, by decide⟩
theorem Bl2 (N : Nat) : Acv Tryz.prog (B4z N) := trivial
theorem Buv (N : Nat) : Aed Tryz.prog 14 [] (sub Anq [1, 0, 0, 0]) (Aaa Ai4 (A3p N N)) :=
 Adm (c := sub Anq [1, 0, 0, 0]) (dom := (Aas [3])) mixed htt (Aad (Aam (Bl2 N))) (Aaf rfl) (by kernel_rfl) (Aah (l := []) (by kernel_rfl) trivial) Bf2 (B := (fun _ _ _ => none)) (Aed.none _ _ _ _) (fun _ _ _ => rfl) (fun R k x K => Bx7 @Aeo N R (fun a0 a1 => Aeo N k a0 a1 (fun a => K (.exit 0) (Aab Arr ((a, ()), (()))))) x K) N
theorem Buw (N : Nat) : Aa5 Tryz.prog 14 [] (sub Anq [1, 0, 0]) (Aaa Ai4 (A3p N N)) := (Buv N).frag
theorem B1v (N : Nat) : Abg Tryz.prog 205 (Blg N) :=
 ⟨Abc (fn := Tryz.f205) (c := Anq) (dom := (Aas [3])) (rs := [.tmp 4]) mixed htt (Aad (Aam (Bl2 N))) (Aaf rfl) Tryz.func205 rfl rfl (by kernel_rfl) (Aah (l := [(3, sub Anq [1, 0, 0])]) (by kernel_rfl) ⟨⟨_, rfl, Buw N⟩, trivial⟩) (by decide) (by decide) (by decide) (fun R x C => B53 @Aeo N R x C), Tryz.f205, Tryz.func205, rfl, by decide⟩
theorem Bgp (N : Nat) : Acv Tryz.prog (Bxc N) := ⟨Bjd N, Bgo N, B6j N, B1u N, Bjf N, B1v N, Bl0 N, trivial⟩
theorem Bmd (N : Nat) : Aed Tryz.prog 114 [] (sub Alk [1, 1, 1, 1, 0, 1, 0, 0]) (Aaa Ag5 (Axe N N)) :=
 Adm (c := sub Alk [1, 1, 1, 1, 0, 1, 0, 0]) (dom := (Aas [11])) mixed htt (Aad (Aam (Bgp N))) (Aaf rfl) (by kernel_rfl) (Aah (l := []) (by kernel_rfl) trivial) A7l (B := (fun _ _ _ => none)) (Aed.none _ _ _ _) (fun _ _ _ => rfl) (fun R k x K => Boz @Acg @Abt @Afp @Ae8 @Ab0 @Adc @Abs @Ac6 N R (fun a0 a1 a2 a3 a4 a5 a6 a7 a8 a9 a10 a11 => Ac6 N k a0 a1 a2 a3 a4 a5 a6 a7 a8 a9 a10 a11 (fun a => K .ret (Aab An4 ((a, ()), (())))) (K (.exit 0) (Aab An5 ((()), (()))))) x K) N
theorem Bme (N : Nat) : Aa5 Tryz.prog 114 [] (sub Alk [1, 1, 1, 1, 0, 1, 0]) (Aaa Ag5 (Axe N N)) := (Bmd N).frag
theorem Bux (N : Nat) : Abg Tryz.prog 134 (Bf5 N) :=
 ⟨Abc (fn := Tryz.f134) (c := Alk) (dom := (Aas [11])) (rs := [.tmp 2]) mixed htt (Aad (Aam (Bgp N))) (Aaf rfl) Tryz.func134 rfl rfl (by kernel_rfl) (Aah (l := [(11, sub Alk [1, 1, 1, 1, 0, 1, 0])]) (by kernel_rfl) ⟨⟨_, rfl, Bme N⟩, trivial⟩) (by decide) (by decide) (by decide) (fun R x C => Bxw @Acg @Abt @Afp @Ae8 @Ab0 @Adc @Abs @Ac6 N R x C), Tryz.f134, Tryz.func134, rfl, by decide⟩
theorem B6k (N : Nat) : Acv Tryz.prog (B41 N) := ⟨B1o N, B1t N, Bux N, trivial⟩
theorem B1w (N : Nat) : Abg Tryz.prog 77 (Blh N) :=
 ⟨Abc (fn := Tryz.f77) (c := Bk4) (dom := (Aas [])) (rs := [.tmp 2]) mixed htt (Aad (Aam (B6k N))) (Aaf rfl) Tryz.func77 rfl rfl (by kernel_rfl) (Aah (l := []) (by kernel_rfl) trivial) (by decide) (by decide) (by decide) (fun R x C => B6a @Aiu @Aiv @Ag0 N R x C), Tryz.f77, Tryz.func77, rfl, by decide⟩
theorem Bsj (N : Nat) : Acv Tryz.prog (Cax N) := trivial
theorem B1x (N : Nat) : Aa5 Tryz.prog 37 [] (sub Az0 [1, 0, 1, 0, 1]) (Aaa Ans (Blj N)) :=
 Ady (dom := (Aas [8])) mixed htt (Aad (Aam (Bsj N))) (Aaf rfl) (by kernel_rfl) (Aah (l := []) (by kernel_rfl) trivial) Bli (fun R x K => B6d @Agv N R x K)
theorem B94 (N : Nat) : Abg Tryz.prog 40 (Bsf N) :=
 ⟨Abc (fn := Tryz.f40) (c := Az0) (dom := (Aas [8])) (rs := [.tmp 4]) mixed htt (Aad (Aam (Bsj N))) (Aaf rfl) Tryz.func40 rfl rfl (by kernel_rfl) (Aah (l := [(8, sub Az0 [1, 0, 1, 0, 1])]) (by kernel_rfl) ⟨⟨_, rfl, B1x N⟩, trivial⟩) (by decide) (by decide) (by decide) (fun R x C => Ca0 @Agv N R x C), Tryz.f40, Tryz.func40, rfl, by decide⟩
theorem B1y (N : Nat) : Acv Tryz.prog (Bz5 N) := ⟨B94 N, trivial⟩
theorem Byc (N : Nat) : Abg Tryz.prog 39 (Bie N) :=
 ⟨Abc (fn := Tryz.f39) (c := Bid) (dom := (Aas [])) (rs := [.tmp 3]) mixed htt (Aad (Aam (B1y N))) (Aaf rfl) Tryz.func39 rfl rfl (by kernel_rfl) (Aah (l := []) (by kernel_rfl) trivial) (by decide) (by decide) (by decide) (fun R x C => B08 @Akz N R x C), Tryz.f39, Tryz.func39, rfl, by decide⟩
theorem B1z (N : Nat) : Acv Tryz.prog (Bih N) := trivial
theorem Byd (N : Nat) : Abg Tryz.prog 41 (Big N) :=
 ⟨Abc (fn := Tryz.f41) (c := Bif) (dom := (Aas [])) (rs := [.tmp 3]) mixed htt (Aad (Aam (B1z N))) (Aaf rfl) Tryz.func41 rfl rfl (by kernel_rfl) (Aah (l := []) (by kernel_rfl) trivial) (by decide) (by decide) (by decide) (fun R x C => B09 N R x C), Tryz.f41, Tryz.func41, rfl, by decide⟩
theorem Bey (N : Nat) : Acv Tryz.prog (B9o N) := ⟨B1w N, Byc N, Byd N, trivial⟩
theorem Buy (N : Nat) : Aed Tryz.prog 123 [] (sub Aim [1, 1, 1, 1, 1, 1, 0, 1, 0, 0]) (Aaa Ahy (A3w N N)) :=
 Adm (c := sub Aim [1, 1, 1, 1, 1, 1, 0, 1, 0, 0]) (dom := (Aas [11, 35])) mixed htt (Aad (Aam (Bey N))) (Aaf rfl) (by kernel_rfl) (Aah (l := []) (by kernel_rfl) trivial) Bf6 (B := (fun _ _ _ => none)) (Aed.none _ _ _ _) (fun _ _ _ => rfl) (fun R k x K => Bxr @Ae9 @Adg @Ae0 @Adi @Adk N R (fun a0 a1 a2 a3 a4 a5 a6 a7 a8 a9 a10 a11 a12 => Adk N k a0 a1 a2 a3 a4 a5 a6 a7 a8 a9 a10 a11 a12 (fun a b d e f g h => K .ret (Aab Art ((a, b, ()), ((d, e, f, g, h, ()), ())))) (fun a b d e f => K (.exit 3) (Aab Aru ((()), ((a, b, d, e, f, ()), ()))))) x K) N
theorem Buz (N : Nat) : Aa5 Tryz.prog 123 [] (sub Aim [1, 1, 1, 1, 1, 1, 0, 1, 0]) (Aaa Ahy (A3w N N)) := (Buy N).frag
theorem Bu0 (N : Nat) : Aed Tryz.prog 123 [] (sub Aim [1, 1, 1, 0, 1, 0, 0]) (Aaa Ahw (A24 N N)) :=
 Adm (c := sub Aim [1, 1, 1, 0, 1, 0, 0]) (dom := (Aas [11, 35])) mixed htt (Aad (Aam (Bey N))) (Aaf rfl) (by kernel_rfl) (Aah (l := []) (by kernel_rfl) trivial) Bfp (B := (fun _ _ _ => none)) (Aed.none _ _ _ _) (fun _ _ _ => rfl) (fun R k x K => Bx4 @Ae9 @Adg @Ae0 @Adi @Adk N R (fun a0 a1 a2 a3 a4 a5 a6 a7 a8 a9 a10 a11 a12 a13 a14 a15 a16 a17 => Adi N k a0 a1 a2 a3 a4 a5 a6 a7 a8 a9 a10 a11 a12 a13 a14 a15 a16 a17 (fun a b d e f g h i j m n o p q r s => K (.exit 0) (Aab Ark (((), (), (), (), ()), ((a, b, d, e, f, ()), (g, h, i, j, m, ()), (n, o, (), p, q, r, ()), s, ()))))) x K) N
theorem Bu1 (N : Nat) : Aa5 Tryz.prog 123 [] (sub Aim [1, 1, 1, 0, 1, 0]) (Aaa Ahw (A24 N N)) := (Bu0 N).frag
theorem B6l (N : Nat) : Abg Tryz.prog 38 (Bn6 N) :=
 ⟨Abc (fn := Tryz.f38) (c := Aim) (dom := (Aas [11, 35])) (rs := [.tmp 6, .tmp 7]) mixed htt (Aad (Aam (Bey N))) (Aaf rfl) Tryz.func38 rfl rfl (by kernel_rfl) (Aah (l := [(11, sub Aim [1, 1, 1, 0, 1, 0]), (35, sub Aim [1, 1, 1, 1, 1, 1, 0, 1, 0])]) (by kernel_rfl) ⟨⟨_, rfl, Bu1 N⟩, ⟨_, rfl, Buz N⟩, trivial⟩) (by decide) (by decide) (by decide) (fun R x C => B9x @Ae9 @Adg @Ae0 @Adi @Adk N R x C), Tryz.f38, Tryz.func38, rfl, by decide⟩
theorem B95 (N : Nat) : Acv Tryz.prog (Bn9 N) := trivial
theorem B6m (N : Nat) : Abg Tryz.prog 42 (Bn8 N) :=
 ⟨Abc (fn := Tryz.f42) (c := Bn7) (dom := (Aas [])) (rs := [.tmp 2]) mixed htt (Aad (Aam (B95 N))) (Aaf rfl) Tryz.func42 rfl rfl (by kernel_rfl) (Aah (l := []) (by kernel_rfl) trivial) (by decide) (by decide) (by decide) (fun R x C => B92 N R x C), Tryz.f42, Tryz.func42, rfl, by decide⟩
theorem B10 (N : Nat) : Acv Tryz.prog (Bik N) := trivial
theorem Bye (N : Nat) : Abg Tryz.prog 78 (Bij N) :=
 ⟨Abc (fn := Tryz.f78) (c := Bii) (dom := (Aas [])) (rs := [.tmp 2]) mixed htt (Aad (Aam (B10 N))) (Aaf rfl) Tryz.func78 rfl rfl (by kernel_rfl) (Aah (l := []) (by kernel_rfl) trivial) (by decide) (by decide) (by decide) (fun R x C => B1j N R x C), Tryz.f78, Tryz.func78, rfl, by decide⟩
theorem A62 (N : Nat) : Acv Tryz.prog (Caz N) := trivial
theorem Byf (N : Nat) : Aa5 Tryz.prog 57 [] (sub Akj [1, 0, 1, 0, 1, 1, 1, 1, 1, 1, 1]) (Aaa Aj2 (Bin N)) :=
 Ady (dom := (Aas [24, 18, 12])) mixed htt (Aad (Aam (A62 N))) (Aaf rfl) (by kernel_rfl) (Aah (l := []) (by kernel_rfl) trivial) Bim (fun R x K => B1e @Adu @Ad5 @Ad6 N R x K)
theorem Byg (N : Nat) : Aa5 Tryz.prog 57 [] (sub Akj [1, 0, 1, 0, 1, 1, 1, 1, 1]) (Aaa Aj3 (Bip N)) :=
 Ady (dom := (Aas [24, 18, 12])) mixed htt (Aad (Aam (A62 N))) (Aaf rfl) (by kernel_rfl) (Aah (l := [(24, sub Akj [1, 0, 1, 0, 1, 1, 1, 1, 1, 1, 1])]) (by kernel_rfl) ⟨⟨_, rfl, Byf N⟩, trivial⟩) Bio (fun R x K => B04 @Adu @Ad5 @Ad6 N R x K)
theorem Byh (N : Nat) : Aa5 Tryz.prog 57 [] (sub Akj [1, 0, 1, 0, 1, 1, 1]) (Aaa Aj4 (Bir N)) :=
 Ady (dom := (Aas [24, 18, 12])) mixed htt (Aad (Aam (A62 N))) (Aaf rfl) (by kernel_rfl) (Aah (l := [(18, sub Akj [1, 0, 1, 0, 1, 1, 1, 1, 1])]) (by kernel_rfl) ⟨⟨_, rfl, Byg N⟩, trivial⟩) Biq (fun R x K => B05 @Adu @Ad5 @Ad6 N R x K)
theorem B96 (N : Nat) : Abg Tryz.prog 135 (Bsh N) :=
 ⟨Abc (fn := Tryz.f135) (c := Akj) (dom := (Aas [24, 18, 12])) (rs := [.tmp 6]) mixed htt (Aad (Aam (A62 N))) (Aaf rfl) Tryz.func135 rfl rfl (by kernel_rfl) (Aah (l := [(12, sub Akj [1, 0, 1, 0, 1, 1, 1])]) (by kernel_rfl) ⟨⟨_, rfl, Byh N⟩, trivial⟩) (by decide) (by decide) (by decide) (fun R x C => Ca2 @Adu @Ad5 @Ad6 N R x C), Tryz.f135, Tryz.func135, rfl, by decide⟩
theorem Bpc (N : Nat) : Acv Tryz.prog (Bob N) := ⟨B96 N, trivial⟩
theorem Bmf (N : Nat) : Abg Tryz.prog 80 (A7o N) :=
 ⟨Abc (fn := Tryz.f80) (c := A7m) (dom := (Aas [])) (rs := [.tmp 4]) mixed htt (Aad (Aam (Bpc N))) (Aaf rfl) Tryz.func80 rfl rfl (by kernel_rfl) (Aah (l := []) (by kernel_rfl) trivial) (by decide) (by decide) (by decide) (fun R x C => Bo9 @Ak3 N R x C), Tryz.f80, Tryz.func80, rfl, by decide⟩
theorem B11 (N : Nat) : Acv Tryz.prog (B0g N) := ⟨Bmf N, trivial⟩
theorem Bgq (N : Nat) : Abg Tryz.prog 79 (A5w N) :=
 ⟨Abc (fn := Tryz.f79) (c := Bil) (dom := (Aas [])) (rs := [.tmp 3]) mixed htt (Aad (Aam (B11 N))) (Aaf rfl) Tryz.func79 rfl rfl (by kernel_rfl) (Aah (l := []) (by kernel_rfl) trivial) (by decide) (by decide) (by decide) (fun R x C => B1f @Afv N R x C), Tryz.f79, Tryz.func79, rfl, by decide⟩
theorem Bpd (N : Nat) : Acv Tryz.prog (A7q N) := trivial
theorem Avi (N : Nat) : Abg Tryz.prog 82 (Aqn N) :=
 ⟨Abc (fn := Tryz.f82) (c := A7p) (dom := (Aas [])) (rs := [.tmp 4]) mixed htt (Aad (Aam (Bpd N))) (Aaf rfl) Tryz.func82 rfl rfl (by kernel_rfl) (Aah (l := []) (by kernel_rfl) trivial) (by decide) (by decide) (by decide) (fun R x C => Boy N R x C), Tryz.f82, Tryz.func82, rfl, by decide⟩
theorem B12 (N : Nat) : Acv Tryz.prog (B0i N) := ⟨Avi N, trivial⟩
theorem Byi (N : Nat) : Abg Tryz.prog 81 (Bit N) :=
 ⟨Abc (fn := Tryz.f81) (c := Bis) (dom := (Aas [])) (rs := [.tmp 3]) mixed htt (Aad (Aam (B12 N))) (Aaf rfl) Tryz.func81 rfl rfl (by kernel_rfl) (Aah (l := []) (by kernel_rfl) trivial) (by decide) (by decide) (by decide) (fun R x C => B06 @Abd N R x C), Tryz.f81, Tryz.func81, rfl, by decide⟩
theorem B13 (N : Nat) : Acv Tryz.prog (B0k N) := ⟨Bgq N, trivial⟩
theorem Byj (N : Nat) : Abg Tryz.prog 83 (Biv N) :=
 ⟨Abc (fn := Tryz.f83) (c := Biu) (dom := (Aas [])) (rs := [.tmp 3]) mixed htt (Aad (Aam (B13 N))) (Aaf rfl) Tryz.func83 rfl rfl (by kernel_rfl) (Aah (l := []) (by kernel_rfl) trivial) (by decide) (by decide) (by decide) (fun R x C => B1h @Aay N R x C), Tryz.f83, Tryz.func83, rfl, by decide⟩
theorem B14 (N : Nat) : Acv Tryz.prog (Biy N) := trivial
theorem Byk (N : Nat) : Abg Tryz.prog 84 (Bix N) :=
 ⟨Abc (fn := Tryz.f84) (c := Biw) (dom := (Aas [])) (rs := [.tmp 2]) mixed htt (Aad (Aam (B14 N))) (Aaf rfl) Tryz.func84 rfl rfl (by kernel_rfl) (Aah (l := []) (by kernel_rfl) trivial) (by decide) (by decide) (by decide) (fun R x C => B1a N R x C), Tryz.f84, Tryz.func84, rfl, by decide⟩
theorem B15 (N : Nat) : Acv Tryz.prog (B0p N) := ⟨Avi N, trivial⟩
theorem Byl (N : Nat) : Abg Tryz.prog 85 (Bi0 N) :=
 ⟨Abc (fn := Tryz.f85) (c := Biz) (dom := (Aas [])) (rs := [.tmp 3]) mixed htt (Aad (Aam (B15 N))) (Aaf rfl) Tryz.func85 rfl rfl (by kernel_rfl) (Aah (l := []) (by kernel_rfl) trivial) (by decide) (by decide) (by decide) (fun R x C => B1g @Abd N R x C), Tryz.f85, Tryz.func85, rfl, by decide⟩
theorem B16 (N : Nat) : Acv Tryz.prog (B0r N) := ⟨Avi N, trivial⟩
theorem Bym (N : Nat) : Abg Tryz.prog 86 (Bi2 N) :=
 ⟨Abc (fn := Tryz.f86) (c := Bi1) (dom := (Aas [])) (rs := [.tmp 3]) mixed htt (Aad (Aam (B16 N))) (Aaf rfl) Tryz.func86 rfl rfl (by kernel_rfl) (Aah (l := []) (by kernel_rfl) trivial) (by decide) (by decide) (by decide) (fun R x C => B07 @Abd N R x C), Tryz.f86, Tryz.func86, rfl, by decide⟩
theorem B17 (N : Nat) : Acv Tryz.prog (Bi5 N) := trivial
theorem Byn (N : Nat) : Abg Tryz.prog 44 (Bi4 N) :=
 ⟨Abc (fn := Tryz.f44) (c := Bi3) (dom := (Aas [])) (rs := [.tmp 2]) mixed htt (Aad (Aam (B17 N))) (Aaf rfl) Tryz.func44 rfl rfl (by kernel_rfl) (Aah (l := []) (by kernel_rfl) trivial) (by decide) (by decide) (by decide) (fun R x C => B1k N R x C), Tryz.f44, Tryz.func44, rfl, by decide⟩
theorem A4w (N : Nat) : Acv Tryz.prog (Bxe N) := ⟨Byn N, trivial⟩
theorem Bmg (N : Nat) : Aed Tryz.prog 77 [] (sub Agj [1, 0, 1, 0, 0, 1, 0, 0, 1, 0, 1, 0, 1, 0, 1, 0, 0]) (Aaa Af7 (Axk N N)) :=
 Adm (c := sub Agj [1, 0, 1, 0, 0, 1, 0, 0, 1, 0, 1, 0, 1, 0, 1, 0, 0]) (dom := (Aas [17, 5])) mixed htt (Aad (Aam (A4w N))) (Aaf rfl) (by kernel_rfl) (Aah (l := []) (by kernel_rfl) trivial) A7r (B := (fun _ _ _ => none)) (Aed.none _ _ _ _) (fun _ _ _ => rfl) (fun R k x K => Bou @Ae1 @Acj @Acq N R (fun a0 a1 a2 a3 a4 a5 a6 => Acj N k a0 a1 a2 a3 a4 a5 a6 (fun a => K .ret (Aab An8 ((a, ()), (())))) (fun a b d e f => K (.exit 3) (Aab An9 ((a, b, d, (), e, f, ()), (()))))) x K) N
theorem Bmh (N : Nat) : Aa5 Tryz.prog 77 [] (sub Agj [1, 0, 1, 0, 0, 1, 0, 0, 1, 0, 1, 0, 1, 0, 1, 0]) (Aaa Af7 (Axk N N)) := (Bmg N).frag
theorem Bpe (N : Nat) : Aed Tryz.prog 77 [] (sub Agj [1, 0, 1, 0, 0]) (Aaa Agw (Azo N N)) :=
 Adm (c := sub Agj [1, 0, 1, 0, 0]) (dom := (Aas [17, 5])) mixed htt (Aad (Aam (A4w N))) (Aaf rfl) (by kernel_rfl) (Aah (l := [(17, sub Agj [1, 0, 1, 0, 0, 1, 0, 0, 1, 0, 1, 0, 1, 0, 1, 0])]) (by kernel_rfl) ⟨⟨_, rfl, Bmh N⟩, trivial⟩) Bay (B := (fun _ _ _ => none)) (Aed.none _ _ _ _) (fun _ _ _ => rfl) (fun R k x K => Bqm @Ae1 @Acj @Acq N R (fun a0 a1 a2 a3 => Acq N k a0 a1 a2 a3 (fun a => K .ret (Aab Apc ((a, ()), (())))) (K (.exit 0) (Aab Apd ((()), (()))))) x K) N
theorem Bpf (N : Nat) : Aa5 Tryz.prog 77 [] (sub Agj [1, 0, 1, 0]) (Aaa Agw (Azo N N)) := (Bpe N).frag
theorem Bu2 (N : Nat) : Abg Tryz.prog 43 (Bf9 N) :=
 ⟨Abc (fn := Tryz.f43) (c := Agj) (dom := (Aas [17, 5])) (rs := [.tmp 8]) mixed htt (Aad (Aam (A4w N))) (Aaf rfl) Tryz.func43 rfl rfl (by kernel_rfl) (Aah (l := [(5, sub Agj [1, 0, 1, 0])]) (by kernel_rfl) ⟨⟨_, rfl, Bpf N⟩, trivial⟩) (by decide) (by decide) (by decide) (fun R x C => Bx6 @Ae1 @Acj @Acq N R x C), Tryz.f43, Tryz.func43, rfl, by decide⟩
theorem Bpg (N : Nat) : Acv Tryz.prog (B9t N) := ⟨B6l N, B6m N, Bye N, Bgq N, Byi N, Byj N, Byk N, Byl N, Bym N, Bu2 N, trivial⟩
theorem Bu3 (N : Nat) : Aed Tryz.prog 55 [] (sub Aor [1, 1, 1, 1, 0, 1, 0, 0]) (Aaa Ai5 (A30 N N)) :=
 Adm (c := sub Aor [1, 1, 1, 1, 0, 1, 0, 0]) (dom := (Aas [13])) mixed htt (Aad (Aam (Bpg N))) (Aaf rfl) (by kernel_rfl) (Aah (l := []) (by kernel_rfl) trivial) Bf8 (B := (fun _ _ _ => none)) (Aed.none _ _ _ _) (fun _ _ _ => rfl) (fun R k x K => Bxq @Ahn @Ah8 @Adt @Aay @Ael @Afc @Afd @Afe @Aff @Aep @Aeh N R (fun a0 a1 a2 a3 a4 a5 a6 a7 a8 a9 a10 a11 a12 a13 => Aeh N k a0 a1 a2 a3 a4 a5 a6 a7 a8 a9 a10 a11 a12 a13 (fun a => K .ret (Aab Arv ((a, ()), (())))) (fun a b d e f g => K (.exit 0) (Aab Arw (((), a, ()), ((b, d, e, f, g, ()), ()))))) x K) N
theorem Bu4 (N : Nat) : Aa5 Tryz.prog 55 [] (sub Aor [1, 1, 1, 1, 0, 1, 0]) (Aaa Ai5 (A30 N N)) := (Bu3 N).frag
theorem B6n (N : Nat) : Abg Tryz.prog 14 (Bog N) :=
 ⟨Abc (fn := Tryz.f14) (c := Aor) (dom := (Aas [13])) (rs := [.tmp 2]) mixed htt (Aad (Aam (Bpg N))) (Aaf rfl) Tryz.func14 rfl rfl (by kernel_rfl) (Aah (l := [(13, sub Aor [1, 1, 1, 1, 0, 1, 0])]) (by kernel_rfl) ⟨⟨_, rfl, Bu4 N⟩, trivial⟩) (by decide) (by decide) (by decide) (fun R x C => B9w @Ahn @Ah8 @Adt @Aay @Ael @Afc @Afd @Afe @Aff @Aep @Aeh N R x C), Tryz.f14, Tryz.func14, rfl, by decide⟩
theorem Bgr (N : Nat) : Acv Tryz.prog (Bxg N) := trivial
theorem Bmi (N : Nat) : Aed Tryz.prog 60 [] (sub Alm [1, 1, 1, 0, 1, 0, 0]) (Aaa Ag6 (Axo N N)) :=
 Adm (c := sub Alm [1, 1, 1, 0, 1, 0, 0]) (dom := (Aas [11])) mixed htt (Aad (Aam (Bgr N))) (Aaf rfl) (by kernel_rfl) (Aah (l := []) (by kernel_rfl) trivial) A7t (B := (fun _ _ _ => none)) (Aed.none _ _ _ _) (fun _ _ _ => rfl) (fun R k x K => Bo8 @Ac9 N R (fun a0 a1 a2 a3 a4 a5 a6 a7 => Ac9 N k a0 a1 a2 a3 a4 a5 a6 a7 (fun a => K (.exit 0) (Aab Aoa ((a, ()), (()))))) x K) N
theorem Bmj (N : Nat) : Aa5 Tryz.prog 60 [] (sub Alm [1, 1, 1, 0, 1, 0]) (Aaa Ag6 (Axo N N)) := (Bmi N).frag
theorem Bu5 (N : Nat) : Abg Tryz.prog 136 (Bga N) :=
 ⟨Abc (fn := Tryz.f136) (c := Alm) (dom := (Aas [11])) (rs := [.tmp 2]) mixed htt (Aad (Aam (Bgr N))) (Aaf rfl) Tryz.func136 rfl rfl (by kernel_rfl) (Aah (l := [(11, sub Alm [1, 1, 1, 0, 1, 0])]) (by kernel_rfl) ⟨⟨_, rfl, Bmj N⟩, trivial⟩) (by decide) (by decide) (by decide) (fun R x C => Bx8 @Ac9 N R x C), Tryz.f136, Tryz.func136, rfl, by decide⟩
theorem Bl3 (N : Nat) : Acv Tryz.prog (B44 N) := trivial
theorem Bu6 (N : Nat) : Aed Tryz.prog 60 [] (sub Anv [1, 1, 0, 1, 0, 0]) (Aaa Ai6 (A39 N N)) :=
 Adm (c := sub Anv [1, 1, 0, 1, 0, 0]) (dom := (Aas [7])) mixed htt (Aad (Aam (Bl3 N))) (Aaf rfl) (by kernel_rfl) (Aah (l := []) (by kernel_rfl) trivial) Bgb (B := (fun _ _ _ => none)) (Aed.none _ _ _ _) (fun _ _ _ => rfl) (fun R k x K => Bx0 @Ad9 N R (fun a0 a1 a2 => Ad9 N k a0 a1 a2 (fun a b => K .ret (Aab Ar0 ((a, b, ()), (())))) (fun a b => K (.exit 0) (Aab Ar1 ((a, b, ()), (()))))) x K) N
theorem Bu7 (N : Nat) : Aa5 Tryz.prog 60 [] (sub Anv [1, 1, 0, 1, 0]) (Aaa Ai6 (A39 N N)) := (Bu6 N).frag
theorem B18 (N : Nat) : Abg Tryz.prog 207 (Blk N) :=
 ⟨Abc (fn := Tryz.f207) (c := Anv) (dom := (Aas [7])) (rs := [.tmp 2, .tmp 3]) mixed htt (Aad (Aam (Bl3 N))) (Aaf rfl) Tryz.func207 rfl rfl (by kernel_rfl) (Aah (l := [(7, sub Anv [1, 1, 0, 1, 0])]) (by kernel_rfl) ⟨⟨_, rfl, Bu7 N⟩, trivial⟩) (by decide) (by decide) (by decide) (fun R x C => B6f @Ad9 N R x C), Tryz.f207, Tryz.func207, rfl, by decide⟩
theorem Cej (N : Nat) : Acv Tryz.prog (Bxi N) := trivial
theorem A63 (N : Nat) : Abg Tryz.prog 208 (A4b N) :=
 ⟨Abc (fn := Tryz.f208) (c := Bxh) (dom := (Aas [])) (rs := [.tmp 6]) mixed htt (Aad (Aam (Cej N))) (Aaf rfl) Tryz.func208 rfl rfl (by kernel_rfl) (Aah (l := []) (by kernel_rfl) trivial) (by decide) (by decide) (by decide) (fun R x C => Cef N R x C), Tryz.f208, Tryz.func208, rfl, by decide⟩
theorem Au4 (N : Nat) : Acv Tryz.prog (B46 N) := ⟨B18 N, A63 N, trivial⟩
theorem Bq7 (N : Nat) : Aed Tryz.prog 110 [] (sub Adb [1, 1, 0, 1, 0, 0, 1, 0, 0, 1, 1, 1, 0, 0]) (Aaa Afy (A1r N N)) :=
 Adm (c := sub Adb [1, 1, 0, 1, 0, 0, 1, 0, 0, 1, 1, 1, 0, 0]) (dom := (Aas [25, 5, 47, 35])) mixed htt (Aad (Aam (Au4 N))) (Aaf rfl) (by kernel_rfl) (Aah (l := []) (by kernel_rfl) trivial) Bds (B := (fun _ _ _ => none)) (Aed.none _ _ _ _) (fun _ _ _ => rfl) (fun R k x K => Bt9 @Ack @Aal @Ab2 @Ab7 @Ab3 @Abm N R (fun a0 a1 a2 a3 a4 a5 a6 a7 a8 a9 => Ab3 N k a0 a1 a2 a3 a4 a5 a6 a7 a8 a9 (fun a => K .ret (Aab Aqw ((a, ()), (())))) (fun a b d e f g h => K (.exit 6) (Aab Aqx (((), a, ()), ((b, d, e, f, g, h, ()), ()))))) x K) N
theorem Bq8 (N : Nat) : Aa5 Tryz.prog 110 [] (sub Adb [1, 1, 0, 1, 0, 0, 1, 0, 0, 1, 1, 1, 0]) (Aaa Afy (A1r N N)) := (Bq7 N).frag
theorem Bq9 (N : Nat) : Aed Tryz.prog 110 [] (sub Adb [1, 0, 1, 0, 0, 1, 0, 0, 1, 1, 1, 1, 0, 0]) (Aaa Afx (A1p N N)) :=
 Adm (c := sub Adb [1, 0, 1, 0, 0, 1, 0, 0, 1, 1, 1, 1, 0, 0]) (dom := (Aas [25, 5, 47, 35])) mixed htt (Aad (Aam (Au4 N))) (Aaf rfl) (by kernel_rfl) (Aah (l := []) (by kernel_rfl) trivial) Bdq (B := (fun _ _ _ => none)) (Aed.none _ _ _ _) (fun _ _ _ => rfl) (fun R k x K => Bt8 @Ack @Aal @Ab2 @Ab7 @Ab3 @Abm N R (fun a0 a1 a2 a3 a4 a5 a6 a7 a8 a9 a10 => Ab2 N k a0 a1 a2 a3 a4 a5 a6 a7 a8 a9 a10 (fun a => K .ret (Aab Aqu ((a, ()), (())))) (fun a b d e f g h => K (.exit 2) (Aab Aqv (((), a, ()), ((b, d, e, f, g, h, ()), ()))))) x K) N
theorem Bra (N : Nat) : Aa5 Tryz.prog 110 [] (sub Adb [1, 0, 1, 0, 0, 1, 0, 0, 1, 1, 1, 1, 0]) (Aaa Afx (A1p N N)) := (Bq9 N).frag
theorem Brb (N : Nat) : Aed Tryz.prog 110 [] (sub Adb [1, 1, 0, 1, 0, 0]) (Aaa Afz (A1t N N)) :=
 Adm (c := sub Adb [1, 1, 0, 1, 0, 0]) (dom := (Aas [25, 5, 47, 35])) mixed htt (Aad (Aam (Au4 N))) (Aaf rfl) (by kernel_rfl) (Aah (l := [(47, sub Adb [1, 1, 0, 1, 0, 0, 1, 0, 0, 1, 1, 1, 0])]) (by kernel_rfl) ⟨⟨_, rfl, Bq8 N⟩, trivial⟩) Bdu (B := (fun _ _ _ => none)) (Aed.none _ _ _ _) (fun _ _ _ => rfl) (fun R k x K => Buc @Ack @Aal @Ab2 @Ab7 @Ab3 @Abm N R (fun a0 a1 a2 a3 a4 a5 a6 => Abm N k a0 a1 a2 a3 a4 a5 a6 (fun a => K .ret (Aab Aqy ((a, ()), (())))) (fun a b d e f g => K (.exit 4) (Aab Aqz (((), ()), ((a, b, d, e, f, g, ()), ()))))) x K) N
theorem Brc (N : Nat) : Aa5 Tryz.prog 110 [] (sub Adb [1, 1, 0, 1, 0]) (Aaa Afz (A1t N N)) := (Brb N).frag
theorem Bu8 (N : Nat) : Aed Tryz.prog 110 [] (sub Adb [1, 0, 1, 0, 0]) (Aaa Agk (A4d N N)) :=
 Adm (c := sub Adb [1, 0, 1, 0, 0]) (dom := (Aas [25, 5, 47, 35])) mixed htt (Aad (Aam (Au4 N))) (Aaf rfl) (by kernel_rfl) (Aah (l := [(25, sub Adb [1, 0, 1, 0, 0, 1, 0, 0, 1, 1, 1, 1, 0])]) (by kernel_rfl) ⟨⟨_, rfl, Bra N⟩, trivial⟩) Bgd (B := (fun _ _ _ => none)) (Aed.none _ _ _ _) (fun _ _ _ => rfl) (fun R k x K => Bxs @Ack @Aal @Ab2 @Ab7 @Ab3 @Abm N R (fun a0 a1 a2 a3 a4 a5 a6 => Ab7 N k a0 a1 a2 a3 a4 a5 a6 (fun a => K .ret (Aab Ar2 ((a, ()), (())))) (fun a b d e f g => K (.exit 0) (Aab Ar3 (((), ()), ((a, b, d, e, f, g, ()), ()))))) x K) N
theorem Bu9 (N : Nat) : Aa5 Tryz.prog 110 [] (sub Adb [1, 0, 1, 0]) (Aaa Agk (A4d N N)) := (Bu8 N).frag
theorem B19 (N : Nat) : Abg Tryz.prog 137 (Bll N) :=
 ⟨Abc (fn := Tryz.f137) (c := Adb) (dom := (Aas [25, 5, 47, 35])) (rs := [.tmp 2]) mixed htt (Aad (Aam (Au4 N))) (Aaf rfl) Tryz.func137 rfl rfl (by kernel_rfl) (Aah (l := [(5, sub Adb [1, 0, 1, 0]), (35, sub Adb [1, 1, 0, 1, 0])]) (by kernel_rfl) ⟨⟨_, rfl, Bu9 N⟩, ⟨_, rfl, Brc N⟩, trivial⟩) (by decide) (by decide) (by decide) (fun R x C => B5w @Ack @Aal @Ab2 @Ab7 @Ab3 @Abm N R x C), Tryz.f137, Tryz.func137, rfl, by decide⟩
theorem Anj (N : Nat) : Acv Tryz.prog (Bxk N) := ⟨A63 N, trivial⟩
theorem Bmk (N : Nat) : Aa5 Tryz.prog 138 [] (sub Adx [1, 1, 1, 0, 1, 0, 1, 1, 1, 1, 1, 1, 1, 1, 1, 1, 1, 1, 1, 1, 1]) (Aaa Afg (A7w N)) :=
 Ady (dom := (Aas [68, 44, 36, 28, 82])) mixed htt (Aad (Aam (Anj N))) (Aaf rfl) (by kernel_rfl) (Aah (l := []) (by kernel_rfl) trivial) A7v (fun R x K => Bo0 @Aal @Aa3 @Aba @Abb @Aao @Aan N R x K)
theorem Bml (N : Nat) : Aa5 Tryz.prog 138 [] (sub Adx [1, 1, 1, 0, 1, 0, 1, 1, 1, 1, 1, 1, 1]) (Aaa Afh (A7y N)) :=
 Ady (dom := (Aas [68, 44, 36, 28, 82])) mixed htt (Aad (Aam (Anj N))) (Aaf rfl) (by kernel_rfl) (Aah (l := [(68, sub Adx [1, 1, 1, 0, 1, 0, 1, 1, 1, 1, 1, 1, 1, 1, 1, 1, 1, 1, 1, 1, 1])]) (by kernel_rfl) ⟨⟨_, rfl, Bmk N⟩, trivial⟩) A7x (fun R x K => Bo1 @Aal @Aa3 @Aba @Abb @Aao @Aan N R x K)
theorem Bmm (N : Nat) : Aa5 Tryz.prog 138 [] (sub Adx [1, 1, 1, 0, 1, 0, 1, 1, 1, 1, 1]) (Aaa Afi (A70 N)) :=
 Ady (dom := (Aas [68, 44, 36, 28, 82])) mixed htt (Aad (Aam (Anj N))) (Aaf rfl) (by kernel_rfl) (Aah (l := [(44, sub Adx [1, 1, 1, 0, 1, 0, 1, 1, 1, 1, 1, 1, 1])]) (by kernel_rfl) ⟨⟨_, rfl, Bml N⟩, trivial⟩) A7z (fun R x K => Bo2 @Aal @Aa3 @Aba @Abb @Aao @Aan N R x K)
theorem Bmn (N : Nat) : Aa5 Tryz.prog 138 [] (sub Adx [1, 1, 1, 0, 1, 0, 1, 1, 1]) (Aaa Afj (A72 N)) :=
 Ady (dom := (Aas [68, 44, 36, 28, 82])) mixed htt (Aad (Aam (Anj N))) (Aaf rfl) (by kernel_rfl) (Aah (l := [(36, sub Adx [1, 1, 1, 0, 1, 0, 1, 1, 1, 1, 1])]) (by kernel_rfl) ⟨⟨_, rfl, Bmm N⟩, trivial⟩) A71 (fun R x K => Bo3 @Aal @Aa3 @Aba @Abb @Aao @Aan N R x K)
theorem Bmo (N : Nat) : Aa5 Tryz.prog 138 [] (sub Adx [1, 1, 1, 1]) (Aaa Afk (A74 N)) :=
 Ady (dom := (Aas [68, 44, 36, 28, 82])) mixed htt (Aad (Aam (Anj N))) (Aaf rfl) (by kernel_rfl) (Aah (l := []) (by kernel_rfl) trivial) A73 (fun R x K => Bo6 @Aal @Aa3 @Aba @Abb @Aao @Aan N R x K)
theorem Bva (N : Nat) : Abg Tryz.prog 138 (Bgf N) :=
 ⟨Abc (fn := Tryz.f138) (c := Adx) (dom := (Aas [68, 44, 36, 28, 82])) (rs := [.tmp 4]) mixed htt (Aad (Aam (Anj N))) (Aaf rfl) Tryz.func138 rfl rfl (by kernel_rfl) (Aah (l := [(28, sub Adx [1, 1, 1, 0, 1, 0, 1, 1, 1]), (82, sub Adx [1, 1, 1, 1])]) (by kernel_rfl) ⟨⟨_, rfl, Bmn N⟩, ⟨_, rfl, Bmo N⟩, trivial⟩) (by decide) (by decide) (by decide) (fun R x C => Bxv @Aal @Aa3 @Aba @Abb @Aao @Aan N R x C), Tryz.f138, Tryz.func138, rfl, by decide⟩
theorem B2a (N : Nat) : Acv Tryz.prog (Bi7 N) := trivial
theorem Bgs (N : Nat) : Abg Tryz.prog 209 (A6d N) :=
 ⟨Abc (fn := Tryz.f209) (c := Bi6) (dom := (Aas [])) (rs := [.tmp 2]) mixed htt (Aad (Aam (B2a N))) (Aaf rfl) Tryz.func209 rfl rfl (by kernel_rfl) (Aah (l := []) (by kernel_rfl) trivial) (by decide) (by decide) (by decide) (fun R x C => B1b N R x C), Tryz.f209, Tryz.func209, rfl, by decide⟩
theorem A0g (N : Nat) : Acv Tryz.prog (B48 N) := ⟨Bgs N, trivial⟩
theorem Brd (N : Nat) : Aa5 Tryz.prog 126 [] (sub Ag1 [1, 1, 0, 1, 0, 0, 1, 0, 0, 1, 1, 1, 1, 1]) (Aaa Aib (Bdz N)) :=
 Ady (dom := (Aas [44, 20, 7])) mixed htt (Aad (Aam (A0g N))) (Aaf rfl) (by kernel_rfl) (Aah (l := []) (by kernel_rfl) trivial) Bdy (fun R x K => Bug @Aaw @Ab4 @Ac2 @Acr N R x K)
theorem Bre (N : Nat) : Aa5 Tryz.prog 126 [] (sub Ag1 [1, 1, 0, 1, 0, 0, 1, 0, 0, 1, 1, 1]) (Aaa Aic (Bd1 N)) :=
 Ady (dom := (Aas [44, 20, 7])) mixed htt (Aad (Aam (A0g N))) (Aaf rfl) (by kernel_rfl) (Aah (l := [(44, sub Ag1 [1, 1, 0, 1, 0, 0, 1, 0, 0, 1, 1, 1, 1, 1])]) (by kernel_rfl) ⟨⟨_, rfl, Brd N⟩, trivial⟩) Bd0 (fun R x K => Buh @Aaw @Ab4 @Ac2 @Acr N R x K)
theorem Bvb (N : Nat) : Aed Tryz.prog 126 [] (sub Ag1 [1, 1, 0, 1, 0, 0]) (Aaa Ag8 (A4i N N)) :=
 Adm (c := sub Ag1 [1, 1, 0, 1, 0, 0]) (dom := (Aas [44, 20, 7])) mixed htt (Aad (Aam (A0g N))) (Aaf rfl) (by kernel_rfl) (Aah (l := [(20, sub Ag1 [1, 1, 0, 1, 0, 0, 1, 0, 0, 1, 1, 1])]) (by kernel_rfl) ⟨⟨_, rfl, Bre N⟩, trivial⟩) Bgg (B := (fun _ _ _ => none)) (Aed.none _ _ _ _) (fun _ _ _ => rfl) (fun R k x K => Bxu @Aaw @Ab4 @Ac2 @Acr N R (fun a0 a1 a2 a3 a4 a5 a6 a7 a8 a9 => Acr N k a0 a1 a2 a3 a4 a5 a6 a7 a8 a9 (fun a => K .ret (Aab Ar5 ((a, ()), (())))) (fun a b d e f g h i j => K (.exit 0) (Aab Ar6 (((), a, b, d, ()), ((e, f, g, h, i, j, ()), ()))))) x K) N
theorem Bvc (N : Nat) : Aa5 Tryz.prog 126 [] (sub Ag1 [1, 1, 0, 1, 0]) (Aaa Ag8 (A4i N N)) := (Bvb N).frag
theorem B2b (N : Nat) : Abg Tryz.prog 139 (Blm N) :=
 ⟨Abc (fn := Tryz.f139) (c := Ag1) (dom := (Aas [44, 20, 7])) (rs := [.tmp 2]) mixed htt (Aad (Aam (A0g N))) (Aaf rfl) Tryz.func139 rfl rfl (by kernel_rfl) (Aah (l := [(7, sub Ag1 [1, 1, 0, 1, 0])]) (by kernel_rfl) ⟨⟨_, rfl, Bvc N⟩, trivial⟩) (by decide) (by decide) (by decide) (fun R x C => B5x @Aaw @Ab4 @Ac2 @Acr N R x C), Tryz.f139, Tryz.func139, rfl, by decide⟩
theorem Bl4 (N : Nat) : Acv Tryz.prog (B5a N) := trivial
theorem Brf (N : Nat) : Aa5 Tryz.prog 17 [] (sub Auy [1, 0, 1, 0, 1]) (Aaa Aks (Bd5 N)) :=
 Ady (dom := (Aas [14])) mixed htt (Aad (Aam (Bl4 N))) (Aaf rfl) (by kernel_rfl) (Aah (l := []) (by kernel_rfl) trivial) Bd4 (fun R x K => Bt6 @Adq N R x K)
theorem Bjg (N : Nat) : Abg Tryz.prog 210 (A91 N) :=
 ⟨Abc (fn := Tryz.f210) (c := Auy) (dom := (Aas [14])) (rs := [.tmp 2]) mixed htt (Aad (Aam (Bl4 N))) (Aaf rfl) Tryz.func210 rfl rfl (by kernel_rfl) (Aah (l := [(14, sub Auy [1, 0, 1, 0, 1])]) (by kernel_rfl) ⟨⟨_, rfl, Brf N⟩, trivial⟩) (by decide) (by decide) (by decide) (fun R x C => B52 @Adq N R x C), Tryz.f210, Tryz.func210, rfl, by decide⟩
theorem Ast (N : Nat) : Acv Tryz.prog (B0z N) := ⟨Bjg N, trivial⟩
theorem Bph (N : Nat) : Aa5 Tryz.prog 121 [] (sub Ade [1, 1, 1, 1, 0, 1, 0, 0, 1, 0, 0, 1]) (Aaa Agy (Ba1 N)) :=
 Ady (dom := (Aas [7, 24, 17, 37])) mixed htt (Aad (Aam (Ast N))) (Aaf rfl) (by kernel_rfl) (Aah (l := []) (by kernel_rfl) trivial) Ba0 (fun R x K => Bql @Aa9 @Ab5 @Ab8 @Abn @Abi N R x K)
theorem Bpi (N : Nat) : Aed Tryz.prog 121 [] (sub Ade [1, 1, 1, 1, 1, 0, 1, 0, 0]) (Aaa Ae7 (Azu N N)) :=
 Adm (c := sub Ade [1, 1, 1, 1, 1, 0, 1, 0, 0]) (dom := (Aas [7, 24, 17, 37])) mixed htt (Aad (Aam (Ast N))) (Aaf rfl) (by kernel_rfl) (Aah (l := []) (by kernel_rfl) trivial) Ba4 (B := (fun _ _ _ => none)) (Aed.none _ _ _ _) (fun _ _ _ => rfl) (fun R k x K => Bqn @Aa9 @Ab5 @Ab8 @Abn @Abi N R (fun a0 a1 a2 a3 a4 a5 a6 a7 a8 a9 a10 => Abi N k a0 a1 a2 a3 a4 a5 a6 a7 a8 a9 a10 (fun a b d => K .ret (Aab Apg (((), a, ()), (((), (), ()), b, d, ())))) (fun a b d e => K (.exit 4) (Aab Aph (((), (), ()), (((), (), ()), ((), (), ()), a, b, d, e, ()))))) x K) N
theorem Bpj (N : Nat) : Aa5 Tryz.prog 121 [] (sub Ade [1, 1, 1, 1, 1, 0, 1, 0]) (Aaa Ae7 (Azu N N)) := (Bpi N).frag
theorem Bpk (N : Nat) : Aed Tryz.prog 121 [] (sub Ade [1, 1, 1, 1, 0, 1, 0, 0]) (Aaa Ae6 (Azr N N)) :=
 Adm (c := sub Ade [1, 1, 1, 1, 0, 1, 0, 0]) (dom := (Aas [7, 24, 17, 37])) mixed htt (Aad (Aam (Ast N))) (Aaf rfl) (by kernel_rfl) (Aah (l := [(24, sub Ade [1, 1, 1, 1, 0, 1, 0, 0, 1, 0, 0, 1])]) (by kernel_rfl) ⟨⟨_, rfl, Bph N⟩, trivial⟩) Ba2 (B := (fun _ _ _ => none)) (Aed.none _ _ _ _) (fun _ _ _ => rfl) (fun R k x K => Bqk @Aa9 @Ab5 @Ab8 @Abn @Abi N R (fun a0 a1 a2 a3 a4 a5 a6 a7 a8 a9 a10 a11 => Abn N k a0 a1 a2 a3 a4 a5 a6 a7 a8 a9 a10 a11 (fun a b d => K .ret (Aab Ape (((), a, ()), (((), (), ()), b, d, ())))) (fun a b d e f g h i j m => K (.exit 2) (Aab Apf (((), (), (), ()), ((a, b, d, e, f, g, ()), ((), (), ()), ((), (), ()), h, i, j, m, ()))))) x K) N
theorem Bpl (N : Nat) : Aa5 Tryz.prog 121 [] (sub Ade [1, 1, 1, 1, 0, 1, 0]) (Aaa Ae6 (Azr N N)) := (Bpk N).frag
theorem Brg (N : Nat) : Aed Tryz.prog 121 [] (sub Ade [1, 1, 0, 1, 0, 0]) (Aaa Af0 (A11 N N)) :=
 Adm (c := sub Ade [1, 1, 0, 1, 0, 0]) (dom := (Aas [7, 24, 17, 37])) mixed htt (Aad (Aam (Ast N))) (Aaf rfl) (by kernel_rfl) (Aah (l := []) (by kernel_rfl) trivial) Bd2 (B := (fun _ _ _ => none)) (Aed.none _ _ _ _) (fun _ _ _ => rfl) (fun R k x K => Btt @Aa9 @Ab5 @Ab8 @Abn @Abi N R (fun a0 a1 a2 a3 a4 a5 a6 a7 a8 a9 a10 => Ab5 N k a0 a1 a2 a3 a4 a5 a6 a7 a8 a9 a10 (fun a b d e f g h i j m => K (.exit 0) (Aab Aq4 (((), (), (), ()), ((a, b, d, e, f, g, ()), ((), (), ()), ((), (), ()), h, i, j, m, ()))))) x K) N
theorem Brh (N : Nat) : Aa5 Tryz.prog 121 [] (sub Ade [1, 1, 0, 1, 0]) (Aaa Af0 (A11 N N)) := (Brg N).frag
theorem Byo (N : Nat) : Abg Tryz.prog 140 (Bi8 N) :=
 ⟨Abc (fn := Tryz.f140) (c := Ade) (dom := (Aas [7, 24, 17, 37])) (rs := [.cell 2 177, .tmp 3]) mixed htt (Aad (Aam (Ast N))) (Aaf rfl) Tryz.func140 rfl rfl (by kernel_rfl) (Aah (l := [(7, sub Ade [1, 1, 0, 1, 0]), (17, sub Ade [1, 1, 1, 1, 0, 1, 0]), (37, sub Ade [1, 1, 1, 1, 1, 0, 1, 0])]) (by kernel_rfl) ⟨⟨_, rfl, Brh N⟩, ⟨_, rfl, Bpl N⟩, ⟨_, rfl, Bpj N⟩, trivial⟩) (by decide) (by decide) (by decide) (fun R x C => B1d @Aa9 @Ab5 @Ab8 @Abn @Abi N R x C), Tryz.f140, Tryz.func140, rfl, by decide⟩
theorem A0h (N : Nat) : Acv Tryz.prog (B5c N) := trivial
theorem Bri (N : Nat) : Aa5 Tryz.prog 55 [] (sub Aip [1, 0, 1, 0, 1, 1, 1, 1, 1, 1, 1, 1, 1, 1, 1]) (Aaa Aid (Bd7 N)) :=
 Ady (dom := (Aas [60, 42, 20])) mixed htt (Aad (Aam (A0h N))) (Aaf rfl) (by kernel_rfl) (Aah (l := []) (by kernel_rfl) trivial) Bd6 (fun R x K => Bui @Ac3 @Abo @Ab6 N R x K)
theorem Brj (N : Nat) : Aa5 Tryz.prog 55 [] (sub Aip [1, 0, 1, 0, 1, 1, 1]) (Aaa Aie (Bd9 N)) :=
 Ady (dom := (Aas [60, 42, 20])) mixed htt (Aad (Aam (A0h N))) (Aaf rfl) (by kernel_rfl) (Aah (l := [(60, sub Aip [1, 0, 1, 0, 1, 1, 1, 1, 1, 1, 1, 1, 1, 1, 1])]) (by kernel_rfl) ⟨⟨_, rfl, Bri N⟩, trivial⟩) Bd8 (fun R x K => Bt1 @Ac3 @Abo @Ab6 N R x K)
theorem Brk (N : Nat) : Aa5 Tryz.prog 55 [] (sub Aip [1, 0, 1, 0, 1]) (Aaa Aif (Beb N)) :=
 Ady (dom := (Aas [60, 42, 20])) mixed htt (Aad (Aam (A0h N))) (Aaf rfl) (by kernel_rfl) (Aah (l := [(42, sub Aip [1, 0, 1, 0, 1, 1, 1])]) (by kernel_rfl) ⟨⟨_, rfl, Brj N⟩, trivial⟩) Bea (fun R x K => Buj @Ac3 @Abo @Ab6 N R x K)
theorem B2c (N : Nat) : Abg Tryz.prog 211 (Bln N) :=
 ⟨Abc (fn := Tryz.f211) (c := Aip) (dom := (Aas [60, 42, 20])) (rs := [.tmp 4]) mixed htt (Aad (Aam (A0h N))) (Aaf rfl) Tryz.func211 rfl rfl (by kernel_rfl) (Aah (l := [(20, sub Aip [1, 0, 1, 0, 1])]) (by kernel_rfl) ⟨⟨_, rfl, Brk N⟩, trivial⟩) (by decide) (by decide) (by decide) (fun R x C => B59 @Ac3 @Abo @Ab6 N R x C), Tryz.f211, Tryz.func211, rfl, by decide⟩
theorem Bat (N : Nat) : Acv Tryz.prog (B5e N) := trivial
theorem Brl (N : Nat) : Aa5 Tryz.prog 22 [] (sub Alw [1, 0, 1, 0, 1, 1, 1]) (Aaa Ajs (Bed N)) :=
 Ady (dom := (Aas [32, 24])) mixed htt (Aad (Aam (Bat N))) (Aaf rfl) (by kernel_rfl) (Aah (l := []) (by kernel_rfl) trivial) Bec (fun R x K => Bt3 @Adf @Aca N R x K)
theorem Brm (N : Nat) : Aa5 Tryz.prog 22 [] (sub Alw [1, 0, 1, 0, 1]) (Aaa Ajt (Bef N)) :=
 Ady (dom := (Aas [32, 24])) mixed htt (Aad (Aam (Bat N))) (Aaf rfl) (by kernel_rfl) (Aah (l := [(32, sub Alw [1, 0, 1, 0, 1, 1, 1])]) (by kernel_rfl) ⟨⟨_, rfl, Brl N⟩, trivial⟩) Bee (fun R x K => Buk @Adf @Aca N R x K)
theorem B2d (N : Nat) : Abg Tryz.prog 212 (Blo N) :=
 ⟨Abc (fn := Tryz.f212) (c := Alw) (dom := (Aas [32, 24])) (rs := [.tmp 2]) mixed htt (Aad (Aam (Bat N))) (Aaf rfl) Tryz.func212 rfl rfl (by kernel_rfl) (Aah (l := [(24, sub Alw [1, 0, 1, 0, 1])]) (by kernel_rfl) ⟨⟨_, rfl, Brm N⟩, trivial⟩) (by decide) (by decide) (by decide) (fun R x C => B6b @Adf @Aca N R x C), Tryz.f212, Tryz.func212, rfl, by decide⟩
theorem Bl5 (N : Nat) : Acv Tryz.prog (B5g N) := ⟨A63 N, trivial⟩
theorem Bvd (N : Nat) : Aa5 Tryz.prog 35 [] (sub Auz [1, 0, 1, 0, 1]) (Aaa Alo (Bgj N)) :=
 Ady (dom := (Aas [8])) mixed htt (Aad (Aam (Bl5 N))) (Aaf rfl) (by kernel_rfl) (Aah (l := []) (by kernel_rfl) trivial) Bgi (fun R x K => Bx1 @Aal @Af1 N R x K)
theorem B2e (N : Nat) : Abg Tryz.prog 213 (Blp N) :=
 ⟨Abc (fn := Tryz.f213) (c := Auz) (dom := (Aas [8])) (rs := [.tmp 4]) mixed htt (Aad (Aam (Bl5 N))) (Aaf rfl) Tryz.func213 rfl rfl (by kernel_rfl) (Aah (l := [(8, sub Auz [1, 0, 1, 0, 1])]) (by kernel_rfl) ⟨⟨_, rfl, Bvd N⟩, trivial⟩) (by decide) (by decide) (by decide) (fun R x C => B50 @Aal @Af1 N R x C), Tryz.f213, Tryz.func213, rfl, by decide⟩
theorem Bl6 (N : Nat) : Acv Tryz.prog (B5i N) := trivial
theorem Bve (N : Nat) : Aed Tryz.prog 31 [] (sub Anw [1, 0, 0, 0]) (Aaa Ai7 (A4o N N)) :=
 Adm (c := sub Anw [1, 0, 0, 0]) (dom := (Aas [3])) mixed htt (Aad (Aam (Bl6 N))) (Aaf rfl) (by kernel_rfl) (Aah (l := []) (by kernel_rfl) trivial) Bgk (B := (fun _ _ _ => none)) (Aed.none _ _ _ _) (fun _ _ _ => rfl) (fun R k x K => Bx2 @Aeq N R (fun a0 a1 => Aeq N k a0 a1 (fun a b => K (.exit 0) (Aab Ar7 ((a, b, ()), (()))))) x K) N
theorem Bvf (N : Nat) : Aa5 Tryz.prog 31 [] (sub Anw [1, 0, 0]) (Aaa Ai7 (A4o N N)) := (Bve N).frag
theorem B2f (N : Nat) : Abg Tryz.prog 214 (Blq N) :=
 ⟨Abc (fn := Tryz.f214) (c := Anw) (dom := (Aas [3])) (rs := [.tmp 4]) mixed htt (Aad (Aam (Bl6 N))) (Aaf rfl) Tryz.func214 rfl rfl (by kernel_rfl) (Aah (l := [(3, sub Anw [1, 0, 0])]) (by kernel_rfl) ⟨⟨_, rfl, Bvf N⟩, trivial⟩) (by decide) (by decide) (by decide) (fun R x C => B6h @Aeq N R x C), Tryz.f214, Tryz.func214, rfl, by decide⟩
theorem Bpm (N : Nat) : Acv Tryz.prog (B9v N) := ⟨B2c N, B2d N, A63 N, B2e N, Bjg N, B2f N, Bgs N, trivial⟩
theorem Byp (N : Nat) : Aed Tryz.prog 96 [] (sub Ao3 [1, 1, 0, 1, 0, 0]) (Aaa Aj6 (A6k N N)) :=
 Adm (c := sub Ao3 [1, 1, 0, 1, 0, 0]) (dom := (Aas [7])) mixed htt (Aad (Aam (Bpm N))) (Aaf rfl) (by kernel_rfl) (Aah (l := []) (by kernel_rfl) trivial) Bi9 (B := (fun _ _ _ => none)) (Aed.none _ _ _ _) (fun _ _ _ => rfl) (fun R k x K => B1c @Afr @Aeu @Aal @Aev @Aa9 @Ad7 @Aaw @Aem N R (fun a0 a1 a2 a3 a4 a5 a6 a7 a8 a9 a10 => Aem N k a0 a1 a2 a3 a4 a5 a6 a7 a8 a9 a10 (fun a => K .ret (Aab Aub ((a, ()), (())))) (K (.exit 0) (Aab Auc ((()), (()))))) x K) N
theorem Byq (N : Nat) : Aa5 Tryz.prog 96 [] (sub Ao3 [1, 1, 0, 1, 0]) (Aaa Aj6 (A6k N N)) := (Byp N).frag
theorem B6o (N : Nat) : Abg Tryz.prog 141 (Bom N) :=
 ⟨Abc (fn := Tryz.f141) (c := Ao3) (dom := (Aas [7])) (rs := [.tmp 4]) mixed htt (Aad (Aam (Bpm N))) (Aaf rfl) Tryz.func141 rfl rfl (by kernel_rfl) (Aah (l := [(7, sub Ao3 [1, 1, 0, 1, 0])]) (by kernel_rfl) ⟨⟨_, rfl, Byq N⟩, trivial⟩) (by decide) (by decide) (by decide) (fun R x C => B90 @Afr @Aeu @Aal @Aev @Aa9 @Ad7 @Aaw @Aem N R x C), Tryz.f141, Tryz.func141, rfl, by decide⟩
theorem Bl7 (N : Nat) : Acv Tryz.prog (B5k N) := ⟨Bu5 N, B19 N, Bva N, B2b N, Byo N, B6o N, trivial⟩
theorem Brn (N : Nat) : Aed Tryz.prog 50 [] (sub Anu [1, 1, 1, 0, 1, 0, 0]) (Aaa Aia (A1x N N)) :=
 Adm (c := sub Anu [1, 1, 1, 0, 1, 0, 0]) (dom := (Aas [13])) mixed htt (Aad (Aam (Bl7 N))) (Aaf rfl) (by kernel_rfl) (Aah (l := []) (by kernel_rfl) trivial) Bdw (B := (fun _ _ _ => none)) (Aed.none _ _ _ _) (fun _ _ _ => rfl) (fun R k x K => Btw @Ae5 @Agx @Aea @Agc @Afl @Ahp @Aef N R (fun a0 a1 a2 a3 a4 a5 a6 => Aef N k a0 a1 a2 a3 a4 a5 a6 (fun a => K .ret (Aab Aq1 ((a, ()), (())))) (fun a b d e f g => K (.exit 0) (Aab Aq2 (((), ()), ((a, b, d, e, f, g, ()), ()))))) x K) N
theorem Bro (N : Nat) : Aa5 Tryz.prog 50 [] (sub Anu [1, 1, 1, 0, 1, 0]) (Aaa Aia (A1x N N)) := (Brn N).frag
theorem B2g (N : Nat) : Abg Tryz.prog 87 (Blr N) :=
 ⟨Abc (fn := Tryz.f87) (c := Anu) (dom := (Aas [13])) (rs := [.tmp 2]) mixed htt (Aad (Aam (Bl7 N))) (Aaf rfl) Tryz.func87 rfl rfl (by kernel_rfl) (Aah (l := [(13, sub Anu [1, 1, 1, 0, 1, 0])]) (by kernel_rfl) ⟨⟨_, rfl, Bro N⟩, trivial⟩) (by decide) (by decide) (by decide) (fun R x C => B56 @Ae5 @Agx @Aea @Agc @Afl @Ahp @Aef N R x C), Tryz.f87, Tryz.func87, rfl, by decide⟩
theorem Bl8 (N : Nat) : Acv Tryz.prog (B5m N) := ⟨B2g N, trivial⟩
theorem Brp (N : Nat) : Aed Tryz.prog 43 [] (sub Ant [1, 1, 1, 0, 1, 0, 0]) (Aaa Ah9 (A1n N N)) :=
 Adm (c := sub Ant [1, 1, 1, 0, 1, 0, 0]) (dom := (Aas [11])) mixed htt (Aad (Aam (Bl8 N))) (Aaf rfl) (by kernel_rfl) (Aah (l := []) (by kernel_rfl) trivial) Bdo (B := (fun _ _ _ => none)) (Aed.none _ _ _ _) (fun _ _ _ => rfl) (fun R k x K => Btz @Agd @Ad2 N R (fun a0 a1 a2 a3 a4 a5 a6 a7 a8 a9 a10 a11 => Ad2 N k a0 a1 a2 a3 a4 a5 a6 a7 a8 a9 a10 a11 (fun a b d e f g => K (.exit 0) (Aab Aqr (((), ()), ((a, b, (), d, e, f, ()), g, ()))))) x K) N
theorem Brq (N : Nat) : Aa5 Tryz.prog 43 [] (sub Ant [1, 1, 1, 0, 1, 0]) (Aaa Ah9 (A1n N N)) := (Brp N).frag
theorem B2h (N : Nat) : Abg Tryz.prog 45 (Bls N) :=
 ⟨Abc (fn := Tryz.f45) (c := Ant) (dom := (Aas [11])) (rs := [.tmp 2]) mixed htt (Aad (Aam (Bl8 N))) (Aaf rfl) Tryz.func45 rfl rfl (by kernel_rfl) (Aah (l := [(11, sub Ant [1, 1, 1, 0, 1, 0])]) (by kernel_rfl) ⟨⟨_, rfl, Brq N⟩, trivial⟩) (by decide) (by decide) (by decide) (fun R x C => B5z @Agd @Ad2 N R x C), Tryz.f45, Tryz.func45, rfl, by decide⟩
theorem Cek (N : Nat) : Acv Tryz.prog (Bxn N) := trivial
theorem A64 (N : Nat) : Abg Tryz.prog 49 (A4q N) :=
 ⟨Abc (fn := Tryz.f49) (c := Bxm) (dom := (Aas [])) (rs := [.tmp 6]) mixed htt (Aad (Aam (Cek N))) (Aaf rfl) Tryz.func49 rfl rfl (by kernel_rfl) (Aah (l := []) (by kernel_rfl) trivial) (by decide) (by decide) (by decide) (fun R x C => Ceh N R x C), Tryz.f49, Tryz.func49, rfl, by decide⟩
theorem Aq9 (N : Nat) : Acv Tryz.prog (Bxp N) := ⟨A64 N, trivial⟩
theorem Bmp (N : Nat) : Aa5 Tryz.prog 50 [] (sub Ae3 [1, 1, 0, 1, 0, 1, 1, 1, 1, 1, 1, 1]) (Aaa Age (A76 N)) :=
 Ady (dom := (Aas [28, 22, 16, 38])) mixed htt (Aad (Aam (Aq9 N))) (Aaf rfl) (by kernel_rfl) (Aah (l := []) (by kernel_rfl) trivial) A75 (fun R x K => Bo5 @Aap @Abw @Abx @Aby @Abz N R x K)
theorem Bmq (N : Nat) : Aa5 Tryz.prog 50 [] (sub Ae3 [1, 1, 0, 1, 0, 1, 1, 1, 1, 1]) (Aaa Agf (A78 N)) :=
 Ady (dom := (Aas [28, 22, 16, 38])) mixed htt (Aad (Aam (Aq9 N))) (Aaf rfl) (by kernel_rfl) (Aah (l := [(28, sub Ae3 [1, 1, 0, 1, 0, 1, 1, 1, 1, 1, 1, 1])]) (by kernel_rfl) ⟨⟨_, rfl, Bmp N⟩, trivial⟩) A77 (fun R x K => Bo4 @Aap @Abw @Abx @Aby @Abz N R x K)
theorem Bmr (N : Nat) : Aa5 Tryz.prog 50 [] (sub Ae3 [1, 1, 0, 1, 0, 1, 1, 1]) (Aaa Agg (A8a N)) :=
 Ady (dom := (Aas [28, 22, 16, 38])) mixed htt (Aad (Aam (Aq9 N))) (Aaf rfl) (by kernel_rfl) (Aah (l := [(22, sub Ae3 [1, 1, 0, 1, 0, 1, 1, 1, 1, 1])]) (by kernel_rfl) ⟨⟨_, rfl, Bmq N⟩, trivial⟩) A79 (fun R x K => Bov @Aap @Abw @Abx @Aby @Abz N R x K)
theorem Bms (N : Nat) : Aa5 Tryz.prog 50 [] (sub Ae3 [1, 1, 1]) (Aaa Agh (A8c N)) :=
 Ady (dom := (Aas [28, 22, 16, 38])) mixed htt (Aad (Aam (Aq9 N))) (Aaf rfl) (by kernel_rfl) (Aah (l := []) (by kernel_rfl) trivial) A8b (fun R x K => Bo7 @Aap @Abw @Abx @Aby @Abz N R x K)
theorem Bvg (N : Nat) : Abg Tryz.prog 88 (Bgm N) :=
 ⟨Abc (fn := Tryz.f88) (c := Ae3) (dom := (Aas [28, 22, 16, 38])) (rs := [.tmp 8]) mixed htt (Aad (Aam (Aq9 N))) (Aaf rfl) Tryz.func88 rfl rfl (by kernel_rfl) (Aah (l := [(16, sub Ae3 [1, 1, 0, 1, 0, 1, 1, 1]), (38, sub Ae3 [1, 1, 1])]) (by kernel_rfl) ⟨⟨_, rfl, Bmr N⟩, ⟨_, rfl, Bms N⟩, trivial⟩) (by decide) (by decide) (by decide) (fun R x C => Bx5 @Aap @Abw @Abx @Aby @Abz N R x C), Tryz.f88, Tryz.func88, rfl, by decide⟩
theorem B6p (N : Nat) : Acv Tryz.prog (B5o N) := ⟨A64 N, trivial⟩
theorem Bjh (N : Nat) : Abg Tryz.prog 48 (Bal N) :=
 ⟨Abc (fn := Tryz.f48) (c := Blt) (dom := (Aas [])) (rs := [.tmp 4]) mixed htt (Aad (Aam (B6p N))) (Aaf rfl) Tryz.func48 rfl rfl (by kernel_rfl) (Aah (l := []) (by kernel_rfl) trivial) (by decide) (by decide) (by decide) (fun R x C => B6g @Aap N R x C), Tryz.f48, Tryz.func48, rfl, by decide⟩
theorem Au5 (N : Nat) : Acv Tryz.prog (B5q N) := ⟨Bvg N, A64 N, Bjh N, trivial⟩
theorem Brr (N : Nat) : Aa5 Tryz.prog 144 [] (sub Agl [1, 1, 0, 1, 0, 1, 1, 1, 1, 1, 1, 1]) (Aaa Ahf (Bek N)) :=
 Ady (dom := (Aas [38, 30, 16, 52])) mixed htt (Aad (Aam (Au5 N))) (Aaf rfl) (by kernel_rfl) (Aah (l := []) (by kernel_rfl) trivial) Bej (fun R x K => Btu @Abu @Aap @Aa8 @Acf @Acb @Aa6 @Aa7 N R x K)
theorem Brs (N : Nat) : Aa5 Tryz.prog 144 [] (sub Agl [1, 1, 0, 1, 0, 1, 1, 1, 1, 1]) (Aaa Ahg (Bem N)) :=
 Ady (dom := (Aas [38, 30, 16, 52])) mixed htt (Aad (Aam (Au5 N))) (Aaf rfl) (by kernel_rfl) (Aah (l := [(38, sub Agl [1, 1, 0, 1, 0, 1, 1, 1, 1, 1, 1, 1])]) (by kernel_rfl) ⟨⟨_, rfl, Brr N⟩, trivial⟩) Bel (fun R x K => Btv @Abu @Aap @Aa8 @Acf @Acb @Aa6 @Aa7 N R x K)
theorem Brt (N : Nat) : Aa5 Tryz.prog 144 [] (sub Agl [1, 1, 0, 1, 0, 1]) (Aaa Ahh (Beo N)) :=
 Ady (dom := (Aas [38, 30, 16, 52])) mixed htt (Aad (Aam (Au5 N))) (Aaf rfl) (by kernel_rfl) (Aah (l := [(30, sub Agl [1, 1, 0, 1, 0, 1, 1, 1, 1, 1])]) (by kernel_rfl) ⟨⟨_, rfl, Brs N⟩, trivial⟩) Ben (fun R x K => Bub @Abu @Aap @Aa8 @Acf @Acb @Aa6 @Aa7 N R x K)
theorem Bru (N : Nat) : Aa5 Tryz.prog 144 [] (sub Agl [1, 1, 1]) (Aaa Ahi (Beq N)) :=
 Ady (dom := (Aas [38, 30, 16, 52])) mixed htt (Aad (Aam (Au5 N))) (Aaf rfl) (by kernel_rfl) (Aah (l := []) (by kernel_rfl) trivial) Bep (fun R x K => Buf @Abu @Aap @Aa8 @Acf @Acb @Aa6 @Aa7 N R x K)
theorem B2i (N : Nat) : Abg Tryz.prog 46 (Blu N) :=
 ⟨Abc (fn := Tryz.f46) (c := Agl) (dom := (Aas [38, 30, 16, 52])) (rs := [.tmp 4]) mixed htt (Aad (Aam (Au5 N))) (Aaf rfl) Tryz.func46 rfl rfl (by kernel_rfl) (Aah (l := [(16, sub Agl [1, 1, 0, 1, 0, 1]), (52, sub Agl [1, 1, 1])]) (by kernel_rfl) ⟨⟨_, rfl, Brt N⟩, ⟨_, rfl, Bru N⟩, trivial⟩) (by decide) (by decide) (by decide) (fun R x C => B55 @Abu @Aap @Aa8 @Acf @Acb @Aa6 @Aa7 N R x C), Tryz.f46, Tryz.func46, rfl, by decide⟩
theorem B2j (N : Nat) : Acv Tryz.prog (Bjc N) := trivial
theorem Byr (N : Nat) : Abg Tryz.prog 47 (Bjb N) :=
 ⟨Abc (fn := Tryz.f47) (c := Bja) (dom := (Aas [])) (rs := [.tmp 2]) mixed htt (Aad (Aam (B2j N))) (Aaf rfl) Tryz.func47 rfl rfl (by kernel_rfl) (Aah (l := []) (by kernel_rfl) trivial) (by decide) (by decide) (by decide) (fun R x C => B1l N R x C), Tryz.f47, Tryz.func47, rfl, by decide⟩
theorem A0i (N : Nat) : Acv Tryz.prog (B5s N) := ⟨B2h N, B2i N, Byr N, Bjh N, A64 N, trivial⟩
theorem Brv (N : Nat) : Aa5 Tryz.prog 107 [] (sub Afw [1, 1, 1, 1, 0, 1, 0, 0, 1, 0, 0, 1, 1, 1]) (Aaa Aik (Bes N)) :=
 Ady (dom := (Aas [26, 13, 37])) mixed htt (Aad (Aam (A0i N))) (Aaf rfl) (by kernel_rfl) (Aah (l := []) (by kernel_rfl) trivial) Ber (fun R x K => Bud @Aeb @Aec @Acz @Aa8 @Aap @Acc @Aco @Acp N R x K)
theorem Brw (N : Nat) : Aed Tryz.prog 107 [] (sub Afw [1, 1, 1, 1, 1, 1, 0, 1, 0, 0]) (Aaa Agr (A2e N N)) :=
 Adm (c := sub Afw [1, 1, 1, 1, 1, 1, 0, 1, 0, 0]) (dom := (Aas [26, 13, 37])) mixed htt (Aad (Aam (A0i N))) (Aaf rfl) (by kernel_rfl) (Aah (l := []) (by kernel_rfl) trivial) Bev (B := (fun _ _ _ => none)) (Aed.none _ _ _ _) (fun _ _ _ => rfl) (fun R k x K => Bua @Aeb @Aec @Acz @Aa8 @Aap @Acc @Aco @Acp N R (fun a0 a1 a2 a3 a4 a5 => Acp N k a0 a1 a2 a3 a4 a5 (fun a => K .ret (Aab Aq7 ((a, ()), (())))) (K (.exit 2) (Aab Aq8 ((()), (()))))) x K) N
theorem Brx (N : Nat) : Aa5 Tryz.prog 107 [] (sub Afw [1, 1, 1, 1, 1, 1, 0, 1, 0]) (Aaa Agr (A2e N N)) := (Brw N).frag
theorem Bry (N : Nat) : Aed Tryz.prog 107 [] (sub Afw [1, 1, 1, 1, 0, 1, 0, 0]) (Aaa Agq (A2b N N)) :=
 Adm (c := sub Afw [1, 1, 1, 1, 0, 1, 0, 0]) (dom := (Aas [26, 13, 37])) mixed htt (Aad (Aam (A0i N))) (Aaf rfl) (by kernel_rfl) (Aah (l := [(26, sub Afw [1, 1, 1, 1, 0, 1, 0, 0, 1, 0, 0, 1, 1, 1])]) (by kernel_rfl) ⟨⟨_, rfl, Brv N⟩, trivial⟩) Bet (B := (fun _ _ _ => none)) (Aed.none _ _ _ _) (fun _ _ _ => rfl) (fun R k x K => Bts @Aeb @Aec @Acz @Aa8 @Aap @Acc @Aco @Acp N R (fun a0 a1 a2 a3 a4 a5 a6 => Aco N k a0 a1 a2 a3 a4 a5 a6 (fun a => K .ret (Aab Aq5 ((a, ()), (())))) (fun a b d e f g => K (.exit 0) (Aab Aq6 (((), a, ()), ((b, d, e, f, g, ()), ()))))) x K) N
theorem Brz (N : Nat) : Aa5 Tryz.prog 107 [] (sub Afw [1, 1, 1, 1, 0, 1, 0]) (Aaa Agq (A2b N N)) := (Bry N).frag
theorem B2k (N : Nat) : Abg Tryz.prog 15 (Blw N) :=
 ⟨Abc (fn := Tryz.f15) (c := Afw) (dom := (Aas [26, 13, 37])) (rs := [.tmp 2]) mixed htt (Aad (Aam (A0i N))) (Aaf rfl) Tryz.func15 rfl rfl (by kernel_rfl) (Aah (l := [(13, sub Afw [1, 1, 1, 1, 0, 1, 0]), (37, sub Afw [1, 1, 1, 1, 1, 1, 0, 1, 0])]) (by kernel_rfl) ⟨⟨_, rfl, Brz N⟩, ⟨_, rfl, Brx N⟩, trivial⟩) (by decide) (by decide) (by decide) (fun R x C => B5v @Aeb @Aec @Acz @Aa8 @Aap @Acc @Aco @Acp N R x C), Tryz.f15, Tryz.func15, rfl, by decide⟩
theorem Bpn (N : Nat) : Acv Tryz.prog (Bot N) := ⟨B1m N, B1n N, B6n N, B2k N, trivial⟩
theorem Bmt (N : Nat) : Abg Tryz.prog 3 (A8d N) :=
 ⟨Abc (fn := Tryz.f3) (c := A7f) (dom := (Aas [])) (rs := [.tmp 2]) mixed htt (Aad (Aam (Bpn N))) (Aaf rfl) Tryz.func3 rfl rfl (by kernel_rfl) (Aah (l := []) (by kernel_rfl) trivial) (by decide) (by decide) (by decide) (fun R x C => Box @Ait @Aj5 @Aix N R x C), Tryz.f3, Tryz.func3, rfl, by decide⟩
end
end Q

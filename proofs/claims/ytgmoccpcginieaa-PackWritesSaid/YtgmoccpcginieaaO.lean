/- Part O of the proof. -/
import Derived.Test.YtgmoccpcginieaaE1
import Derived.Test.YtgmoccpcginieaaE2
import Derived.Test.YtgmoccpcginieaaSh
import Derived.WalkKit
import Derived.Laws.Externs
open Go Go.AX Go.Proofs
namespace Q
noncomputable section
set_option maxRecDepth 100000
set_option linter.unusedVariables false
theorem htt : Aib Go.Proofs.Try.prog tt := B9t (l := Cip) (by kernel_rfl)
theorem mixed : Go.Proofs.Try.prog.follows .mixedOrders = true := by kernel_rfl
theorem Bcp (N : Nat) : Aco Go.Proofs.Try.prog (Brc N) := trivial
theorem Blq (N : Nat) : Acz Go.Proofs.Try.prog 54 [] (sub Ak3 [1, 1, 0, 1, 0, 0]) (Aaa Ag9 (Awu N N)) :=
  Ab0 (c := sub Ak3 [1, 1, 0, 1, 0, 0]) (dom := (Aat [7])) mixed htt (Aad (Aal (Bcp N))) (Aag rfl) (by kernel_rfl) (Aah (l := []) (by kernel_rfl) trivial) A6p (B := (fun _ _ _ => none)) (Acz.none _ _ _ _) (fun _ _ _ => rfl) (fun R k x K => Bnq @Adp N R (fun a0 a1 a2 a3 a4 a5 a6 a7 a8 => Adp N k a0 a1 a2 a3 a4 a5 a6 a7 a8 (fun y0 y1 y2 y3 y4 y5 y6 y7 => K (.exit 0) (Aab Aoh ((y0, (), y1, ()), ((y2, y3, y4, y5, y6, y7, ()), ()))))) x K) N
theorem Blr (N : Nat) : Aax Go.Proofs.Try.prog 54 [] (sub Ak3 [1, 1, 0, 1, 0]) (Aaa Ag9 (Awu N N)) := (Blq N).frag
theorem Bp3 (N : Nat) : Abe Go.Proofs.Try.prog 44 (Bce N) :=
  ⟨Aa5 (fn := Go.Proofs.Try.f44) (c := Ak3) (dom := (Aat [7])) (rs := [.tmp 4]) mixed htt (Aad (Aal (Bcp N))) (Aag rfl) Go.Proofs.Try.func44 rfl rfl (by kernel_rfl) (Aah (l := [(7, sub Ak3 [1, 1, 0, 1, 0])]) (by kernel_rfl) ⟨⟨_, rfl, Blr N⟩, trivial⟩) (by decide) (by decide) (by decide) (fun R x C => Bro @Adp N R x C), Go.Proofs.Try.f44, Go.Proofs.Try.func44, rfl, by decide⟩
theorem B43 (N : Nat) : Aco Go.Proofs.Try.prog (B22 N) := ⟨Bp3 N, trivial⟩
theorem B0r (N : Nat) : Abe Go.Proofs.Try.prog 15 (Bl6 N) :=
  ⟨Aa5 (fn := Go.Proofs.Try.f15) (c := Bl4) (dom := (Aat [])) (rs := [.tmp 2]) mixed htt (Aad (Aal (B43 N))) (Aag rfl) Go.Proofs.Try.func15 rfl rfl (by kernel_rfl) (Aah (l := []) (by kernel_rfl) trivial) (by decide) (by decide) (by decide) (fun R x C => B4y @Af4 N R x C), Go.Proofs.Try.f15, Go.Proofs.Try.func15, rfl, by decide⟩
theorem Bcq (N : Nat) : Aco Go.Proofs.Try.prog (Bre N) := trivial
theorem Bki (N : Nat) : Acz Go.Proofs.Try.prog 53 (List.replicate 32 true) (sub Ak4 [1, 1, 1, 0, 1, 0, 0]) (Aaa Agq (Aum N N)) :=
  Ab0 (c := sub Ak4 [1, 1, 1, 0, 1, 0, 0]) (dom := (Aat [13])) mixed htt (Aad (Aal (Bcq N))) (Aag rfl) (by kernel_rfl) (Aah (l := []) (by kernel_rfl) trivial) A4b (B := (fun _ _ _ => none)) (Acz.none _ _ _ _) (fun _ _ _ => rfl) (fun R k x K => Blo @Ady N R (fun a0 a1 a2 a3 a4 a5 => Ady N k a0 a1 a2 a3 a4 a5 (fun y0 y1 y2 y3 => K (.exit 0) (Aab Anz ((y0, ()), ((y1, y2, y3, ()), ()))))) x K) N
theorem Bkj (N : Nat) : Aax Go.Proofs.Try.prog 53 (List.replicate 32 true) (sub Ak4 [1, 1, 1, 0, 1, 0]) (Aaa Agq (Aum N N)) := (Bki N).frag
theorem A9t (N : Nat) : Abe Go.Proofs.Try.prog 36 (A0u N) :=
  ⟨Aa5 (fn := Go.Proofs.Try.f36) (c := Ak4) (dom := (Aat [13])) (rs := [.tmp 4]) mixed htt (Aad (Aal (Bcq N))) (Aag rfl) Go.Proofs.Try.func36 rfl rfl (by kernel_rfl) (Aah (l := [(13, sub Ak4 [1, 1, 1, 0, 1, 0])]) (by kernel_rfl) ⟨⟨_, rfl, Bkj N⟩, trivial⟩) (by decide) (by decide) (by decide) (fun R x C => Brn @Ady N R x C), Go.Proofs.Try.f36, Go.Proofs.Try.func36, rfl, by decide⟩
theorem Bls (N : Nat) : Aco Go.Proofs.Try.prog (Blg N) := ⟨A9t N, trivial⟩
theorem Bkk (N : Nat) : Abe Go.Proofs.Try.prog 35 (A4f N) :=
  ⟨Aa5 (fn := Go.Proofs.Try.f35) (c := A4a) (dom := (Aat [])) (rs := [.tmp 4]) mixed htt (Aad (Aal (Bls N))) (Aag rfl) Go.Proofs.Try.func35 rfl rfl (by kernel_rfl) (Aah (l := []) (by kernel_rfl) trivial) (by decide) (by decide) (by decide) (fun R x C => Blp @Ac6 N R x C), Go.Proofs.Try.f35, Go.Proofs.Try.func35, rfl, by decide⟩
theorem B7n (N : Nat) : Aco Go.Proofs.Try.prog (Bou N) := trivial
theorem Bna (N : Nat) : Abe Go.Proofs.Try.prog 38 (Bdu N) :=
  ⟨Aa5 (fn := Go.Proofs.Try.f38) (c := Bot) (dom := (Aat [])) (rs := [.tmp 2]) mixed htt (Aad (Aal (B7n N))) (Aag rfl) Go.Proofs.Try.func38 rfl rfl (by kernel_rfl) (Aah (l := []) (by kernel_rfl) trivial) (by decide) (by decide) (by decide) (fun R x C => B7l N R x C), Go.Proofs.Try.f38, Go.Proofs.Try.func38, rfl, by decide⟩
theorem B7o (N : Nat) : Aco Go.Proofs.Try.prog (Boz N) := trivial
theorem A19 (N : Nat) : Abe Go.Proofs.Try.prog 37 (Ayf N) :=
  ⟨Aa5 (fn := Go.Proofs.Try.f37) (c := Boy) (dom := (Aat [])) (rs := [.tmp 2]) mixed htt (Aad (Aal (B7o N))) (Aag rfl) Go.Proofs.Try.func37 rfl rfl (by kernel_rfl) (Aah (l := []) (by kernel_rfl) trivial) (by decide) (by decide) (by decide) (fun R x C => B7m N R x C), Go.Proofs.Try.f37, Go.Proofs.Try.func37, rfl, by decide⟩
theorem B2n (N : Nat) : Aco Go.Proofs.Try.prog (Cb6 N) := ⟨Bkk N, Bna N, A19 N, A9t N, trivial⟩
theorem B44 (N : Nat) : Aax Go.Proofs.Try.prog 94 [] (sub A81 [1, 1, 1, 1, 1, 1, 1, 1]) (Aaa Apz (Box N)) :=
  Afq (dom := (Aat [24])) mixed htt (Aad (Aal (B2n N))) (Aag rfl) (by kernel_rfl) (Aah (l := []) (by kernel_rfl) trivial) Bov (fun R x K => B7j @Adz @Acf @Abg @Ac6 @Ajp N R x K)
theorem Caw (N : Nat) : Abe Go.Proofs.Try.prog 12 (B2m N) :=
  ⟨Aa5 (fn := Go.Proofs.Try.f12) (c := A81) (dom := (Aat [24])) (rs := [.cell 4 24, .tmp 5, .tmp 6]) mixed htt (Aad (Aal (B2n N))) (Aag rfl) Go.Proofs.Try.func12 rfl rfl (by kernel_rfl) (Aah (l := [(24, sub A81 [1, 1, 1, 1, 1, 1, 1, 1])]) (by kernel_rfl) ⟨⟨_, rfl, B44 N⟩, trivial⟩) (by decide) (by decide) (by decide) (fun R x C => Ccb @Adz @Acf @Abg @Ac6 @Ajp N R x C), Go.Proofs.Try.f12, Go.Proofs.Try.func12, rfl, by decide⟩
theorem B45 (N : Nat) : Aco Go.Proofs.Try.prog (B24 N) := ⟨Caw N, trivial⟩
theorem B0s (N : Nat) : Abe Go.Proofs.Try.prog 14 (Bma N) :=
  ⟨Aa5 (fn := Go.Proofs.Try.f14) (c := Bl7) (dom := (Aat [])) (rs := [.tmp 0]) mixed htt (Aad (Aal (B45 N))) (Aag rfl) Go.Proofs.Try.func14 rfl rfl (by kernel_rfl) (Aah (l := []) (by kernel_rfl) trivial) (by decide) (by decide) (by decide) (fun R x C => B42 @Aq5 N R x C), Go.Proofs.Try.f14, Go.Proofs.Try.func14, rfl, by decide⟩
theorem Bnb (N : Nat) : Aco Go.Proofs.Try.prog (B26 N) := trivial
theorem Brs (N : Nat) : Acz Go.Proofs.Try.prog 50 [] (sub Aow [1, 1, 1, 0, 1, 0, 0]) (Aaa Aim (A2m N N)) :=
  Ab0 (c := sub Aow [1, 1, 1, 0, 1, 0, 0]) (dom := (Aat [11])) mixed htt (Aad (Aal (Bnb N))) (Aag rfl) (by kernel_rfl) (Aah (l := []) (by kernel_rfl) trivial) Bdx (B := (fun _ _ _ => none)) (Acz.none _ _ _ _) (fun _ _ _ => rfl) (fun R k x K => Buw @Ael N R (fun a0 a1 a2 a3 => Ael N k a0 a1 a2 a3 (fun y0 => K (.exit 0) (Aab Arh ((y0, ()), (()))))) x K) N
theorem Brt (N : Nat) : Aax Go.Proofs.Try.prog 50 [] (sub Aow [1, 1, 1, 0, 1, 0]) (Aaa Aim (A2m N N)) := (Brs N).frag
theorem B0t (N : Nat) : Abe Go.Proofs.Try.prog 87 (Bmd N) :=
  ⟨Aa5 (fn := Go.Proofs.Try.f87) (c := Aow) (dom := (Aat [11])) (rs := [.tmp 2]) mixed htt (Aad (Aal (Bnb N))) (Aag rfl) Go.Proofs.Try.func87 rfl rfl (by kernel_rfl) (Aah (l := [(11, sub Aow [1, 1, 1, 0, 1, 0])]) (by kernel_rfl) ⟨⟨_, rfl, Brt N⟩, trivial⟩) (by decide) (by decide) (by decide) (fun R x C => B4x @Ael N R x C), Go.Proofs.Try.f87, Go.Proofs.Try.func87, rfl, by decide⟩
theorem B7p : (Go.Proofs.Try.prog.info? 147).map (·.size) = some 2 := by kernel_rfl
theorem Cd8 : liesAt Go.Proofs.Try.prog Go.Proofs.Try.prog.depth 147 (2 / Go.Proofs.Try.prog.cellsOf 147) 0 147 1 = true := by kernel_rfl
set_option maxHeartbeats 1000000 in
theorem B0u (b : Nat) (w : World) (h0 : w.cell? ⟨b, 0, none⟩ = some (.pointer (some ⟨b, 0, none⟩))) :
    Calls Go.Proofs.Try.prog 122 #[.pointer (some ⟨b, 0, none⟩)] w fun e w' => e = .returned (.tuple #[]) ∧ w' = w := by
  obtain ⟨j, hj, _⟩ := Option.map_eq_some_iff.1 B7p
  go_enter Go.Proofs.Try.func122, Go.Proofs.Try.ntmps122
  go_wp2
  rw [Lib.run_neq_ptr_same w _ Go.Proofs.Try.underlying145 hj]
  go_wp2
  go_end0
  exact ⟨rfl, rfl⟩
set_option maxHeartbeats 1000000 in
theorem Bxz (b : Nat) (w : World) (h0 : w.cell? ⟨b, 0, none⟩ = some (.pointer none)) (hsh : w.shape? b = some (147, 2)) (hfz : w.frozen? ⟨b, 0, none⟩ = false) :
    Calls Go.Proofs.Try.prog 122 #[.pointer (some ⟨b, 0, none⟩)] w fun e w' => e = .returned (.tuple #[]) ∧ w' = w.setCell ⟨b, 0, none⟩ (.pointer (some ⟨b, 0, none⟩)) := by
  obtain ⟨j, hj, hjs⟩ := Option.map_eq_some_iff.1 B7p
  go_enter Go.Proofs.Try.func122, Go.Proofs.Try.ntmps122
  go_wp2
  rw [Lib.run_to_unsafe w ⟨b, 0, none⟩ Go.Proofs.Try.underlying145 Go.Proofs.Try.underlying155 hj (by rw [hjs]; decide) hsh (Nat.zero_lt_succ 1)]
  simp only [Result.andThen]
  rw [Oper.upon_value]
  go_wp2
  rw [run_callFunc_extern Go.Proofs.Try.func125 (by kernel_rfl) (by kernel_rfl) (by kernel_rfl) (e := Extern.AbiNoEscape.same) (by kernel_rfl)]
  rw [Lib.run_noEscape]
  simp only [Result.andThen]
  rw [Oper.upon_value]
  go_wp2
  rw [Lib.run_from_unsafe w ⟨b, 0, none⟩ Go.Proofs.Try.underlying155 Go.Proofs.Try.underlying145 hj hsh Cd8]
  simp only [Result.andThen]
  rw [Oper.upon_value]
  go_wp2
  go_end0
  exact ⟨rfl, rfl⟩
theorem At7 (N : Nat) : Abe Go.Proofs.Try.prog 122 (An8 N) :=
  ⟨B6m B0u Bxz, Go.Proofs.Try.f122, Go.Proofs.Try.func122, rfl, by decide⟩
theorem A9u (N : Nat) : Aco Go.Proofs.Try.prog (Aud N) := ⟨At7 N, trivial⟩
theorem A8i (N : Nat) : Abe Go.Proofs.Try.prog 115 (Auc N) :=
  ⟨Aa5 (fn := Go.Proofs.Try.f115) (c := Ala) (dom := (Aat [])) (rs := [.tmp 4]) mixed htt (Aad (Aal (A9u N))) (Aag rfl) Go.Proofs.Try.func115 rfl rfl (by kernel_rfl) (Aah (l := []) (by kernel_rfl) trivial) (by decide) (by decide) (by decide) (fun R x C => A9s N R x C), Go.Proofs.Try.f115, Go.Proofs.Try.func115, rfl, by decide⟩
theorem Blt (N : Nat) : Abe Go.Proofs.Try.prog 116 (Aqo N) :=
  ⟨B6l Try.strings_IndexByte, Go.Proofs.Try.f116, Go.Proofs.Try.func116, rfl, by decide⟩
theorem A6a (N : Nat) : Aco Go.Proofs.Try.prog (Arj N) := ⟨At7 N, trivial⟩
theorem A32 (N : Nat) : Abe Go.Proofs.Try.prog 115 (Ari N) :=
  ⟨Aa5 (fn := Go.Proofs.Try.f115) (c := Ala) (dom := (Aat [])) (rs := [.tmp 4]) mixed htt (Aad (Aal (A6a N))) (Aag rfl) Go.Proofs.Try.func115 rfl rfl (by kernel_rfl) (Aah (l := []) (by kernel_rfl) trivial) (by decide) (by decide) (by decide) (fun R x C => A59 N R x C), Go.Proofs.Try.f115, Go.Proofs.Try.func115, rfl, by decide⟩
theorem Bc2 (N : Nat) : Abe Go.Proofs.Try.prog 117 (Ame N) :=
  ⟨Cb3 Try.lays169 Try.Builder_Extra_169, Go.Proofs.Try.f117, Go.Proofs.Try.func117, rfl, by decide⟩
theorem Btd (N : Nat) : Aco Go.Proofs.Try.prog (B8g N) := ⟨Caf rfl (A8i N) (A32 N), Blt N, Bc2 N, trivial⟩
theorem B0v (N : Nat) : Acz Go.Proofs.Try.prog 41 [] (sub Aso [1, 1, 1, 0, 1, 0, 0]) (Aaa Alf (Bae N N)) :=
  Ab0 (c := sub Aso [1, 1, 1, 0, 1, 0, 0]) (dom := (Aat [9])) mixed htt (Aad (Aal (Btd N))) (Aag rfl) (by kernel_rfl) (Aah (l := []) (by kernel_rfl) trivial) Bme (B := (fun _ _ _ => none)) (Acz.none _ _ _ _) (fun _ _ _ => rfl) (fun R k x K => B4e @Abs @Aaw @Agb N R (fun a0 a1 a2 a3 => Agb N k a0 a1 a2 a3 (fun y0 y1 => K .ret (Aab Aw6 ((y0, y1, ()), (())))) (fun y0 y1 => K (.exit 0) (Aab Aw7 ((y0, (), ()), (((), (), ()), y1, ()))))) x K) N
theorem B0w (N : Nat) : Aax Go.Proofs.Try.prog 41 [] (sub Aso [1, 1, 1, 0, 1, 0]) (Aaa Alf (Bae N N)) := (B0v N).frag
theorem Bp4 (N : Nat) : Abe Go.Proofs.Try.prog 104 (Big N) :=
  ⟨Aa5 (fn := Go.Proofs.Try.f104) (c := Aso) (dom := (Aat [9])) (rs := [.tmp 2, .tmp 3]) mixed htt (Aad (Aal (Btd N))) (Aag rfl) Go.Proofs.Try.func104 rfl rfl (by kernel_rfl) (Aah (l := [(9, sub Aso [1, 1, 1, 0, 1, 0])]) (by kernel_rfl) ⟨⟨_, rfl, B0w N⟩, trivial⟩) (by decide) (by decide) (by decide) (fun R x C => B8z @Abs @Aaw @Agb N R x C), Go.Proofs.Try.f104, Go.Proofs.Try.func104, rfl, by decide⟩
theorem B46 (N : Nat) : Aco Go.Proofs.Try.prog (Bmh N) := trivial
theorem Bkl (N : Nat) : Abe Go.Proofs.Try.prog 105 (Bag N) :=
  ⟨Aa5 (fn := Go.Proofs.Try.f105) (c := Bmg) (dom := (Aat [])) (rs := [.cell 0 133]) mixed htt (Aad (Aal (B46 N))) (Aag rfl) Go.Proofs.Try.func105 rfl rfl (by kernel_rfl) (Aah (l := []) (by kernel_rfl) trivial) (by decide) (by decide) (by decide) (fun R x C => B4o N R x C), Go.Proofs.Try.f105, Go.Proofs.Try.func105, rfl, by decide⟩
theorem Cax (N : Nat) : Aco Go.Proofs.Try.prog (Bww N) := trivial
theorem A8r (N : Nat) : Abe Go.Proofs.Try.prog 119 (A4k N) :=
  ⟨Aa5 (fn := Go.Proofs.Try.f119) (c := Bwv) (dom := (Aat [])) (rs := [.tmp 6]) mixed htt (Aad (Aal (Cax N))) (Aag rfl) Go.Proofs.Try.func119 rfl rfl (by kernel_rfl) (Aah (l := []) (by kernel_rfl) trivial) (by decide) (by decide) (by decide) (fun R x C => Cat N R x C), Go.Proofs.Try.f119, Go.Proofs.Try.func119, rfl, by decide⟩
theorem B7q (N : Nat) : Aco Go.Proofs.Try.prog (B6v N) := ⟨A8r N, trivial⟩
theorem Bnc (N : Nat) : Abe Go.Proofs.Try.prog 118 (Bd1 N) :=
  ⟨Aa5 (fn := Go.Proofs.Try.f118) (c := Bo3) (dom := (Aat [])) (rs := [.tmp 2]) mixed htt (Aad (Aal (B7q N))) (Aag rfl) Go.Proofs.Try.func118 rfl rfl (by kernel_rfl) (Aah (l := []) (by kernel_rfl) trivial) (by decide) (by decide) (by decide) (fun R x C => B7g @Aa6 N R x C), Go.Proofs.Try.f118, Go.Proofs.Try.func118, rfl, by decide⟩
theorem Bho (N : Nat) : Aco Go.Proofs.Try.prog (Bwy N) := ⟨A8r N, Bnc N, trivial⟩
theorem Bns (N : Nat) : Aax Go.Proofs.Try.prog 102 [] (sub Ark [1, 1, 1]) (Aaa Aj2 (A87 N)) :=
  Afq (dom := (Aat [42])) mixed htt (Aad (Aal (Bho N))) (Aag rfl) (by kernel_rfl) (Aah (l := []) (by kernel_rfl) trivial) A86 (fun R x K => Bp2 @Aa6 @Ae3 @Aby N R x K)
theorem Buz (N : Nat) : Abe Go.Proofs.Try.prog 106 (Bgn N) :=
  ⟨Aa5 (fn := Go.Proofs.Try.f106) (c := Ark) (dom := (Aat [42])) (rs := [.tmp 6]) mixed htt (Aad (Aal (Bho N))) (Aag rfl) Go.Proofs.Try.func106 rfl rfl (by kernel_rfl) (Aah (l := [(42, sub Ark [1, 1, 1])]) (by kernel_rfl) ⟨⟨_, rfl, Bns N⟩, trivial⟩) (by decide) (by decide) (by decide) (fun R x C => Bxt @Aa6 @Ae3 @Aby N R x C), Go.Proofs.Try.f106, Go.Proofs.Try.func106, rfl, by decide⟩
theorem Bkm (N : Nat) : Aco Go.Proofs.Try.prog (Bzn N) := trivial
theorem Bru (N : Nat) : Acz Go.Proofs.Try.prog 74 [] (sub Ana [1, 1, 1, 0, 1, 0, 0]) (Aaa Aio (A2t N N)) :=
  Ab0 (c := sub Ana [1, 1, 1, 0, 1, 0, 0]) (dom := (Aat [9])) mixed htt (Aad (Aal (Bkm N))) (Aag rfl) (by kernel_rfl) (Aah (l := []) (by kernel_rfl) trivial) Bd4 (B := (fun _ _ _ => none)) (Acz.none _ _ _ _) (fun _ _ _ => rfl) (fun R k x K => Bup @Aex N R (fun a0 a1 a2 a3 a4 a5 a6 a7 a8 a9 a10 a11 a12 => Aex N k a0 a1 a2 a3 a4 a5 a6 a7 a8 a9 a10 a11 a12 (fun y0 y1 y2 => K .ret (Aab Aro (((), (), y0, ()), (y1, y2, ())))) (fun y0 y1 y2 y3 y4 y5 y6 y7 y8 y9 => K (.exit 0) (Aab Arp (((), (), (), y0, y1, ()), ((y2, y3, y4, y5, y6, y7, ()), y8, y9, ()))))) x K) N
theorem Brv (N : Nat) : Aax Go.Proofs.Try.prog 74 [] (sub Ana [1, 1, 1, 0, 1, 0]) (Aaa Aio (A2t N N)) := (Bru N).frag
theorem Bhp (N : Nat) : Abe Go.Proofs.Try.prog 107 (A64 N) :=
  ⟨Aa5 (fn := Go.Proofs.Try.f107) (c := Ana) (dom := (Aat [9])) (rs := [.tmp 2, .tmp 3, .tmp 4]) mixed htt (Aad (Aal (Bkm N))) (Aag rfl) Go.Proofs.Try.func107 rfl rfl (by kernel_rfl) (Aah (l := [(9, sub Ana [1, 1, 1, 0, 1, 0])]) (by kernel_rfl) ⟨⟨_, rfl, Brv N⟩, trivial⟩) (by decide) (by decide) (by decide) (fun R x C => B0o @Aex N R x C), Go.Proofs.Try.f107, Go.Proofs.Try.func107, rfl, by decide⟩
theorem Bp5 (N : Nat) : Aco Go.Proofs.Try.prog (B6x N) := trivial
theorem Bu0 (N : Nat) : Aax Go.Proofs.Try.prog 39 [] (sub Ayi [1, 0, 1, 0, 1]) (Aaa Amf (Bgp N)) :=
  Afq (dom := (Aat [12])) mixed htt (Aad (Aal (Bp5 N))) (Aag rfl) (by kernel_rfl) (Aah (l := []) (by kernel_rfl) trivial) Bgo (fun R x K => Bxl @Ae2 N R x K)
theorem Bnd (N : Nat) : Abe Go.Proofs.Try.prog 113 (Bea N) :=
  ⟨Aa5 (fn := Go.Proofs.Try.f113) (c := Ayi) (dom := (Aat [12])) (rs := [.tmp 4]) mixed htt (Aad (Aal (Bp5 N))) (Aag rfl) Go.Proofs.Try.func113 rfl rfl (by kernel_rfl) (Aah (l := [(12, sub Ayi [1, 0, 1, 0, 1])]) (by kernel_rfl) ⟨⟨_, rfl, Bu0 N⟩, trivial⟩) (by decide) (by decide) (by decide) (fun R x C => B7k @Ae2 N R x C), Go.Proofs.Try.f113, Go.Proofs.Try.func113, rfl, by decide⟩
theorem A2a (N : Nat) : Aco Go.Proofs.Try.prog (B3b N) := ⟨Bnd N, trivial⟩
theorem Brw (N : Nat) : Acz Go.Proofs.Try.prog 132 [] (sub Agf [1, 0, 1, 0, 0, 1, 0, 0, 1, 0, 1, 0, 1, 0, 0, 1, 0, 0]) (Aaa Ag5 (A2v N N)) :=
  Ab0 (c := sub Agf [1, 0, 1, 0, 0, 1, 0, 0, 1, 0, 1, 0, 1, 0, 0, 1, 0, 0]) (dom := (Aat [17, 44, 5])) mixed htt (Aad (Aal (A2a N))) (Aag rfl) (by kernel_rfl) (Aah (l := []) (by kernel_rfl) trivial) Bd6 (B := (fun _ _ _ => none)) (Acz.none _ _ _ _) (fun _ _ _ => rfl) (fun R k x K => Buq @Abz @Acx @Abq @Acq N R (fun a0 a1 a2 a3 => Acx N k a0 a1 a2 a3 (fun y0 => K .ret (Aab Arq ((y0, ()), (())))) (fun y0 y1 => K (.exit 3) (Aab Arr ((y0, y1, ()), (()))))) x K) N
theorem Brx (N : Nat) : Aax Go.Proofs.Try.prog 132 [] (sub Agf [1, 0, 1, 0, 0, 1, 0, 0, 1, 0, 1, 0, 1, 0, 0, 1, 0]) (Aaa Ag5 (A2v N N)) := (Brw N).frag
theorem Bry (N : Nat) : Aax Go.Proofs.Try.prog 132 [] (sub Agf [1, 0, 1, 0, 0, 1, 0, 0, 1, 1]) (Aaa Aip (Bec N)) :=
  Afq (dom := (Aat [17, 44, 5])) mixed htt (Aad (Aal (A2a N))) (Aag rfl) (by kernel_rfl) (Aah (l := []) (by kernel_rfl) trivial) Beb (fun R x K => Bur @Abz @Acx @Abq @Acq N R x K)
theorem Bu1 (N : Nat) : Acz Go.Proofs.Try.prog 132 [] (sub Agf [1, 0, 1, 0, 0]) (Aaa Ahp (A4r N N)) :=
  Ab0 (c := sub Agf [1, 0, 1, 0, 0]) (dom := (Aat [17, 44, 5])) mixed htt (Aad (Aal (A2a N))) (Aag rfl) (by kernel_rfl) (Aah (l := [(17, sub Agf [1, 0, 1, 0, 0, 1, 0, 0, 1, 0, 1, 0, 1, 0, 0, 1, 0]), (44, sub Agf [1, 0, 1, 0, 0, 1, 0, 0, 1, 1])]) (by kernel_rfl) ⟨⟨_, rfl, Brx N⟩, ⟨_, rfl, Bry N⟩, trivial⟩) Bgq (B := (fun _ _ _ => none)) (Acz.none _ _ _ _) (fun _ _ _ => rfl) (fun R k x K => Bxs @Abz @Acx @Abq @Acq N R (fun a0 a1 => Acq N k a0 a1 (fun y0 => K .ret (Aab As3 ((y0, ()), (())))) (fun y0 => K (.exit 0) (Aab As4 ((y0, ()), (()))))) x K) N
theorem Bu2 (N : Nat) : Aax Go.Proofs.Try.prog 132 [] (sub Agf [1, 0, 1, 0]) (Aaa Ahp (A4r N N)) := (Bu1 N).frag
theorem B0x (N : Nat) : Abe Go.Proofs.Try.prog 108 (Bmi N) :=
  ⟨Aa5 (fn := Go.Proofs.Try.f108) (c := Agf) (dom := (Aat [17, 44, 5])) (rs := [.tmp 2]) mixed htt (Aad (Aal (A2a N))) (Aag rfl) Go.Proofs.Try.func108 rfl rfl (by kernel_rfl) (Aah (l := [(5, sub Agf [1, 0, 1, 0])]) (by kernel_rfl) ⟨⟨_, rfl, Bu2 N⟩, trivial⟩) (by decide) (by decide) (by decide) (fun R x C => B4h @Abz @Acx @Abq @Acq N R x C), Go.Proofs.Try.f108, Go.Proofs.Try.func108, rfl, by decide⟩
theorem Bx0 (N : Nat) : Aco Go.Proofs.Try.prog (Bw1 N) := ⟨Bnc N, trivial⟩
theorem Bu3 (N : Nat) : Abe Go.Proofs.Try.prog 121 (Bgt N) :=
  ⟨Aa5 (fn := Go.Proofs.Try.f121) (c := Bgs) (dom := (Aat [])) (rs := [.tmp 2]) mixed htt (Aad (Aal (Bx0 N))) (Aag rfl) Go.Proofs.Try.func121 rfl rfl (by kernel_rfl) (Aah (l := []) (by kernel_rfl) trivial) (by decide) (by decide) (by decide) (fun R x C => Bxy @Ae3 N R x C), Go.Proofs.Try.f121, Go.Proofs.Try.func121, rfl, by decide⟩
theorem Awi (N : Nat) : Aco Go.Proofs.Try.prog (Bak N) := ⟨Bu3 N, trivial⟩
theorem A6m (N : Nat) : Acz Go.Proofs.Try.prog 19 [] (sub Agg [1, 0, 1, 0, 0]) (Aaa Ad8 (Ang N N)) :=
  Ab0 (c := sub Agg [1, 0, 1, 0, 0]) (dom := (Aat [5])) mixed htt (Aad (Aal (Awi N))) (Aag rfl) (by kernel_rfl) (Aah (l := []) (by kernel_rfl) trivial) Atv (B := (fun _ _ _ => none)) (Acz.none _ _ _ _) (fun _ _ _ => rfl) (fun R k x K => A8h @Afk @Aa9 N R (fun a0 a1 a2 => Aa9 N k a0 a1 a2 (fun y0 => K .ret (Aab Ajq ((y0, ()), (())))) (K (.exit 0) (Aab Ajr ((()), (()))))) x K) N
theorem A6n (N : Nat) : Aax Go.Proofs.Try.prog 19 [] (sub Agg [1, 0, 1, 0]) (Aaa Ad8 (Ang N N)) := (A6m N).frag
theorem A9v (N : Nat) : Abe Go.Proofs.Try.prog 124 (Av6 N) :=
  ⟨Aa5 (fn := Go.Proofs.Try.f124) (c := Agg) (dom := (Aat [5])) (rs := [.tmp 4]) mixed htt (Aad (Aal (Awi N))) (Aag rfl) Go.Proofs.Try.func124 rfl rfl (by kernel_rfl) (Aah (l := [(5, sub Agg [1, 0, 1, 0])]) (by kernel_rfl) ⟨⟨_, rfl, A6n N⟩, trivial⟩) (by decide) (by decide) (by decide) (fun R x C => Bb4 @Afk @Aa9 N R x C), Go.Proofs.Try.f124, Go.Proofs.Try.func124, rfl, by decide⟩
theorem A6o (N : Nat) : Aco Go.Proofs.Try.prog (A6k N) := ⟨A9v N, trivial⟩
theorem A6b (N : Nat) : Abe Go.Proofs.Try.prog 120 (As0 N) :=
  ⟨Aa5 (fn := Go.Proofs.Try.f120) (c := Asz) (dom := (Aat [])) (rs := [.tmp 4]) mixed htt (Aad (Aal (A6o N))) (Aag rfl) Go.Proofs.Try.func120 rfl rfl (by kernel_rfl) (Aah (l := []) (by kernel_rfl) trivial) (by decide) (by decide) (by decide) (fun R x C => A6l @Adj N R x C), Go.Proofs.Try.f120, Go.Proofs.Try.func120, rfl, by decide⟩
theorem Bb5 (N : Nat) : Aco Go.Proofs.Try.prog (B3f N) := ⟨Bp4 N, A6b N, A8r N, trivial⟩
theorem Brz (N : Nat) : Acz Go.Proofs.Try.prog 78 [] (sub Ah9 [1, 1, 1, 0, 1, 0, 0]) (Aaa Ah3 (A2y N N)) :=
  Ab0 (c := sub Ah9 [1, 1, 1, 0, 1, 0, 0]) (dom := (Aat [5, 27])) mixed htt (Aad (Aal (Bb5 N))) (Aag rfl) (by kernel_rfl) (Aah (l := []) (by kernel_rfl) trivial) Bed (B := (fun _ _ _ => none)) (Acz.none _ _ _ _) (fun _ _ _ => rfl) (fun R k x K => Bun @Ac5 @Aa2 @Aa6 @Ad4 @Adb N R (fun a0 a1 a2 a3 a4 a5 a6 a7 a8 a9 => Adb N k a0 a1 a2 a3 a4 a5 a6 a7 a8 a9 (fun y0 => K .ret (Aab Arv ((y0, ()), (())))) (K (.exit 2) (Aab Arw ((()), (()))))) x K) N
theorem Br0 (N : Nat) : Aax Go.Proofs.Try.prog 78 [] (sub Ah9 [1, 1, 1, 0, 1, 0]) (Aaa Ah3 (A2y N N)) := (Brz N).frag
theorem Bu4 (N : Nat) : Acz Go.Proofs.Try.prog 78 [] (sub Ah9 [1, 0, 1, 0, 0]) (Aaa Aik (A4w N N)) :=
  Ab0 (c := sub Ah9 [1, 0, 1, 0, 0]) (dom := (Aat [5, 27])) mixed htt (Aad (Aal (Bb5 N))) (Aag rfl) (by kernel_rfl) (Aah (l := []) (by kernel_rfl) trivial) Bgu (B := (fun _ _ _ => none)) (Acz.none _ _ _ _) (fun _ _ _ => rfl) (fun R k x K => Bxf @Ac5 @Aa2 @Aa6 @Ad4 @Adb N R (fun a0 a1 a2 a3 a4 a5 a6 a7 a8 => Ad4 N k a0 a1 a2 a3 a4 a5 a6 a7 a8 (fun y0 => K .ret (Aab As6 ((y0, ()), (())))) (fun y0 y1 y2 y3 y4 y5 => K (.exit 0) (Aab As7 (((), ()), ((y0, y1, y2, y3, y4, y5, ()), ()))))) x K) N
theorem Bu5 (N : Nat) : Aax Go.Proofs.Try.prog 78 [] (sub Ah9 [1, 0, 1, 0]) (Aaa Aik (A4w N N)) := (Bu4 N).frag
theorem B0y (N : Nat) : Abe Go.Proofs.Try.prog 109 (Bmj N) :=
  ⟨Aa5 (fn := Go.Proofs.Try.f109) (c := Ah9) (dom := (Aat [5, 27])) (rs := [.tmp 2]) mixed htt (Aad (Aal (Bb5 N))) (Aag rfl) Go.Proofs.Try.func109 rfl rfl (by kernel_rfl) (Aah (l := [(5, sub Ah9 [1, 0, 1, 0]), (27, sub Ah9 [1, 1, 1, 0, 1, 0])]) (by kernel_rfl) ⟨⟨_, rfl, Bu5 N⟩, ⟨_, rfl, Br0 N⟩, trivial⟩) (by decide) (by decide) (by decide) (fun R x C => B4r @Ac5 @Aa2 @Aa6 @Ad4 @Adb N R x C), Go.Proofs.Try.f109, Go.Proofs.Try.func109, rfl, by decide⟩
theorem Bne (N : Nat) : Aco Go.Proofs.Try.prog (B3h N) := trivial
theorem Br1 (N : Nat) : Aax Go.Proofs.Try.prog 17 [] (sub Av8 [1, 0, 1, 0, 1]) (Aaa Alk (Beg N)) :=
  Afq (dom := (Aat [14])) mixed htt (Aad (Aal (Bne N))) (Aag rfl) (by kernel_rfl) (Aah (l := []) (by kernel_rfl) trivial) Bef (fun R x K => Buf @Ad9 N R x K)
theorem A0k (N : Nat) : Abe Go.Proofs.Try.prog 54 (Av9 N) :=
  ⟨Aa5 (fn := Go.Proofs.Try.f54) (c := Av8) (dom := (Aat [14])) (rs := [.tmp 2]) mixed htt (Aad (Aal (Bne N))) (Aag rfl) Go.Proofs.Try.func54 rfl rfl (by kernel_rfl) (Aah (l := [(14, sub Av8 [1, 0, 1, 0, 1])]) (by kernel_rfl) ⟨⟨_, rfl, Br1 N⟩, trivial⟩) (by decide) (by decide) (by decide) (fun R x C => B4z @Ad9 N R x C), Go.Proofs.Try.f54, Go.Proofs.Try.func54, rfl, by decide⟩
theorem A2b (N : Nat) : Aco Go.Proofs.Try.prog (B3j N) := ⟨Bp4 N, Bkl N, Buz N, Bhp N, B0x N, B0y N, A0k N, trivial⟩
theorem Br2 (N : Nat) : Aax Go.Proofs.Try.prog 111 [] (sub Age [1, 1, 1, 1, 1, 1, 1, 0, 1, 0, 0, 1, 1, 0, 0, 1, 1]) (Aaa Aiq (Bei N)) :=
  Afq (dom := (Aat [13, 40, 33])) mixed htt (Aad (Aal (A2b N))) (Aag rfl) (by kernel_rfl) (Aah (l := []) (by kernel_rfl) trivial) Beh (fun R x K => Bub @Ac5 @Acr @Ads @Ab1 @Aeo @Aep @Aav @Ac4 @Adc @Acy N R x K)
theorem Br3 (N : Nat) : Acz Go.Proofs.Try.prog 111 [] (sub Age [1, 1, 1, 1, 1, 1, 1, 0, 1, 0, 0]) (Aaa Ag6 (A23 N N)) :=
  Ab0 (c := sub Age [1, 1, 1, 1, 1, 1, 1, 0, 1, 0, 0]) (dom := (Aat [13, 40, 33])) mixed htt (Aad (Aal (A2b N))) (Aag rfl) (by kernel_rfl) (Aah (l := [(40, sub Age [1, 1, 1, 1, 1, 1, 1, 0, 1, 0, 0, 1, 1, 0, 0, 1, 1])]) (by kernel_rfl) ⟨⟨_, rfl, Br2 N⟩, trivial⟩) Bej (B := (fun _ _ _ => none)) (Acz.none _ _ _ _) (fun _ _ _ => rfl) (fun R k x K => Bua @Ac5 @Acr @Ads @Ab1 @Aeo @Aep @Aav @Ac4 @Adc @Acy N R (fun a0 a1 a2 a3 a4 a5 => Acy N k a0 a1 a2 a3 a4 a5 (fun y0 => K .ret (Aab Arx ((y0, ()), (())))) (K (.exit 2) (Aab Ary ((()), (()))))) x K) N
theorem Br4 (N : Nat) : Aax Go.Proofs.Try.prog 111 [] (sub Age [1, 1, 1, 1, 1, 1, 1, 0, 1, 0]) (Aaa Ag6 (A23 N N)) := (Br3 N).frag
theorem Br5 (N : Nat) : Acz Go.Proofs.Try.prog 111 [] (sub Age [1, 1, 1, 0, 1, 0, 0]) (Aaa Ag4 (A2p N N)) :=
  Ab0 (c := sub Age [1, 1, 1, 0, 1, 0, 0]) (dom := (Aat [13, 40, 33])) mixed htt (Aad (Aal (A2b N))) (Aag rfl) (by kernel_rfl) (Aah (l := []) (by kernel_rfl) trivial) Bd2 (B := (fun _ _ _ => none)) (Acz.none _ _ _ _) (fun _ _ _ => rfl) (fun R k x K => Buh @Ac5 @Acr @Ads @Ab1 @Aeo @Aep @Aav @Ac4 @Adc @Acy N R (fun a0 a1 a2 a3 a4 a5 a6 a7 a8 a9 => Ac4 N k a0 a1 a2 a3 a4 a5 a6 a7 a8 a9 (fun y0 => K .ret (Aab Arm ((y0, ()), (())))) (fun y0 y1 y2 y3 y4 y5 => K (.exit 0) (Aab Arn (((), ()), ((y0, y1, y2, y3, y4, y5, ()), ()))))) x K) N
theorem Br6 (N : Nat) : Aax Go.Proofs.Try.prog 111 [] (sub Age [1, 1, 1, 0, 1, 0]) (Aaa Ag4 (A2p N N)) := (Br5 N).frag
theorem B0z (N : Nat) : Abe Go.Proofs.Try.prog 88 (Bml N) :=
  ⟨Aa5 (fn := Go.Proofs.Try.f88) (c := Age) (dom := (Aat [13, 40, 33])) (rs := [.tmp 2]) mixed htt (Aad (Aal (A2b N))) (Aag rfl) Go.Proofs.Try.func88 rfl rfl (by kernel_rfl) (Aah (l := [(13, sub Age [1, 1, 1, 0, 1, 0]), (33, sub Age [1, 1, 1, 1, 1, 1, 1, 0, 1, 0])]) (by kernel_rfl) ⟨⟨_, rfl, Br6 N⟩, ⟨_, rfl, Br4 N⟩, trivial⟩) (by decide) (by decide) (by decide) (fun R x C => B4d @Ac5 @Acr @Ads @Ab1 @Aeo @Aep @Aav @Ac4 @Adc @Acy N R x C), Go.Proofs.Try.f88, Go.Proofs.Try.func88, rfl, by decide⟩
theorem Bfx (N : Nat) : Aco Go.Proofs.Try.prog (B6z N) := ⟨A8r N, trivial⟩
theorem Bx1 (N : Nat) : Aax Go.Proofs.Try.prog 55 [] (sub Aob [1, 0, 1, 0, 1]) (Aaa Alx (Bjc N)) :=
  Afq (dom := (Aat [8, 30])) mixed htt (Aad (Aal (Bfx N))) (Aag rfl) (by kernel_rfl) (Aah (l := []) (by kernel_rfl) trivial) Bjb (fun R x K => B0e @Aa6 @Afh @Aet N R x K)
theorem Bu6 (N : Nat) : Aax Go.Proofs.Try.prog 55 [] (sub Aob [1, 1]) (Aaa Alc (Bgx N)) :=
  Afq (dom := (Aat [8, 30])) mixed htt (Aad (Aal (Bfx N))) (Aag rfl) (by kernel_rfl) (Aah (l := []) (by kernel_rfl) trivial) Bgw (fun R x K => Bxu @Aa6 @Afh @Aet N R x K)
theorem B47 (N : Nat) : Abe Go.Proofs.Try.prog 110 (Bo4 N) :=
  ⟨Aa5 (fn := Go.Proofs.Try.f110) (c := Aob) (dom := (Aat [8, 30])) (rs := [.tmp 8]) mixed htt (Aad (Aal (Bfx N))) (Aag rfl) Go.Proofs.Try.func110 rfl rfl (by kernel_rfl) (Aah (l := [(8, sub Aob [1, 0, 1, 0, 1]), (30, sub Aob [1, 1])]) (by kernel_rfl) ⟨⟨_, rfl, Bx1 N⟩, ⟨_, rfl, Bu6 N⟩, trivial⟩) (by decide) (by decide) (by decide) (fun R x C => B7d @Aa6 @Afh @Aet N R x C), Go.Proofs.Try.f110, Go.Proofs.Try.func110, rfl, by decide⟩
theorem Bb6 (N : Nat) : Aco Go.Proofs.Try.prog (B3l N) := trivial
theorem Br7 (N : Nat) : Aax Go.Proofs.Try.prog 32 [] (sub Amx [1, 0, 1, 0, 1]) (Aaa Aj6 (Bep N)) :=
  Afq (dom := (Aat [16, 18])) mixed htt (Aad (Aal (Bb6 N))) (Aag rfl) (by kernel_rfl) (Aah (l := []) (by kernel_rfl) trivial) Beo (fun R x K => Buy @Aea @Aem N R x K)
theorem Br8 (N : Nat) : Aax Go.Proofs.Try.prog 32 [] (sub Amx [1, 1]) (Aaa Aj7 (Ber N)) :=
  Afq (dom := (Aat [16, 18])) mixed htt (Aad (Aal (Bb6 N))) (Aag rfl) (by kernel_rfl) (Aah (l := []) (by kernel_rfl) trivial) Beq (fun R x K => Bux @Aea @Aem N R x K)
theorem B00 (N : Nat) : Abe Go.Proofs.Try.prog 111 (Bmm N) :=
  ⟨Aa5 (fn := Go.Proofs.Try.f111) (c := Amx) (dom := (Aat [16, 18])) (rs := [.tmp 6]) mixed htt (Aad (Aal (Bb6 N))) (Aag rfl) Go.Proofs.Try.func111 rfl rfl (by kernel_rfl) (Aah (l := [(16, sub Amx [1, 0, 1, 0, 1]), (18, sub Amx [1, 1])]) (by kernel_rfl) ⟨⟨_, rfl, Br7 N⟩, ⟨_, rfl, Br8 N⟩, trivial⟩) (by decide) (by decide) (by decide) (fun R x C => B4t @Aea @Aem N R x C), Go.Proofs.Try.f111, Go.Proofs.Try.func111, rfl, by decide⟩
theorem Bnf (N : Nat) : Aco Go.Proofs.Try.prog (B3n N) := trivial
theorem Bu7 (N : Nat) : Acz Go.Proofs.Try.prog 14 [] (sub Ao0 [1, 0, 0, 0]) (Aaa Ajs (A40 N N)) :=
  Ab0 (c := sub Ao0 [1, 0, 0, 0]) (dom := (Aat [3])) mixed htt (Aad (Aal (Bnf N))) (Aag rfl) (by kernel_rfl) (Aah (l := []) (by kernel_rfl) trivial) Bgy (B := (fun _ _ _ => none)) (Acz.none _ _ _ _) (fun _ _ _ => rfl) (fun R k x K => Bxj @Ae6 N R (fun a0 a1 => Ae6 N k a0 a1 (fun y0 => K (.exit 0) (Aab As8 ((y0, ()), (()))))) x K) N
theorem Bu8 (N : Nat) : Aax Go.Proofs.Try.prog 14 [] (sub Ao0 [1, 0, 0]) (Aaa Ajs (A40 N N)) := (Bu7 N).frag
theorem B01 (N : Nat) : Abe Go.Proofs.Try.prog 112 (Bmn N) :=
  ⟨Aa5 (fn := Go.Proofs.Try.f112) (c := Ao0) (dom := (Aat [3])) (rs := [.tmp 4]) mixed htt (Aad (Aal (Bnf N))) (Aag rfl) Go.Proofs.Try.func112 rfl rfl (by kernel_rfl) (Aah (l := [(3, sub Ao0 [1, 0, 0])]) (by kernel_rfl) ⟨⟨_, rfl, Bu8 N⟩, trivial⟩) (by decide) (by decide) (by decide) (fun R x C => B41 @Ae6 N R x C), Go.Proofs.Try.f112, Go.Proofs.Try.func112, rfl, by decide⟩
theorem Bhq (N : Nat) : Aco Go.Proofs.Try.prog (Bw4 N) := ⟨Bkl N, Bhp N, B47 N, B00 N, A0k N, B01 N, Bnd N, trivial⟩
theorem Bnt (N : Nat) : Acz Go.Proofs.Try.prog 114 [] (sub Amg [1, 1, 1, 1, 0, 1, 0, 0]) (Aaa Ahq (Ayu N N)) :=
  Ab0 (c := sub Amg [1, 1, 1, 1, 0, 1, 0, 0]) (dom := (Aat [11])) mixed htt (Aad (Aal (Bhq N))) (Aag rfl) (by kernel_rfl) (Aah (l := []) (by kernel_rfl) trivial) A88 (B := (fun _ _ _ => none)) (Acz.none _ _ _ _) (fun _ _ _ => rfl) (fun R k x K => Bpr @Acr @Ab1 @Af6 @Afp @Aav @Adu @Abz @Adg N R (fun a0 a1 a2 a3 a4 a5 a6 a7 a8 a9 a10 a11 => Adg N k a0 a1 a2 a3 a4 a5 a6 a7 a8 a9 a10 a11 (fun y0 => K .ret (Aab Apa ((y0, ()), (())))) (K (.exit 0) (Aab Apb ((()), (()))))) x K) N
theorem Bnu (N : Nat) : Aax Go.Proofs.Try.prog 114 [] (sub Amg [1, 1, 1, 1, 0, 1, 0]) (Aaa Ahq (Ayu N N)) := (Bnt N).frag
theorem Bu9 (N : Nat) : Abe Go.Proofs.Try.prog 89 (Bg1 N) :=
  ⟨Aa5 (fn := Go.Proofs.Try.f89) (c := Amg) (dom := (Aat [11])) (rs := [.tmp 2]) mixed htt (Aad (Aal (Bhq N))) (Aag rfl) Go.Proofs.Try.func89 rfl rfl (by kernel_rfl) (Aah (l := [(11, sub Amg [1, 1, 1, 1, 0, 1, 0])]) (by kernel_rfl) ⟨⟨_, rfl, Bnu N⟩, trivial⟩) (by decide) (by decide) (by decide) (fun R x C => Bxh @Acr @Ab1 @Af6 @Afp @Aav @Adu @Abz @Adg N R x C), Go.Proofs.Try.f89, Go.Proofs.Try.func89, rfl, by decide⟩
theorem B48 (N : Nat) : Aco Go.Proofs.Try.prog (B3p N) := ⟨B0t N, B0z N, Bu9 N, trivial⟩
theorem B02 (N : Nat) : Abe Go.Proofs.Try.prog 67 (Bmp N) :=
  ⟨Aa5 (fn := Go.Proofs.Try.f67) (c := Bmb) (dom := (Aat [])) (rs := [.tmp 2]) mixed htt (Aad (Aal (B48 N))) (Aag rfl) Go.Proofs.Try.func67 rfl rfl (by kernel_rfl) (Aah (l := []) (by kernel_rfl) trivial) (by decide) (by decide) (by decide) (fun R x C => B4j @Ai7 @Ai8 @Ahi N R x C), Go.Proofs.Try.f67, Go.Proofs.Try.func67, rfl, by decide⟩
theorem Bp6 (N : Nat) : Aco Go.Proofs.Try.prog (B61 N) := trivial
theorem Bx2 (N : Nat) : Acz Go.Proofs.Try.prog 23 [] (sub Ap8 [1, 1, 0, 1, 0, 0]) (Aaa Akt (A69 N N)) :=
  Ab0 (c := sub Ap8 [1, 1, 0, 1, 0, 0]) (dom := (Aat [7])) mixed htt (Aad (Aal (Bp6 N))) (Aag rfl) (by kernel_rfl) (Aah (l := []) (by kernel_rfl) trivial) Bjd (B := (fun _ _ _ => none)) (Acz.none _ _ _ _) (fun _ _ _ => rfl) (fun R k x K => B0f @Aft N R (fun a0 a1 a2 a3 => Aft N k a0 a1 a2 a3 (fun y0 => K (.exit 0) (Aab Auz (((), ()), (y0, ()))))) x K) N
theorem Bx3 (N : Nat) : Aax Go.Proofs.Try.prog 23 [] (sub Ap8 [1, 1, 0, 1, 0]) (Aaa Akt (A69 N N)) := (Bx2 N).frag
theorem B49 (N : Nat) : Abe Go.Proofs.Try.prog 90 (Bo5 N) :=
  ⟨Aa5 (fn := Go.Proofs.Try.f90) (c := Ap8) (dom := (Aat [7])) (rs := [.tmp 2]) mixed htt (Aad (Aal (Bp6 N))) (Aag rfl) Go.Proofs.Try.func90 rfl rfl (by kernel_rfl) (Aah (l := [(7, sub Ap8 [1, 1, 0, 1, 0])]) (by kernel_rfl) ⟨⟨_, rfl, Bx3 N⟩, trivial⟩) (by decide) (by decide) (by decide) (fun R x C => B7f @Aft N R x C), Go.Proofs.Try.f90, Go.Proofs.Try.func90, rfl, by decide⟩
theorem B7r (N : Nat) : Aco Go.Proofs.Try.prog (Bo7 N) := trivial
theorem Bb7 (N : Nat) : Abe Go.Proofs.Try.prog 60 (A44 N) :=
  ⟨Aa5 (fn := Go.Proofs.Try.f60) (c := Bo6) (dom := (Aat [])) (rs := [.tmp 2]) mixed htt (Aad (Aal (B7r N))) (Aag rfl) Go.Proofs.Try.func60 rfl rfl (by kernel_rfl) (Aah (l := []) (by kernel_rfl) trivial) (by decide) (by decide) (by decide) (fun R x C => B7h N R x C), Go.Proofs.Try.f60, Go.Proofs.Try.func60, rfl, by decide⟩
theorem Bng (N : Nat) : Aco Go.Proofs.Try.prog (B3r N) := ⟨Bb7 N, A19 N, trivial⟩
theorem Bva (N : Nat) : Acz Go.Proofs.Try.prog 43 [] (sub Ao1 [1, 1, 0, 1, 0, 0]) (Aaa Ajt (A48 N N)) :=
  Ab0 (c := sub Ao1 [1, 1, 0, 1, 0, 0]) (dom := (Aat [7])) mixed htt (Aad (Aal (Bng N))) (Aag rfl) (by kernel_rfl) (Aah (l := []) (by kernel_rfl) trivial) Bg2 (B := (fun _ _ _ => none)) (Acz.none _ _ _ _) (fun _ _ _ => rfl) (fun R k x K => Bxi @Acp @Abg @Ae7 N R (fun a0 a1 a2 a3 a4 a5 a6 a7 a8 a9 => Ae7 N k a0 a1 a2 a3 a4 a5 a6 a7 a8 a9 (fun y0 y1 y2 y3 y4 y5 => K (.exit 0) (Aab Ata (((), (), ()), (((), (), y0, ()), ((), y1, y2, ()), y3, y4, y5, ()))))) x K) N
theorem Bvb (N : Nat) : Aax Go.Proofs.Try.prog 43 [] (sub Ao1 [1, 1, 0, 1, 0]) (Aaa Ajt (A48 N N)) := (Bva N).frag
theorem B03 (N : Nat) : Abe Go.Proofs.Try.prog 114 (Bms N) :=
  ⟨Aa5 (fn := Go.Proofs.Try.f114) (c := Ao1) (dom := (Aat [7])) (rs := [.cell 4 63]) mixed htt (Aad (Aal (Bng N))) (Aag rfl) Go.Proofs.Try.func114 rfl rfl (by kernel_rfl) (Aah (l := [(7, sub Ao1 [1, 1, 0, 1, 0])]) (by kernel_rfl) ⟨⟨_, rfl, Bvb N⟩, trivial⟩) (by decide) (by decide) (by decide) (fun R x C => B4k @Acp @Abg @Ae7 N R x C), Go.Proofs.Try.f114, Go.Proofs.Try.func114, rfl, by decide⟩
theorem Br9 (N : Nat) : Aco Go.Proofs.Try.prog (Brg N) := ⟨Bb7 N, A19 N, trivial⟩
theorem A9w (N : Nat) : Abe Go.Proofs.Try.prog 92 (A00 N) :=
  ⟨Aa5 (fn := Go.Proofs.Try.f92) (c := Bcg) (dom := (Aat [])) (rs := [.tmp 6]) mixed htt (Aad (Aal (Br9 N))) (Aag rfl) Go.Proofs.Try.func92 rfl rfl (by kernel_rfl) (Aah (l := []) (by kernel_rfl) trivial) (by decide) (by decide) (by decide) (fun R x C => Brr @Acp @Abg N R x C), Go.Proofs.Try.f92, Go.Proofs.Try.func92, rfl, by decide⟩
theorem A8s (N : Nat) : Aco Go.Proofs.Try.prog (B8i N) := ⟨A0k N, Bna N, B03 N, A9w N, trivial⟩
theorem Bx4 (N : Nat) : Acz Go.Proofs.Try.prog 89 [] (sub Agt [1, 1, 1, 0, 0, 0, 1, 1, 1, 0, 1, 0, 0]) (Aaa Aid (A7c N N)) :=
  Ab0 (c := sub Agt [1, 1, 1, 0, 0, 0, 1, 1, 1, 0, 1, 0, 0]) (dom := (Aat [7, 25, 17])) mixed htt (Aad (Aal (A8s N))) (Aag rfl) (by kernel_rfl) (Aah (l := []) (by kernel_rfl) trivial) Bjf (B := (fun _ _ _ => none)) (Acz.none _ _ _ _) (fun _ _ _ => rfl) (fun R k x K => B0k @Aav @Acf @Aew @Aay @Aeq @Ad0 @Adk N R (fun a0 a1 a2 a3 a4 a5 a6 a7 a8 a9 a10 a11 a12 a13 => Ad0 N k a0 a1 a2 a3 a4 a5 a6 a7 a8 a9 a10 a11 a12 a13 (fun y0 y1 y2 y3 y4 y5 y6 y7 y8 y9 => K (.exit 4) (Aab Au0 ((y0, (), (), (), y1, (), ()), (y2, ((), (), y3, ()), ((), y4, y5, ()), y6, y7, y8, y9, ()))))) x K) N
theorem Bx5 (N : Nat) : Aax Go.Proofs.Try.prog 89 [] (sub Agt [1, 1, 1, 0, 0, 0, 1, 1, 1, 0, 1, 0]) (Aaa Aid (A7c N N)) := (Bx4 N).frag
theorem B04 (N : Nat) : Acz Go.Proofs.Try.prog 89 [] (sub Agt [1, 1, 0, 1, 0, 0]) (Aaa Ai0 (Ba1 N N)) :=
  Ab0 (c := sub Agt [1, 1, 0, 1, 0, 0]) (dom := (Aat [7, 25, 17])) mixed htt (Aad (Aal (A8s N))) (Aag rfl) (by kernel_rfl) (Aah (l := []) (by kernel_rfl) trivial) Bmq (B := (fun _ _ _ => none)) (Acz.none _ _ _ _) (fun _ _ _ => rfl) (fun R k x K => B4c @Aav @Acf @Aew @Aay @Aeq @Ad0 @Adk N R (fun a0 a1 a2 a3 a4 a5 a6 a7 a8 => Aeq N k a0 a1 a2 a3 a4 a5 a6 a7 a8 (fun y0 y1 y2 y3 y4 y5 => K (.exit 0) (Aab Axk ((y0, (), (), (), ()), (y1, ((), (), y2, ()), y3, y4, y5, ()))))) x K) N
theorem B05 (N : Nat) : Aax Go.Proofs.Try.prog 89 [] (sub Agt [1, 1, 0, 1, 0]) (Aaa Ai0 (Ba1 N N)) := (B04 N).frag
theorem Bx6 (N : Nat) : Acz Go.Proofs.Try.prog 89 [] (sub Agt [1, 1, 1, 0, 0]) (Aaa Aie (A7f N N)) :=
  Ab0 (c := sub Agt [1, 1, 1, 0, 0]) (dom := (Aat [7, 25, 17])) mixed htt (Aad (Aal (A8s N))) (Aag rfl) (by kernel_rfl) (Aah (l := [(25, sub Agt [1, 1, 1, 0, 0, 0, 1, 1, 1, 0, 1, 0])]) (by kernel_rfl) ⟨⟨_, rfl, Bx5 N⟩, trivial⟩) Bjh (B := (fun _ _ _ => none)) (Acz.none _ _ _ _) (fun _ _ _ => rfl) (fun R k x K => B0d @Aav @Acf @Aew @Aay @Aeq @Ad0 @Adk N R (fun a0 a1 a2 a3 a4 a5 => Adk N k a0 a1 a2 a3 a4 a5 (fun y0 y1 y2 y3 => K .ret (Aab Au1 (((), ()), (y0, ((), y1, y2, ()), y3, ()))))) x K) N
theorem Bx7 (N : Nat) : Aax Go.Proofs.Try.prog 89 [] (sub Agt [1, 1, 1, 0]) (Aaa Aie (A7f N N)) := (Bx6 N).frag
theorem B7s (N : Nat) : Abe Go.Proofs.Try.prog 91 (Bs3 N) :=
  ⟨Aa5 (fn := Go.Proofs.Try.f91) (c := Agt) (dom := (Aat [7, 25, 17])) (rs := [.cell 4 63]) mixed htt (Aad (Aal (A8s N))) (Aag rfl) Go.Proofs.Try.func91 rfl rfl (by kernel_rfl) (Aah (l := [(7, sub Agt [1, 1, 0, 1, 0]), (17, sub Agt [1, 1, 1, 0])]) (by kernel_rfl) ⟨⟨_, rfl, B05 N⟩, ⟨_, rfl, Bx7 N⟩, trivial⟩) (by decide) (by decide) (by decide) (fun R x C => B8y @Aav @Acf @Aew @Aay @Aeq @Ad0 @Adk N R x C), Go.Proofs.Try.f91, Go.Proofs.Try.func91, rfl, by decide⟩
theorem Bp7 (N : Nat) : Aco Go.Proofs.Try.prog (A9a N) := trivial
theorem Aqz (N : Nat) : Abe Go.Proofs.Try.prog 46 (Aod N) :=
  ⟨Aa5 (fn := Go.Proofs.Try.f46) (c := A89) (dom := (Aat [])) (rs := [.tmp 4]) mixed htt (Aad (Aal (Bp7 N))) (Aag rfl) Go.Proofs.Try.func46 rfl rfl (by kernel_rfl) (Aah (l := []) (by kernel_rfl) trivial) (by decide) (by decide) (by decide) (fun R x C => Bpz N R x C), Go.Proofs.Try.f46, Go.Proofs.Try.func46, rfl, by decide⟩
theorem Bcr (N : Nat) : Aco Go.Proofs.Try.prog (Bri N) := ⟨Aqz N, trivial⟩
theorem Blu (N : Nat) : Acz Go.Proofs.Try.prog 21 (List.replicate 32 true) (sub Ak5 [1, 0, 1, 0, 0]) (Aaa Aha (Awx N N)) :=
  Ab0 (c := sub Ak5 [1, 0, 1, 0, 0]) (dom := (Aat [5])) mixed htt (Aad (Aal (Bcr N))) (Aag rfl) (by kernel_rfl) (Aah (l := []) (by kernel_rfl) trivial) A6r (B := (fun _ _ _ => none)) (Acz.none _ _ _ _) (fun _ _ _ => rfl) (fun R k x K => Bnr @Aaf @Ada N R (fun a0 a1 a2 => Ada N k a0 a1 a2 (fun y0 => K (.exit 0) (Aab Aol (((), ()), (((), ()), y0, ()))))) x K) N
theorem Blv (N : Nat) : Aax Go.Proofs.Try.prog 21 (List.replicate 32 true) (sub Ak5 [1, 0, 1, 0]) (Aaa Aha (Awx N N)) := (Blu N).frag
theorem A9x (N : Nat) : Abe Go.Proofs.Try.prog 48 (A03 N) :=
  ⟨Aa5 (fn := Go.Proofs.Try.f48) (c := Ak5) (dom := (Aat [5])) (rs := [.tmp 6]) mixed htt (Aad (Aal (Bcr N))) (Aag rfl) Go.Proofs.Try.func48 rfl rfl (by kernel_rfl) (Aah (l := [(5, sub Ak5 [1, 0, 1, 0])]) (by kernel_rfl) ⟨⟨_, rfl, Blv N⟩, trivial⟩) (by decide) (by decide) (by decide) (fun R x C => Brm @Aaf @Ada N R x C), Go.Proofs.Try.f48, Go.Proofs.Try.func48, rfl, by decide⟩
theorem Bix (N : Nat) : Aco Go.Proofs.Try.prog (B8k N) := ⟨B49 N, B7s N, A9w N, Aqz N, Bb7 N, A9x N, A19 N, A0k N, trivial⟩
theorem Bx8 (N : Nat) : Aax Go.Proofs.Try.prog 94 [] (sub Al9 [1, 1, 1, 1, 0, 1, 0, 0, 1, 1, 0, 0, 1, 1, 1, 1]) (Aaa Aly (Bjk N)) :=
  Afq (dom := (Aat [26, 11])) mixed htt (Aad (Aal (Bix N))) (Aag rfl) (by kernel_rfl) (Aah (l := []) (by kernel_rfl) trivial) Bjj (fun R x K => Bz8 @Agr @Ahr @Aay @Aaf @Acp @Aam @Abg @Aav @Aee @Aey N R x K)
theorem Bx9 (N : Nat) : Acz Go.Proofs.Try.prog 94 [] (sub Al9 [1, 1, 1, 1, 0, 1, 0, 0]) (Aaa Aja (A7j N N)) :=
  Ab0 (c := sub Al9 [1, 1, 1, 1, 0, 1, 0, 0]) (dom := (Aat [26, 11])) mixed htt (Aad (Aal (Bix N))) (Aag rfl) (by kernel_rfl) (Aah (l := [(26, sub Al9 [1, 1, 1, 1, 0, 1, 0, 0, 1, 1, 0, 0, 1, 1, 1, 1])]) (by kernel_rfl) ⟨⟨_, rfl, Bx8 N⟩, trivial⟩) Bjl (B := (fun _ _ _ => none)) (Acz.none _ _ _ _) (fun _ _ _ => rfl) (fun R k x K => Bz7 @Agr @Ahr @Aay @Aaf @Acp @Aam @Abg @Aav @Aee @Aey N R (fun a0 a1 a2 a3 a4 a5 a6 a7 a8 a9 a10 a11 => Aey N k a0 a1 a2 a3 a4 a5 a6 a7 a8 a9 a10 a11 (fun y0 y1 y2 y3 y4 y5 y6 => K (.exit 0) (Aab Au2 (((), (), (), ()), (((), (), y0, ()), ((), y1, y2, ()), ((), ()), y3, y4, y5, y6, ()))))) x K) N
theorem Bya (N : Nat) : Aax Go.Proofs.Try.prog 94 [] (sub Al9 [1, 1, 1, 1, 0, 1, 0]) (Aaa Aja (A7j N N)) := (Bx9 N).frag
theorem B7t (N : Nat) : Abe Go.Proofs.Try.prog 68 (Bs5 N) :=
  ⟨Aa5 (fn := Go.Proofs.Try.f68) (c := Al9) (dom := (Aat [26, 11])) (rs := [.tmp 2, .cell 3 63]) mixed htt (Aad (Aal (Bix N))) (Aag rfl) Go.Proofs.Try.func68 rfl rfl (by kernel_rfl) (Aah (l := [(11, sub Al9 [1, 1, 1, 1, 0, 1, 0])]) (by kernel_rfl) ⟨⟨_, rfl, Bya N⟩, trivial⟩) (by decide) (by decide) (by decide) (fun R x C => B8x @Agr @Ahr @Aay @Aaf @Acp @Aam @Abg @Aav @Aee @Aey N R x C), Go.Proofs.Try.f68, Go.Proofs.Try.func68, rfl, by decide⟩
theorem B7u (N : Nat) : Aco Go.Proofs.Try.prog (B66 N) := ⟨B02 N, B7t N, trivial⟩
theorem B5a (N : Nat) : Abe Go.Proofs.Try.prog 45 (Bpb N) :=
  ⟨Aa5 (fn := Go.Proofs.Try.f45) (c := Bo1) (dom := (Aat [])) (rs := [.tmp 2, .cell 3 63, .tmp 4]) mixed htt (Aad (Aal (B7u N))) (Aag rfl) Go.Proofs.Try.func45 rfl rfl (by kernel_rfl) (Aah (l := []) (by kernel_rfl) trivial) (by decide) (by decide) (by decide) (fun R x C => B7c @Ai9 @Alz N R x C), Go.Proofs.Try.f45, Go.Proofs.Try.func45, rfl, by decide⟩
theorem Bp8 (N : Nat) : Aco Go.Proofs.Try.prog (Bpd N) := ⟨Aqz N, trivial⟩
theorem Bnv (N : Nat) : Abe Go.Proofs.Try.prog 47 (A9c N) :=
  ⟨Aa5 (fn := Go.Proofs.Try.f47) (c := A9b) (dom := (Aat [])) (rs := [.tmp 4]) mixed htt (Aad (Aal (Bp8 N))) (Aag rfl) Go.Proofs.Try.func47 rfl rfl (by kernel_rfl) (Aah (l := []) (by kernel_rfl) trivial) (by decide) (by decide) (by decide) (fun R x C => Bpy @Aaf N R x C), Go.Proofs.Try.f47, Go.Proofs.Try.func47, rfl, by decide⟩
theorem Byb (N : Nat) : Aco Go.Proofs.Try.prog (Can N) := trivial
theorem B5b (N : Nat) : Acz Go.Proofs.Try.prog 23 [] (sub Au6 [1, 1, 0, 1, 0, 0]) (Aaa Amh (Be0 N N)) :=
  Ab0 (c := sub Au6 [1, 1, 0, 1, 0, 0]) (dom := (Aat [7])) mixed htt (Aad (Aal (Byb N))) (Aag rfl) (by kernel_rfl) (Aah (l := []) (by kernel_rfl) trivial) Bpe (B := (fun _ _ _ => none)) (Acz.none _ _ _ _) (fun _ _ _ => rfl) (fun R k x K => B7e @Aht N R (fun a0 a1 a2 a3 => Aht N k a0 a1 a2 a3 (fun y0 => K (.exit 0) (Aab A0g ((y0, ()), (()))))) x K) N
theorem B5c (N : Nat) : Aax Go.Proofs.Try.prog 23 [] (sub Au6 [1, 1, 0, 1, 0]) (Aaa Amh (Be0 N N)) := (B5b N).frag
theorem B84 (N : Nat) : Abe Go.Proofs.Try.prog 31 (Bw5 N) :=
  ⟨Aa5 (fn := Go.Proofs.Try.f31) (c := Au6) (dom := (Aat [7])) (rs := [.tmp 2]) mixed htt (Aad (Aal (Byb N))) (Aag rfl) Go.Proofs.Try.func31 rfl rfl (by kernel_rfl) (Aah (l := [(7, sub Au6 [1, 1, 0, 1, 0])]) (by kernel_rfl) ⟨⟨_, rfl, B5c N⟩, trivial⟩) (by decide) (by decide) (by decide) (fun R x C => Cau @Aht N R x C), Go.Proofs.Try.f31, Go.Proofs.Try.func31, rfl, by decide⟩
theorem A8t (N : Nat) : Aco Go.Proofs.Try.prog (B8m N) := ⟨B5a N, Aqz N, Bnv N, A9x N, B84 N, trivial⟩
theorem Byc (N : Nat) : Acz Go.Proofs.Try.prog 111 [] (sub Ags [1, 1, 1, 1, 1, 0, 1, 0, 0, 1, 1, 0, 0, 1, 1, 1, 1, 0, 0]) (Aaa Aif (A7m N N)) :=
  Ab0 (c := sub Ags [1, 1, 1, 1, 1, 0, 1, 0, 0, 1, 1, 0, 0, 1, 1, 1, 1, 0, 0]) (dom := (Aat [27, 15, 41])) mixed htt (Aad (Aal (A8t N))) (Aag rfl) (by kernel_rfl) (Aah (l := []) (by kernel_rfl) trivial) Bjn (B := (fun _ _ _ => none)) (Acz.none _ _ _ _) (fun _ _ _ => rfl) (fun R k x K => B0j @Afe @Aaf @Abn @Aam @Afv @Ad1 @Adl @Adm N R (fun a0 a1 a2 a3 a4 a5 a6 a7 a8 a9 a10 a11 a12 a13 => Ad1 N k a0 a1 a2 a3 a4 a5 a6 a7 a8 a9 a10 a11 a12 a13 (fun y0 y1 y2 y3 y4 y5 y6 y7 y8 y9 y10 => K (.exit 2) (Aab Au3 (((), (), (), y0, y1, y2, ()), ((y3, y4, y5, y6, y7, y8, ()), y9, ((), ()), y10, ()))))) x K) N
theorem Byd (N : Nat) : Aax Go.Proofs.Try.prog 111 [] (sub Ags [1, 1, 1, 1, 1, 0, 1, 0, 0, 1, 1, 0, 0, 1, 1, 1, 1, 0]) (Aaa Aif (A7m N N)) := (Byc N).frag
theorem Bye (N : Nat) : Acz Go.Proofs.Try.prog 111 [] (sub Ags [1, 1, 1, 1, 1, 1, 1, 0, 1, 0, 0]) (Aaa Aih (A7s N N)) :=
  Ab0 (c := sub Ags [1, 1, 1, 1, 1, 1, 1, 0, 1, 0, 0]) (dom := (Aat [27, 15, 41])) mixed htt (Aad (Aal (A8t N))) (Aag rfl) (by kernel_rfl) (Aah (l := []) (by kernel_rfl) trivial) Bjr (B := (fun _ _ _ => none)) (Acz.none _ _ _ _) (fun _ _ _ => rfl) (fun R k x K => B0m @Afe @Aaf @Abn @Aam @Afv @Ad1 @Adl @Adm N R (fun a0 a1 a2 a3 a4 => Adm N k a0 a1 a2 a3 a4 (fun y0 y1 => K (.exit 4) (Aab Au5 (((), (), ()), (y0, ((), ()), y1, ()))))) x K) N
theorem Byf (N : Nat) : Aax Go.Proofs.Try.prog 111 [] (sub Ags [1, 1, 1, 1, 1, 1, 1, 0, 1, 0]) (Aaa Aih (A7s N N)) := (Bye N).frag
theorem Byg (N : Nat) : Acz Go.Proofs.Try.prog 111 [] (sub Ags [1, 1, 1, 1, 1, 0, 1, 0, 0]) (Aaa Aig (A7p N N)) :=
  Ab0 (c := sub Ags [1, 1, 1, 1, 1, 0, 1, 0, 0]) (dom := (Aat [27, 15, 41])) mixed htt (Aad (Aal (A8t N))) (Aag rfl) (by kernel_rfl) (Aah (l := [(27, sub Ags [1, 1, 1, 1, 1, 0, 1, 0, 0, 1, 1, 0, 0, 1, 1, 1, 1, 0])]) (by kernel_rfl) ⟨⟨_, rfl, Byd N⟩, trivial⟩) Bjp (B := (fun _ _ _ => none)) (Acz.none _ _ _ _) (fun _ _ _ => rfl) (fun R k x K => B0b @Afe @Aaf @Abn @Aam @Afv @Ad1 @Adl @Adm N R (fun a0 a1 a2 a3 a4 a5 a6 a7 a8 a9 a10 => Adl N k a0 a1 a2 a3 a4 a5 a6 a7 a8 a9 a10 (fun y0 y1 y2 y3 y4 y5 y6 y7 => K (.exit 0) (Aab Au4 (((), (), (), ()), ((y0, y1, y2, y3, y4, y5, ()), y6, ((), ()), y7, ()))))) x K) N
theorem Byh (N : Nat) : Aax Go.Proofs.Try.prog 111 [] (sub Ags [1, 1, 1, 1, 1, 0, 1, 0]) (Aaa Aig (A7p N N)) := (Byg N).frag
theorem B7v (N : Nat) : Abe Go.Proofs.Try.prog 16 (Bs7 N) :=
  ⟨Aa5 (fn := Go.Proofs.Try.f16) (c := Ags) (dom := (Aat [27, 15, 41])) (rs := [.tmp 2, .tmp 3]) mixed htt (Aad (Aal (A8t N))) (Aag rfl) Go.Proofs.Try.func16 rfl rfl (by kernel_rfl) (Aah (l := [(15, sub Ags [1, 1, 1, 1, 1, 0, 1, 0]), (41, sub Ags [1, 1, 1, 1, 1, 1, 1, 0, 1, 0])]) (by kernel_rfl) ⟨⟨_, rfl, Byh N⟩, ⟨_, rfl, Byf N⟩, trivial⟩) (by decide) (by decide) (by decide) (fun R x C => B82 @Afe @Aaf @Abn @Aam @Afv @Ad1 @Adl @Adm N R x C), Go.Proofs.Try.f16, Go.Proofs.Try.func16, rfl, by decide⟩
theorem Bhr (N : Nat) : Aco Go.Proofs.Try.prog (Bw7 N) := trivial
theorem Bnw (N : Nat) : Acz Go.Proofs.Try.prog 60 [] (sub Ami [1, 1, 1, 0, 1, 0, 0]) (Aaa Ahu (Ay1 N N)) :=
  Ab0 (c := sub Ami [1, 1, 1, 0, 1, 0, 0]) (dom := (Aat [11])) mixed htt (Aad (Aal (Bhr N))) (Aag rfl) (by kernel_rfl) (Aah (l := []) (by kernel_rfl) trivial) A9d (B := (fun _ _ _ => none)) (Acz.none _ _ _ _) (fun _ _ _ => rfl) (fun R k x K => Bpx @Adr N R (fun a0 a1 a2 a3 a4 a5 a6 a7 => Adr N k a0 a1 a2 a3 a4 a5 a6 a7 (fun y0 => K (.exit 0) (Aab Ape ((y0, ()), (()))))) x K) N
theorem Bnx (N : Nat) : Aax Go.Proofs.Try.prog 60 [] (sub Ami [1, 1, 1, 0, 1, 0]) (Aaa Ahu (Ay1 N N)) := (Bnw N).frag
theorem Bvc (N : Nat) : Abe Go.Proofs.Try.prog 81 (Bg4 N) :=
  ⟨Aa5 (fn := Go.Proofs.Try.f81) (c := Ami) (dom := (Aat [11])) (rs := [.tmp 2]) mixed htt (Aad (Aal (Bhr N))) (Aag rfl) Go.Proofs.Try.func81 rfl rfl (by kernel_rfl) (Aah (l := [(11, sub Ami [1, 1, 1, 0, 1, 0])]) (by kernel_rfl) ⟨⟨_, rfl, Bnx N⟩, trivial⟩) (by decide) (by decide) (by decide) (fun R x C => Bxk @Adr N R x C), Go.Proofs.Try.f81, Go.Proofs.Try.func81, rfl, by decide⟩
theorem Bnh (N : Nat) : Aco Go.Proofs.Try.prog (B3t N) := trivial
theorem Bvd (N : Nat) : Acz Go.Proofs.Try.prog 60 [] (sub Ao3 [1, 1, 0, 1, 0, 0]) (Aaa Aju (A5h N N)) :=
  Ab0 (c := sub Ao3 [1, 1, 0, 1, 0, 0]) (dom := (Aat [7])) mixed htt (Aad (Aal (Bnh N))) (Aag rfl) (by kernel_rfl) (Aah (l := []) (by kernel_rfl) trivial) Bg5 (B := (fun _ _ _ => none)) (Acz.none _ _ _ _) (fun _ _ _ => rfl) (fun R k x K => Bxv @Aeu N R (fun a0 a1 a2 => Aeu N k a0 a1 a2 (fun y0 y1 => K .ret (Aab Atc ((y0, y1, ()), (())))) (fun y0 y1 => K (.exit 0) (Aab Atd ((y0, y1, ()), (()))))) x K) N
theorem Bve (N : Nat) : Aax Go.Proofs.Try.prog 60 [] (sub Ao3 [1, 1, 0, 1, 0]) (Aaa Aju (A5h N N)) := (Bvd N).frag
theorem B06 (N : Nat) : Abe Go.Proofs.Try.prog 97 (Bmu N) :=
  ⟨Aa5 (fn := Go.Proofs.Try.f97) (c := Ao3) (dom := (Aat [7])) (rs := [.tmp 2, .tmp 3]) mixed htt (Aad (Aal (Bnh N))) (Aag rfl) Go.Proofs.Try.func97 rfl rfl (by kernel_rfl) (Aah (l := [(7, sub Ao3 [1, 1, 0, 1, 0])]) (by kernel_rfl) ⟨⟨_, rfl, Bve N⟩, trivial⟩) (by decide) (by decide) (by decide) (fun R x C => B40 @Aeu N R x C), Go.Proofs.Try.f97, Go.Proofs.Try.func97, rfl, by decide⟩
theorem Cay (N : Nat) : Aco Go.Proofs.Try.prog (Bw9 N) := trivial
theorem A8u (N : Nat) : Abe Go.Proofs.Try.prog 98 (A5j N) :=
  ⟨Aa5 (fn := Go.Proofs.Try.f98) (c := Bw8) (dom := (Aat [])) (rs := [.tmp 6]) mixed htt (Aad (Aal (Cay N))) (Aag rfl) Go.Proofs.Try.func98 rfl rfl (by kernel_rfl) (Aah (l := []) (by kernel_rfl) trivial) (by decide) (by decide) (by decide) (fun R x C => Cav N R x C), Go.Proofs.Try.f98, Go.Proofs.Try.func98, rfl, by decide⟩
theorem Awj (N : Nat) : Aco Go.Proofs.Try.prog (B3v N) := ⟨B06 N, A8u N, trivial⟩
theorem Bsa (N : Nat) : Acz Go.Proofs.Try.prog 110 [] (sub Adt [1, 1, 0, 1, 0, 0, 1, 0, 0, 1, 1, 1, 0, 0]) (Aaa Agi (A3a N N)) :=
  Ab0 (c := sub Adt [1, 1, 0, 1, 0, 0, 1, 0, 0, 1, 1, 1, 0, 0]) (dom := (Aat [25, 5, 47, 35])) mixed htt (Aad (Aal (Awj N))) (Aag rfl) (by kernel_rfl) (Aah (l := []) (by kernel_rfl) trivial) Be3 (B := (fun _ _ _ => none)) (Acz.none _ _ _ _) (fun _ _ _ => rfl) (fun R k x K => Buj @Acw @Aaq @Ab9 @Acg @Aca @Abu N R (fun a0 a1 a2 a3 a4 a5 a6 a7 a8 a9 => Aca N k a0 a1 a2 a3 a4 a5 a6 a7 a8 a9 (fun y0 => K .ret (Aab Ar6 ((y0, ()), (())))) (fun y0 y1 y2 y3 y4 y5 y6 => K (.exit 6) (Aab Ar7 (((), y0, ()), ((y1, y2, y3, y4, y5, y6, ()), ()))))) x K) N
theorem Bsb (N : Nat) : Aax Go.Proofs.Try.prog 110 [] (sub Adt [1, 1, 0, 1, 0, 0, 1, 0, 0, 1, 1, 1, 0]) (Aaa Agi (A3a N N)) := (Bsa N).frag
theorem Bsc (N : Nat) : Acz Go.Proofs.Try.prog 110 [] (sub Adt [1, 0, 1, 0, 0, 1, 0, 0, 1, 1, 1, 1, 0, 0]) (Aaa Agh (A28 N N)) :=
  Ab0 (c := sub Adt [1, 0, 1, 0, 0, 1, 0, 0, 1, 1, 1, 1, 0, 0]) (dom := (Aat [25, 5, 47, 35])) mixed htt (Aad (Aal (Awj N))) (Aag rfl) (by kernel_rfl) (Aah (l := []) (by kernel_rfl) trivial) Be1 (B := (fun _ _ _ => none)) (Acz.none _ _ _ _) (fun _ _ _ => rfl) (fun R k x K => Bui @Acw @Aaq @Ab9 @Acg @Aca @Abu N R (fun a0 a1 a2 a3 a4 a5 a6 a7 a8 a9 a10 => Ab9 N k a0 a1 a2 a3 a4 a5 a6 a7 a8 a9 a10 (fun y0 => K .ret (Aab Ar4 ((y0, ()), (())))) (fun y0 y1 y2 y3 y4 y5 y6 => K (.exit 2) (Aab Ar5 (((), y0, ()), ((y1, y2, y3, y4, y5, y6, ()), ()))))) x K) N
theorem Bsd (N : Nat) : Aax Go.Proofs.Try.prog 110 [] (sub Adt [1, 0, 1, 0, 0, 1, 0, 0, 1, 1, 1, 1, 0]) (Aaa Agh (A28 N N)) := (Bsc N).frag
theorem Bse (N : Nat) : Acz Go.Proofs.Try.prog 110 [] (sub Adt [1, 1, 0, 1, 0, 0]) (Aaa Agj (A3c N N)) :=
  Ab0 (c := sub Adt [1, 1, 0, 1, 0, 0]) (dom := (Aat [25, 5, 47, 35])) mixed htt (Aad (Aal (Awj N))) (Aag rfl) (by kernel_rfl) (Aah (l := [(47, sub Adt [1, 1, 0, 1, 0, 0, 1, 0, 0, 1, 1, 1, 0])]) (by kernel_rfl) ⟨⟨_, rfl, Bsb N⟩, trivial⟩) Be5 (B := (fun _ _ _ => none)) (Acz.none _ _ _ _) (fun _ _ _ => rfl) (fun R k x K => Bul @Acw @Aaq @Ab9 @Acg @Aca @Abu N R (fun a0 a1 a2 a3 a4 a5 a6 => Abu N k a0 a1 a2 a3 a4 a5 a6 (fun y0 => K .ret (Aab Ar8 ((y0, ()), (())))) (fun y0 y1 y2 y3 y4 y5 => K (.exit 4) (Aab Ar9 (((), ()), ((y0, y1, y2, y3, y4, y5, ()), ()))))) x K) N
theorem Bsf (N : Nat) : Aax Go.Proofs.Try.prog 110 [] (sub Adt [1, 1, 0, 1, 0]) (Aaa Agj (A3c N N)) := (Bse N).frag
theorem Bvf (N : Nat) : Acz Go.Proofs.Try.prog 110 [] (sub Adt [1, 0, 1, 0, 0]) (Aaa Ag1 (A5l N N)) :=
  Ab0 (c := sub Adt [1, 0, 1, 0, 0]) (dom := (Aat [25, 5, 47, 35])) mixed htt (Aad (Aal (Awj N))) (Aag rfl) (by kernel_rfl) (Aah (l := [(25, sub Adt [1, 0, 1, 0, 0, 1, 0, 0, 1, 1, 1, 1, 0])]) (by kernel_rfl) ⟨⟨_, rfl, Bsd N⟩, trivial⟩) Bg7 (B := (fun _ _ _ => none)) (Acz.none _ _ _ _) (fun _ _ _ => rfl) (fun R k x K => Bxq @Acw @Aaq @Ab9 @Acg @Aca @Abu N R (fun a0 a1 a2 a3 a4 a5 a6 => Acg N k a0 a1 a2 a3 a4 a5 a6 (fun y0 => K .ret (Aab Ate ((y0, ()), (())))) (fun y0 y1 y2 y3 y4 y5 => K (.exit 0) (Aab Atf (((), ()), ((y0, y1, y2, y3, y4, y5, ()), ()))))) x K) N
theorem Bvg (N : Nat) : Aax Go.Proofs.Try.prog 110 [] (sub Adt [1, 0, 1, 0]) (Aaa Ag1 (A5l N N)) := (Bvf N).frag
theorem B07 (N : Nat) : Abe Go.Proofs.Try.prog 82 (Bmv N) :=
  ⟨Aa5 (fn := Go.Proofs.Try.f82) (c := Adt) (dom := (Aat [25, 5, 47, 35])) (rs := [.tmp 2]) mixed htt (Aad (Aal (Awj N))) (Aag rfl) Go.Proofs.Try.func82 rfl rfl (by kernel_rfl) (Aah (l := [(5, sub Adt [1, 0, 1, 0]), (35, sub Adt [1, 1, 0, 1, 0])]) (by kernel_rfl) ⟨⟨_, rfl, Bvg N⟩, ⟨_, rfl, Bsf N⟩, trivial⟩) (by decide) (by decide) (by decide) (fun R x C => B4q @Acw @Aaq @Ab9 @Acg @Aca @Abu N R x C), Go.Proofs.Try.f82, Go.Proofs.Try.func82, rfl, by decide⟩
theorem Aou (N : Nat) : Aco Go.Proofs.Try.prog (Bxb N) := ⟨A8u N, trivial⟩
theorem Bny (N : Nat) : Aax Go.Proofs.Try.prog 138 [] (sub Aej [1, 1, 1, 0, 1, 0, 1, 1, 1, 1, 1, 1, 1, 1, 1, 1, 1, 1, 1, 1, 1]) (Aaa Afx (A9g N)) :=
  Afq (dom := (Aat [68, 44, 36, 28, 82])) mixed htt (Aad (Aal (Aou N))) (Aag rfl) (by kernel_rfl) (Aah (l := []) (by kernel_rfl) trivial) A9f (fun R x K => Bps @Aaq @Aa8 @Abi @Abj @Aas @Aar N R x K)
theorem Bnz (N : Nat) : Aax Go.Proofs.Try.prog 138 [] (sub Aej [1, 1, 1, 0, 1, 0, 1, 1, 1, 1, 1, 1, 1]) (Aaa Afy (A9i N)) :=
  Afq (dom := (Aat [68, 44, 36, 28, 82])) mixed htt (Aad (Aal (Aou N))) (Aag rfl) (by kernel_rfl) (Aah (l := [(68, sub Aej [1, 1, 1, 0, 1, 0, 1, 1, 1, 1, 1, 1, 1, 1, 1, 1, 1, 1, 1, 1, 1])]) (by kernel_rfl) ⟨⟨_, rfl, Bny N⟩, trivial⟩) A9h (fun R x K => Bpt @Aaq @Aa8 @Abi @Abj @Aas @Aar N R x K)
theorem Bn0 (N : Nat) : Aax Go.Proofs.Try.prog 138 [] (sub Aej [1, 1, 1, 0, 1, 0, 1, 1, 1, 1, 1]) (Aaa Afz (A9k N)) :=
  Afq (dom := (Aat [68, 44, 36, 28, 82])) mixed htt (Aad (Aal (Aou N))) (Aag rfl) (by kernel_rfl) (Aah (l := [(44, sub Aej [1, 1, 1, 0, 1, 0, 1, 1, 1, 1, 1, 1, 1])]) (by kernel_rfl) ⟨⟨_, rfl, Bnz N⟩, trivial⟩) A9j (fun R x K => Bp0 @Aaq @Aa8 @Abi @Abj @Aas @Aar N R x K)
theorem Bn1 (N : Nat) : Aax Go.Proofs.Try.prog 138 [] (sub Aej [1, 1, 1, 0, 1, 0, 1, 1, 1]) (Aaa Af0 (A9m N)) :=
  Afq (dom := (Aat [68, 44, 36, 28, 82])) mixed htt (Aad (Aal (Aou N))) (Aag rfl) (by kernel_rfl) (Aah (l := [(36, sub Aej [1, 1, 1, 0, 1, 0, 1, 1, 1, 1, 1])]) (by kernel_rfl) ⟨⟨_, rfl, Bn0 N⟩, trivial⟩) A9l (fun R x K => Bpu @Aaq @Aa8 @Abi @Abj @Aas @Aar N R x K)
theorem Bn2 (N : Nat) : Aax Go.Proofs.Try.prog 138 [] (sub Aej [1, 1, 1, 1]) (Aaa Af1 (A9o N)) :=
  Afq (dom := (Aat [68, 44, 36, 28, 82])) mixed htt (Aad (Aal (Aou N))) (Aag rfl) (by kernel_rfl) (Aah (l := []) (by kernel_rfl) trivial) A9n (fun R x K => Bp1 @Aaq @Aa8 @Abi @Abj @Aas @Aar N R x K)
theorem Bvh (N : Nat) : Abe Go.Proofs.Try.prog 83 (Bg9 N) :=
  ⟨Aa5 (fn := Go.Proofs.Try.f83) (c := Aej) (dom := (Aat [68, 44, 36, 28, 82])) (rs := [.tmp 4]) mixed htt (Aad (Aal (Aou N))) (Aag rfl) Go.Proofs.Try.func83 rfl rfl (by kernel_rfl) (Aah (l := [(28, sub Aej [1, 1, 1, 0, 1, 0, 1, 1, 1]), (82, sub Aej [1, 1, 1, 1])]) (by kernel_rfl) ⟨⟨_, rfl, Bn1 N⟩, ⟨_, rfl, Bn2 N⟩, trivial⟩) (by decide) (by decide) (by decide) (fun R x C => Bxg @Aaq @Aa8 @Abi @Abj @Aas @Aar N R x C), Go.Proofs.Try.f83, Go.Proofs.Try.func83, rfl, by decide⟩
theorem B08 (N : Nat) : Aco Go.Proofs.Try.prog (Bju N) := trivial
theorem Bhs (N : Nat) : Abe Go.Proofs.Try.prog 99 (A7u N) :=
  ⟨Aa5 (fn := Go.Proofs.Try.f99) (c := Bjt) (dom := (Aat [])) (rs := [.tmp 2]) mixed htt (Aad (Aal (B08 N))) (Aag rfl) Go.Proofs.Try.func99 rfl rfl (by kernel_rfl) (Aah (l := []) (by kernel_rfl) trivial) (by decide) (by decide) (by decide) (fun R x C => B0g N R x C), Go.Proofs.Try.f99, Go.Proofs.Try.func99, rfl, by decide⟩
theorem A2c (N : Nat) : Aco Go.Proofs.Try.prog (B3x N) := ⟨Bhs N, trivial⟩
theorem Bsg (N : Nat) : Aax Go.Proofs.Try.prog 126 [] (sub Ahj [1, 1, 0, 1, 0, 0, 1, 0, 0, 1, 1, 1, 1, 1]) (Aaa Ais (Bfa N)) :=
  Afq (dom := (Aat [44, 20, 7])) mixed htt (Aad (Aal (A2c N))) (Aag rfl) (by kernel_rfl) (Aah (l := []) (by kernel_rfl) trivial) Be9 (fun R x K => Buo @Aa0 @Acb @Ade @Ac2 N R x K)
theorem Bsh (N : Nat) : Aax Go.Proofs.Try.prog 126 [] (sub Ahj [1, 1, 0, 1, 0, 0, 1, 0, 0, 1, 1, 1]) (Aaa Ait (Bfc N)) :=
  Afq (dom := (Aat [44, 20, 7])) mixed htt (Aad (Aal (A2c N))) (Aag rfl) (by kernel_rfl) (Aah (l := [(44, sub Ahj [1, 1, 0, 1, 0, 0, 1, 0, 0, 1, 1, 1, 1, 1])]) (by kernel_rfl) ⟨⟨_, rfl, Bsg N⟩, trivial⟩) Bfb (fun R x K => Buc @Aa0 @Acb @Ade @Ac2 N R x K)
theorem Bvi (N : Nat) : Acz Go.Proofs.Try.prog 126 [] (sub Ahj [1, 1, 0, 1, 0, 0]) (Aaa Ahw (A5q N N)) :=
  Ab0 (c := sub Ahj [1, 1, 0, 1, 0, 0]) (dom := (Aat [44, 20, 7])) mixed htt (Aad (Aal (A2c N))) (Aag rfl) (by kernel_rfl) (Aah (l := [(20, sub Ahj [1, 1, 0, 1, 0, 0, 1, 0, 0, 1, 1, 1])]) (by kernel_rfl) ⟨⟨_, rfl, Bsh N⟩, trivial⟩) Bha (B := (fun _ _ _ => none)) (Acz.none _ _ _ _) (fun _ _ _ => rfl) (fun R k x K => Bxr @Aa0 @Acb @Ade @Ac2 N R (fun a0 a1 a2 a3 a4 a5 a6 a7 a8 a9 => Ac2 N k a0 a1 a2 a3 a4 a5 a6 a7 a8 a9 (fun y0 => K .ret (Aab Ath ((y0, ()), (())))) (fun y0 y1 y2 y3 y4 y5 y6 y7 y8 => K (.exit 0) (Aab Ati (((), y0, y1, y2, ()), ((y3, y4, y5, y6, y7, y8, ()), ()))))) x K) N
theorem Bvj (N : Nat) : Aax Go.Proofs.Try.prog 126 [] (sub Ahj [1, 1, 0, 1, 0]) (Aaa Ahw (A5q N N)) := (Bvi N).frag
theorem B09 (N : Nat) : Abe Go.Proofs.Try.prog 84 (Bmw N) :=
  ⟨Aa5 (fn := Go.Proofs.Try.f84) (c := Ahj) (dom := (Aat [44, 20, 7])) (rs := [.tmp 2]) mixed htt (Aad (Aal (A2c N))) (Aag rfl) Go.Proofs.Try.func84 rfl rfl (by kernel_rfl) (Aah (l := [(7, sub Ahj [1, 1, 0, 1, 0])]) (by kernel_rfl) ⟨⟨_, rfl, Bvj N⟩, trivial⟩) (by decide) (by decide) (by decide) (fun R x C => B4g @Aa0 @Acb @Ade @Ac2 N R x C), Go.Proofs.Try.f84, Go.Proofs.Try.func84, rfl, by decide⟩
theorem Bni (N : Nat) : Aco Go.Proofs.Try.prog (B3z N) := trivial
theorem Bsi (N : Nat) : Aax Go.Proofs.Try.prog 17 [] (sub Awe [1, 0, 1, 0, 1]) (Aaa Alq (Bfg N)) :=
  Afq (dom := (Aat [14])) mixed htt (Aad (Aal (Bni N))) (Aag rfl) (by kernel_rfl) (Aah (l := []) (by kernel_rfl) trivial) Bff (fun R x K => Bug @Aeb N R x K)
theorem Bkn (N : Nat) : Abe Go.Proofs.Try.prog 33 (Bbe N) :=
  ⟨Aa5 (fn := Go.Proofs.Try.f33) (c := Awe) (dom := (Aat [14])) (rs := [.tmp 2]) mixed htt (Aad (Aal (Bni N))) (Aag rfl) Go.Proofs.Try.func33 rfl rfl (by kernel_rfl) (Aah (l := [(14, sub Awe [1, 0, 1, 0, 1])]) (by kernel_rfl) ⟨⟨_, rfl, Bsi N⟩, trivial⟩) (by decide) (by decide) (by decide) (fun R x C => B4m @Aeb N R x C), Go.Proofs.Try.f33, Go.Proofs.Try.func33, rfl, by decide⟩
theorem At8 (N : Nat) : Aco Go.Proofs.Try.prog (Bzu N) := ⟨Bkn N, trivial⟩
theorem Bp9 (N : Nat) : Aax Go.Proofs.Try.prog 121 [] (sub Adv [1, 1, 1, 1, 0, 1, 0, 0, 1, 0, 0, 1]) (Aaa Ahe (Bci N)) :=
  Afq (dom := (Aat [7, 24, 17, 37])) mixed htt (Aad (Aal (At8 N))) (Aag rfl) (by kernel_rfl) (Aah (l := []) (by kernel_rfl) trivial) Bch (fun R x K => Brq @Abf @Acc @Ach @Abv @Abp N R x K)
theorem Bqa (N : Nat) : Acz Go.Proofs.Try.prog 121 [] (sub Adv [1, 1, 1, 1, 1, 0, 1, 0, 0]) (Aaa Afo (A09 N N)) :=
  Ab0 (c := sub Adv [1, 1, 1, 1, 1, 0, 1, 0, 0]) (dom := (Aat [7, 24, 17, 37])) mixed htt (Aad (Aal (At8 N))) (Aag rfl) (by kernel_rfl) (Aah (l := []) (by kernel_rfl) trivial) Bcl (B := (fun _ _ _ => none)) (Acz.none _ _ _ _) (fun _ _ _ => rfl) (fun R k x K => Brk @Abf @Acc @Ach @Abv @Abp N R (fun a0 a1 a2 a3 a4 a5 a6 a7 a8 a9 a10 => Abp N k a0 a1 a2 a3 a4 a5 a6 a7 a8 a9 a10 (fun y0 y1 y2 => K .ret (Aab Aqv (((), y0, ()), (((), (), ()), y1, y2, ())))) (fun y0 y1 y2 y3 => K (.exit 4) (Aab Aqw (((), (), ()), (((), (), ()), ((), (), ()), y0, y1, y2, y3, ()))))) x K) N
theorem Bqb (N : Nat) : Aax Go.Proofs.Try.prog 121 [] (sub Adv [1, 1, 1, 1, 1, 0, 1, 0]) (Aaa Afo (A09 N N)) := (Bqa N).frag
theorem Bqc (N : Nat) : Acz Go.Proofs.Try.prog 121 [] (sub Adv [1, 1, 1, 1, 0, 1, 0, 0]) (Aaa Afn (A06 N N)) :=
  Ab0 (c := sub Adv [1, 1, 1, 1, 0, 1, 0, 0]) (dom := (Aat [7, 24, 17, 37])) mixed htt (Aad (Aal (At8 N))) (Aag rfl) (by kernel_rfl) (Aah (l := [(24, sub Adv [1, 1, 1, 1, 0, 1, 0, 0, 1, 0, 0, 1])]) (by kernel_rfl) ⟨⟨_, rfl, Bp9 N⟩, trivial⟩) Bcj (B := (fun _ _ _ => none)) (Acz.none _ _ _ _) (fun _ _ _ => rfl) (fun R k x K => Brp @Abf @Acc @Ach @Abv @Abp N R (fun a0 a1 a2 a3 a4 a5 a6 a7 a8 a9 a10 a11 => Abv N k a0 a1 a2 a3 a4 a5 a6 a7 a8 a9 a10 a11 (fun y0 y1 y2 => K .ret (Aab Aqt (((), y0, ()), (((), (), ()), y1, y2, ())))) (fun y0 y1 y2 y3 y4 y5 y6 y7 y8 y9 => K (.exit 2) (Aab Aqu (((), (), (), ()), ((y0, y1, y2, y3, y4, y5, ()), ((), (), ()), ((), (), ()), y6, y7, y8, y9, ()))))) x K) N
theorem Bqd (N : Nat) : Aax Go.Proofs.Try.prog 121 [] (sub Adv [1, 1, 1, 1, 0, 1, 0]) (Aaa Afn (A06 N N)) := (Bqc N).frag
theorem Bsj (N : Nat) : Acz Go.Proofs.Try.prog 121 [] (sub Adv [1, 1, 0, 1, 0, 0]) (Aaa Agk (A3k N N)) :=
  Ab0 (c := sub Adv [1, 1, 0, 1, 0, 0]) (dom := (Aat [7, 24, 17, 37])) mixed htt (Aad (Aal (At8 N))) (Aag rfl) (by kernel_rfl) (Aah (l := []) (by kernel_rfl) trivial) Bfd (B := (fun _ _ _ => none)) (Acz.none _ _ _ _) (fun _ _ _ => rfl) (fun R k x K => Buk @Abf @Acc @Ach @Abv @Abp N R (fun a0 a1 a2 a3 a4 a5 a6 a7 a8 a9 a10 => Acc N k a0 a1 a2 a3 a4 a5 a6 a7 a8 a9 a10 (fun y0 y1 y2 y3 y4 y5 y6 y7 y8 y9 => K (.exit 0) (Aab Ase (((), (), (), ()), ((y0, y1, y2, y3, y4, y5, ()), ((), (), ()), ((), (), ()), y6, y7, y8, y9, ()))))) x K) N
theorem Bsk (N : Nat) : Aax Go.Proofs.Try.prog 121 [] (sub Adv [1, 1, 0, 1, 0]) (Aaa Agk (A3k N N)) := (Bsj N).frag
theorem Byi (N : Nat) : Abe Go.Proofs.Try.prog 85 (Bjv N) :=
  ⟨Aa5 (fn := Go.Proofs.Try.f85) (c := Adv) (dom := (Aat [7, 24, 17, 37])) (rs := [.cell 2 111, .tmp 3]) mixed htt (Aad (Aal (At8 N))) (Aag rfl) Go.Proofs.Try.func85 rfl rfl (by kernel_rfl) (Aah (l := [(7, sub Adv [1, 1, 0, 1, 0]), (17, sub Adv [1, 1, 1, 1, 0, 1, 0]), (37, sub Adv [1, 1, 1, 1, 1, 0, 1, 0])]) (by kernel_rfl) ⟨⟨_, rfl, Bsk N⟩, ⟨_, rfl, Bqd N⟩, ⟨_, rfl, Bqb N⟩, trivial⟩) (by decide) (by decide) (by decide) (fun R x C => B0n @Abf @Acc @Ach @Abv @Abp N R x C), Go.Proofs.Try.f85, Go.Proofs.Try.func85, rfl, by decide⟩
theorem A2d (N : Nat) : Aco Go.Proofs.Try.prog (B31 N) := trivial
theorem Bsl (N : Nat) : Aax Go.Proofs.Try.prog 55 [] (sub Ai1 [1, 0, 1, 0, 1, 1, 1, 1, 1, 1, 1, 1, 1, 1, 1]) (Aaa Aiu (Bfi N)) :=
  Afq (dom := (Aat [60, 42, 20])) mixed htt (Aad (Aal (A2d N))) (Aag rfl) (by kernel_rfl) (Aah (l := []) (by kernel_rfl) trivial) Bfh (fun R x K => Bud @Adf @Abw @Acd N R x K)
theorem Bsm (N : Nat) : Aax Go.Proofs.Try.prog 55 [] (sub Ai1 [1, 0, 1, 0, 1, 1, 1]) (Aaa Aiv (Bfk N)) :=
  Afq (dom := (Aat [60, 42, 20])) mixed htt (Aad (Aal (A2d N))) (Aag rfl) (by kernel_rfl) (Aah (l := [(60, sub Ai1 [1, 0, 1, 0, 1, 1, 1, 1, 1, 1, 1, 1, 1, 1, 1])]) (by kernel_rfl) ⟨⟨_, rfl, Bsl N⟩, trivial⟩) Bfj (fun R x K => Bus @Adf @Abw @Acd N R x K)
theorem Bsn (N : Nat) : Aax Go.Proofs.Try.prog 55 [] (sub Ai1 [1, 0, 1, 0, 1]) (Aaa Aiw (Bfm N)) :=
  Afq (dom := (Aat [60, 42, 20])) mixed htt (Aad (Aal (A2d N))) (Aag rfl) (by kernel_rfl) (Aah (l := [(42, sub Ai1 [1, 0, 1, 0, 1, 1, 1])]) (by kernel_rfl) ⟨⟨_, rfl, Bsm N⟩, trivial⟩) Bfl (fun R x K => But @Adf @Abw @Acd N R x K)
theorem B1a (N : Nat) : Abe Go.Proofs.Try.prog 100 (Bmx N) :=
  ⟨Aa5 (fn := Go.Proofs.Try.f100) (c := Ai1) (dom := (Aat [60, 42, 20])) (rs := [.tmp 4]) mixed htt (Aad (Aal (A2d N))) (Aag rfl) Go.Proofs.Try.func100 rfl rfl (by kernel_rfl) (Aah (l := [(20, sub Ai1 [1, 0, 1, 0, 1])]) (by kernel_rfl) ⟨⟨_, rfl, Bsn N⟩, trivial⟩) (by decide) (by decide) (by decide) (fun R x C => B4s @Adf @Abw @Acd N R x C), Go.Proofs.Try.f100, Go.Proofs.Try.func100, rfl, by decide⟩
theorem Bb8 (N : Nat) : Aco Go.Proofs.Try.prog (B33 N) := trivial
theorem Bso (N : Nat) : Aax Go.Proofs.Try.prog 22 [] (sub Am0 [1, 0, 1, 0, 1, 1, 1]) (Aaa Aki (Bfo N)) :=
  Afq (dom := (Aat [32, 24])) mixed htt (Aad (Aal (Bb8 N))) (Aag rfl) (by kernel_rfl) (Aah (l := []) (by kernel_rfl) trivial) Bfn (fun R x K => Bue @Adw @Acm N R x K)
theorem Bsp (N : Nat) : Aax Go.Proofs.Try.prog 22 [] (sub Am0 [1, 0, 1, 0, 1]) (Aaa Akj (Bfq N)) :=
  Afq (dom := (Aat [32, 24])) mixed htt (Aad (Aal (Bb8 N))) (Aag rfl) (by kernel_rfl) (Aah (l := [(32, sub Am0 [1, 0, 1, 0, 1, 1, 1])]) (by kernel_rfl) ⟨⟨_, rfl, Bso N⟩, trivial⟩) Bfp (fun R x K => Buv @Adw @Acm N R x K)
theorem B1b (N : Nat) : Abe Go.Proofs.Try.prog 101 (Bmy N) :=
  ⟨Aa5 (fn := Go.Proofs.Try.f101) (c := Am0) (dom := (Aat [32, 24])) (rs := [.tmp 2]) mixed htt (Aad (Aal (Bb8 N))) (Aag rfl) Go.Proofs.Try.func101 rfl rfl (by kernel_rfl) (Aah (l := [(24, sub Am0 [1, 0, 1, 0, 1])]) (by kernel_rfl) ⟨⟨_, rfl, Bsp N⟩, trivial⟩) (by decide) (by decide) (by decide) (fun R x C => B4u @Adw @Acm N R x C), Go.Proofs.Try.f101, Go.Proofs.Try.func101, rfl, by decide⟩
theorem Bnj (N : Nat) : Aco Go.Proofs.Try.prog (B35 N) := ⟨A8u N, trivial⟩
theorem Bvk (N : Nat) : Aax Go.Proofs.Try.prog 35 [] (sub Awf [1, 0, 1, 0, 1]) (Aaa Amk (Bhd N)) :=
  Afq (dom := (Aat [8])) mixed htt (Aad (Aal (Bnj N))) (Aag rfl) (by kernel_rfl) (Aah (l := []) (by kernel_rfl) trivial) Bhc (fun R x K => Bxw @Aaq @Agl N R x K)
theorem B1c (N : Nat) : Abe Go.Proofs.Try.prog 102 (Bmz N) :=
  ⟨Aa5 (fn := Go.Proofs.Try.f102) (c := Awf) (dom := (Aat [8])) (rs := [.tmp 4]) mixed htt (Aad (Aal (Bnj N))) (Aag rfl) Go.Proofs.Try.func102 rfl rfl (by kernel_rfl) (Aah (l := [(8, sub Awf [1, 0, 1, 0, 1])]) (by kernel_rfl) ⟨⟨_, rfl, Bvk N⟩, trivial⟩) (by decide) (by decide) (by decide) (fun R x C => B4l @Aaq @Agl N R x C), Go.Proofs.Try.f102, Go.Proofs.Try.func102, rfl, by decide⟩
theorem Bnk (N : Nat) : Aco Go.Proofs.Try.prog (B37 N) := trivial
theorem Bvl (N : Nat) : Acz Go.Proofs.Try.prog 31 [] (sub Ao4 [1, 0, 0, 0]) (Aaa Ajv (A5w N N)) :=
  Ab0 (c := sub Ao4 [1, 0, 0, 0]) (dom := (Aat [3])) mixed htt (Aad (Aal (Bnk N))) (Aag rfl) (by kernel_rfl) (Aah (l := []) (by kernel_rfl) trivial) Bhe (B := (fun _ _ _ => none)) (Acz.none _ _ _ _) (fun _ _ _ => rfl) (fun R k x K => Bxx @Ae8 N R (fun a0 a1 => Ae8 N k a0 a1 (fun y0 y1 => K (.exit 0) (Aab Atj ((y0, y1, ()), (()))))) x K) N
theorem Bvm (N : Nat) : Aax Go.Proofs.Try.prog 31 [] (sub Ao4 [1, 0, 0]) (Aaa Ajv (A5w N N)) := (Bvl N).frag
theorem B1d (N : Nat) : Abe Go.Proofs.Try.prog 103 (Bm0 N) :=
  ⟨Aa5 (fn := Go.Proofs.Try.f103) (c := Ao4) (dom := (Aat [3])) (rs := [.tmp 4]) mixed htt (Aad (Aal (Bnk N))) (Aag rfl) Go.Proofs.Try.func103 rfl rfl (by kernel_rfl) (Aah (l := [(3, sub Ao4 [1, 0, 0])]) (by kernel_rfl) ⟨⟨_, rfl, Bvm N⟩, trivial⟩) (by decide) (by decide) (by decide) (fun R x C => B4n @Ae8 N R x C), Go.Proofs.Try.f103, Go.Proofs.Try.func103, rfl, by decide⟩
theorem Bqe (N : Nat) : Aco Go.Proofs.Try.prog (B68 N) := ⟨B1a N, B1b N, A8u N, B1c N, Bkn N, B1d N, Bhs N, trivial⟩
theorem Byj (N : Nat) : Acz Go.Proofs.Try.prog 96 [] (sub Aqe [1, 1, 0, 1, 0, 0]) (Aaa Aku (A71 N N)) :=
  Ab0 (c := sub Aqe [1, 1, 0, 1, 0, 0]) (dom := (Aat [7])) mixed htt (Aad (Aal (Bqe N))) (Aag rfl) (by kernel_rfl) (Aah (l := []) (by kernel_rfl) trivial) Bjw (B := (fun _ _ _ => none)) (Acz.none _ _ _ _) (fun _ _ _ => rfl) (fun R k x K => B0c @Agc @Afb @Aaq @Afc @Abf @Aer @Aa0 @Ae4 N R (fun a0 a1 a2 a3 a4 a5 a6 a7 a8 a9 a10 => Ae4 N k a0 a1 a2 a3 a4 a5 a6 a7 a8 a9 a10 (fun y0 => K .ret (Aab Avp ((y0, ()), (())))) (K (.exit 0) (Aab Avq ((()), (()))))) x K) N
theorem Byk (N : Nat) : Aax Go.Proofs.Try.prog 96 [] (sub Aqe [1, 1, 0, 1, 0]) (Aaa Aku (A71 N N)) := (Byj N).frag
theorem B5d (N : Nat) : Abe Go.Proofs.Try.prog 86 (Bpl N) :=
  ⟨Aa5 (fn := Go.Proofs.Try.f86) (c := Aqe) (dom := (Aat [7])) (rs := [.tmp 4]) mixed htt (Aad (Aal (Bqe N))) (Aag rfl) Go.Proofs.Try.func86 rfl rfl (by kernel_rfl) (Aah (l := [(7, sub Aqe [1, 1, 0, 1, 0])]) (by kernel_rfl) ⟨⟨_, rfl, Byk N⟩, trivial⟩) (by decide) (by decide) (by decide) (fun R x C => B7b @Agc @Afb @Aaq @Afc @Abf @Aer @Aa0 @Ae4 N R x C), Go.Proofs.Try.f86, Go.Proofs.Try.func86, rfl, by decide⟩
theorem Bnl (N : Nat) : Aco Go.Proofs.Try.prog (B39 N) := ⟨Bvc N, B07 N, Bvh N, B09 N, Byi N, B5d N, trivial⟩
theorem Bsq (N : Nat) : Acz Go.Proofs.Try.prog 50 [] (sub Ao2 [1, 1, 1, 0, 1, 0, 0]) (Aaa Air (A3g N N)) :=
  Ab0 (c := sub Ao2 [1, 1, 1, 0, 1, 0, 0]) (dom := (Aat [13])) mixed htt (Aad (Aal (Bnl N))) (Aag rfl) (by kernel_rfl) (Aah (l := []) (by kernel_rfl) trivial) Be7 (B := (fun _ _ _ => none)) (Acz.none _ _ _ _) (fun _ _ _ => rfl) (fun R k x K => Bum @Afm @Ahd @Aev @Agy @Af2 @Ah7 @Aez N R (fun a0 a1 a2 a3 a4 a5 a6 => Aez N k a0 a1 a2 a3 a4 a5 a6 (fun y0 => K .ret (Aab Asb ((y0, ()), (())))) (fun y0 y1 y2 y3 y4 y5 => K (.exit 0) (Aab Asc (((), ()), ((y0, y1, y2, y3, y4, y5, ()), ()))))) x K) N
theorem Bsr (N : Nat) : Aax Go.Proofs.Try.prog 50 [] (sub Ao2 [1, 1, 1, 0, 1, 0]) (Aaa Air (A3g N N)) := (Bsq N).frag
theorem B1e (N : Nat) : Abe Go.Proofs.Try.prog 66 (Bm2 N) :=
  ⟨Aa5 (fn := Go.Proofs.Try.f66) (c := Ao2) (dom := (Aat [13])) (rs := [.tmp 2]) mixed htt (Aad (Aal (Bnl N))) (Aag rfl) Go.Proofs.Try.func66 rfl rfl (by kernel_rfl) (Aah (l := [(13, sub Ao2 [1, 1, 1, 0, 1, 0])]) (by kernel_rfl) ⟨⟨_, rfl, Bsr N⟩, trivial⟩) (by decide) (by decide) (by decide) (fun R x C => B4f @Afm @Ahd @Aev @Agy @Af2 @Ah7 @Aez N R x C), Go.Proofs.Try.f66, Go.Proofs.Try.func66, rfl, by decide⟩
theorem B1f (N : Nat) : Aco Go.Proofs.Try.prog (Bj1 N) := trivial
theorem Byl (N : Nat) : Abe Go.Proofs.Try.prog 42 (Bj0 N) :=
  ⟨Aa5 (fn := Go.Proofs.Try.f42) (c := Bjz) (dom := (Aat [])) (rs := [.tmp 2]) mixed htt (Aad (Aal (B1f N))) (Aag rfl) Go.Proofs.Try.func42 rfl rfl (by kernel_rfl) (Aah (l := []) (by kernel_rfl) trivial) (by decide) (by decide) (by decide) (fun R x C => B0p N R x C), Go.Proofs.Try.f42, Go.Proofs.Try.func42, rfl, by decide⟩
theorem B85 (N : Nat) : Aco Go.Proofs.Try.prog (Bs9 N) := trivial
theorem Bqf (N : Nat) : Abe Go.Proofs.Try.prog 58 (Bio N) :=
  ⟨Aa5 (fn := Go.Proofs.Try.f58) (c := Bs8) (dom := (Aat [])) (rs := [.tmp 2]) mixed htt (Aad (Aal (B85 N))) (Aag rfl) Go.Proofs.Try.func58 rfl rfl (by kernel_rfl) (Aah (l := []) (by kernel_rfl) trivial) (by decide) (by decide) (by decide) (fun R x C => B83 N R x C), Go.Proofs.Try.f58, Go.Proofs.Try.func58, rfl, by decide⟩
theorem B1g (N : Nat) : Aco Go.Proofs.Try.prog (Bj7 N) := trivial
theorem Bht (N : Nat) : Abe Go.Proofs.Try.prog 39 (A78 N) :=
  ⟨Aa5 (fn := Go.Proofs.Try.f39) (c := Bj6) (dom := (Aat [])) (rs := [.tmp 2]) mixed htt (Aad (Aal (B1g N))) (Aag rfl) Go.Proofs.Try.func39 rfl rfl (by kernel_rfl) (Aah (l := []) (by kernel_rfl) trivial) (by decide) (by decide) (by decide) (fun R x C => B0h N R x C), Go.Proofs.Try.f39, Go.Proofs.Try.func39, rfl, by decide⟩
theorem B1h (N : Nat) : Aco Go.Proofs.Try.prog (Bj9 N) := trivial
theorem Bhu (N : Nat) : Abe Go.Proofs.Try.prog 40 (A8a N) :=
  ⟨Aa5 (fn := Go.Proofs.Try.f40) (c := Bj8) (dom := (Aat [])) (rs := [.tmp 2]) mixed htt (Aad (Aal (B1h N))) (Aag rfl) Go.Proofs.Try.func40 rfl rfl (by kernel_rfl) (Aah (l := []) (by kernel_rfl) trivial) (by decide) (by decide) (by decide) (fun R x C => B0q N R x C), Go.Proofs.Try.f40, Go.Proofs.Try.func40, rfl, by decide⟩
theorem Bfy (N : Nat) : Aco Go.Proofs.Try.prog (Bt9 N) := ⟨Bht N, Bhu N, trivial⟩
theorem Bn3 (N : Nat) : Acz Go.Proofs.Try.prog 59 (List.replicate 32 true) (sub Alt [1, 1, 0, 1, 0, 0]) (Aaa Ahx (Azp N N)) :=
  Ab0 (c := sub Alt [1, 1, 0, 1, 0, 0]) (dom := (Aat [7])) mixed htt (Aad (Aal (Bfy N))) (Aag rfl) (by kernel_rfl) (Aah (l := []) (by kernel_rfl) trivial) A9p (B := (fun _ _ _ => none)) (Acz.none _ _ _ _) (fun _ _ _ => rfl) (fun R k x K => Bpv @Ab6 @Ab7 @Ad2 N R (fun a0 a1 a2 a3 a4 a5 a6 => Ad2 N k a0 a1 a2 a3 a4 a5 a6 (fun y0 y1 y2 y3 y4 => K (.exit 0) (Aab Apf (((), y0, ()), (((), (), (), ()), y1, y2, y3, y4, ()))))) x K) N
theorem Bn4 (N : Nat) : Aax Go.Proofs.Try.prog 59 (List.replicate 32 true) (sub Alt [1, 1, 0, 1, 0]) (Aaa Ahx (Azp N N)) := (Bn3 N).frag
theorem Bss (N : Nat) : Abe Go.Proofs.Try.prog 93 (Bfu N) :=
  ⟨Aa5 (fn := Go.Proofs.Try.f93) (c := Alt) (dom := (Aat [7])) (rs := []) mixed htt (Aad (Aal (Bfy N))) (Aag rfl) Go.Proofs.Try.func93 rfl rfl (by kernel_rfl) (Aah (l := [(7, sub Alt [1, 1, 0, 1, 0])]) (by kernel_rfl) ⟨⟨_, rfl, Bn4 N⟩, trivial⟩) (by decide) (by decide) (by decide) (fun R x C => Buu @Ab6 @Ab7 @Ad2 N R x C), Go.Proofs.Try.f93, Go.Proofs.Try.func93, rfl, by decide⟩
theorem Bko (N : Nat) : Aco Go.Proofs.Try.prog (A3z N) := trivial
theorem A1p (N : Nat) : Abe Go.Proofs.Try.prog 70 (At6 N) :=
  ⟨Aa5 (fn := Go.Proofs.Try.f70) (c := A3y) (dom := (Aat [])) (rs := [.tmp 6]) mixed htt (Aad (Aal (Bko N))) (Aag rfl) Go.Proofs.Try.func70 rfl rfl (by kernel_rfl) (Aah (l := []) (by kernel_rfl) trivial) (by decide) (by decide) (by decide) (fun R x C => Bkh N R x C), Go.Proofs.Try.f70, Go.Proofs.Try.func70, rfl, by decide⟩
theorem Asv (N : Nat) : Aco Go.Proofs.Try.prog (B8r N) := ⟨Byl N, Bqf N, Bss N, A1p N, trivial⟩
theorem Bym (N : Nat) : Acz Go.Proofs.Try.prog 130 [] (sub Adh [1, 1, 0, 1, 0, 0, 1, 0, 0, 1, 0, 1, 0, 1, 0, 0, 0]) (Aaa Af7 (A74 N N)) :=
  Ab0 (c := sub Adh [1, 1, 0, 1, 0, 0, 1, 0, 0, 1, 0, 1, 0, 1, 0, 0, 0]) (dom := (Aat [17, 28, 22, 7, 39, 33])) mixed htt (Aad (Aal (Asv N))) (Aag rfl) (by kernel_rfl) (Aah (l := []) (by kernel_rfl) trivial) Bjx (B := (fun _ _ _ => none)) (Acz.none _ _ _ _) (fun _ _ _ => rfl) (fun R k x K => Bz6 @Abr @Abh @Aa3 @Aaj @Ab4 @Ab5 @Aci @Acs @Ab8 @Abx N R (fun a0 a1 a2 a3 a4 a5 a6 a7 a8 a9 a10 a11 a12 a13 => Ab4 N k a0 a1 a2 a3 a4 a5 a6 a7 a8 a9 a10 a11 a12 a13 (fun y0 y1 y2 y3 y4 y5 y6 y7 y8 y9 y10 y11 y12 y13 => K (.exit 2) (Aab Avr (((), (), y0, (), y1, ()), ((y2, y3, y4, y5, y6, y7, ()), ((), (), (), ()), (y8, y9, y10, ()), y11, y12, y13, ()))))) x K) N
theorem Byn (N : Nat) : Aax Go.Proofs.Try.prog 130 [] (sub Adh [1, 1, 0, 1, 0, 0, 1, 0, 0, 1, 0, 1, 0, 1, 0, 0]) (Aaa Af7 (A74 N N)) := (Bym N).frag
theorem Byo (N : Nat) : Aax Go.Proofs.Try.prog 130 [] (sub Adh [1, 1, 0, 1, 0, 0, 1, 0, 0, 1, 1, 1, 1]) (Aaa Ahk (Bj3 N)) :=
  Afq (dom := (Aat [17, 28, 22, 7, 39, 33])) mixed htt (Aad (Aal (Asv N))) (Aag rfl) (by kernel_rfl) (Aah (l := []) (by kernel_rfl) trivial) Bj2 (fun R x K => B0l @Abr @Abh @Aa3 @Aaj @Ab4 @Ab5 @Aci @Acs @Ab8 @Abx N R x K)
theorem Byp (N : Nat) : Acz Go.Proofs.Try.prog 130 [] (sub Adh [1, 1, 1, 1, 0, 0, 0, 1, 1, 0, 1, 0, 0]) (Aaa Af8 (A8d N N)) :=
  Ab0 (c := sub Adh [1, 1, 1, 1, 0, 0, 0, 1, 1, 0, 1, 0, 0]) (dom := (Aat [17, 28, 22, 7, 39, 33])) mixed htt (Aad (Aal (Asv N))) (Aag rfl) (by kernel_rfl) (Aah (l := []) (by kernel_rfl) trivial) Bkd (B := (fun _ _ _ => none)) (Acz.none _ _ _ _) (fun _ _ _ => rfl) (fun R k x K => B0i @Abr @Abh @Aa3 @Aaj @Ab4 @Ab5 @Aci @Acs @Ab8 @Abx N R (fun a0 a1 a2 a3 a4 a5 a6 a7 a8 a9 a10 a11 => Ab8 N k a0 a1 a2 a3 a4 a5 a6 a7 a8 a9 a10 a11 (fun y0 y1 y2 y3 y4 y5 y6 y7 y8 y9 y10 => K (.exit 6) (Aab Avv (((), (), (), y0, ()), ((y1, y2, y3, y4, y5, y6, ()), ((), (), (), ()), y7, y8, y9, y10, ()))))) x K) N
theorem Byq (N : Nat) : Aax Go.Proofs.Try.prog 130 [] (sub Adh [1, 1, 1, 1, 0, 0, 0, 1, 1, 0, 1, 0]) (Aaa Af8 (A8d N N)) := (Byp N).frag
theorem Byr (N : Nat) : Aax Go.Proofs.Try.prog 130 [] (sub Adh [1, 1, 0, 1, 0, 0, 1, 0, 0, 1, 1]) (Aaa Ahl (Bj5 N)) :=
  Afq (dom := (Aat [17, 28, 22, 7, 39, 33])) mixed htt (Aad (Aal (Asv N))) (Aag rfl) (by kernel_rfl) (Aah (l := [(28, sub Adh [1, 1, 0, 1, 0, 0, 1, 0, 0, 1, 1, 1, 1])]) (by kernel_rfl) ⟨⟨_, rfl, Byo N⟩, trivial⟩) Bj4 (fun R x K => B0a @Abr @Abh @Aa3 @Aaj @Ab4 @Ab5 @Aci @Acs @Ab8 @Abx N R x K)
theorem B1i (N : Nat) : Acz Go.Proofs.Try.prog 130 [] (sub Adh [1, 1, 0, 1, 0, 0]) (Aaa Ag2 (Bbv N N)) :=
  Ab0 (c := sub Adh [1, 1, 0, 1, 0, 0]) (dom := (Aat [17, 28, 22, 7, 39, 33])) mixed htt (Aad (Aal (Asv N))) (Aag rfl) (by kernel_rfl) (Aah (l := [(17, sub Adh [1, 1, 0, 1, 0, 0, 1, 0, 0, 1, 0, 1, 0, 1, 0, 0]), (22, sub Adh [1, 1, 0, 1, 0, 0, 1, 0, 0, 1, 1])]) (by kernel_rfl) ⟨⟨_, rfl, Byn N⟩, ⟨_, rfl, Byr N⟩, trivial⟩) Bm3 (B := (fun _ _ _ => none)) (Acz.none _ _ _ _) (fun _ _ _ => rfl) (fun R k x K => B4p @Abr @Abh @Aa3 @Aaj @Ab4 @Ab5 @Aci @Acs @Ab8 @Abx N R (fun a0 a1 a2 a3 a4 a5 a6 a7 a8 a9 => Acs N k a0 a1 a2 a3 a4 a5 a6 a7 a8 a9 (fun y0 y1 y2 y3 y4 y5 y6 y7 y8 => K (.exit 0) (Aab Ax0 (((), (), ()), ((y0, y1, y2, y3, y4, y5, ()), ((), (), (), ()), y6, y7, y8, ()))))) x K) N
theorem B1j (N : Nat) : Aax Go.Proofs.Try.prog 130 [] (sub Adh [1, 1, 0, 1, 0]) (Aaa Ag2 (Bbv N N)) := (B1i N).frag
theorem Bys (N : Nat) : Acz Go.Proofs.Try.prog 130 [] (sub Adh [1, 1, 1, 1, 0, 0]) (Aaa Af9 (A8g N N)) :=
  Ab0 (c := sub Adh [1, 1, 1, 1, 0, 0]) (dom := (Aat [17, 28, 22, 7, 39, 33])) mixed htt (Aad (Aal (Asv N))) (Aag rfl) (by kernel_rfl) (Aah (l := [(39, sub Adh [1, 1, 1, 1, 0, 0, 0, 1, 1, 0, 1, 0])]) (by kernel_rfl) ⟨⟨_, rfl, Byq N⟩, trivial⟩) Bkf (B := (fun _ _ _ => none)) (Acz.none _ _ _ _) (fun _ _ _ => rfl) (fun R k x K => Bz9 @Abr @Abh @Aa3 @Aaj @Ab4 @Ab5 @Aci @Acs @Ab8 @Abx N R (fun a0 a1 a2 a3 a4 a5 a6 a7 a8 => Abx N k a0 a1 a2 a3 a4 a5 a6 a7 a8 (fun y0 y1 y2 => K .ret (Aab Avw (((), ()), (((), (), (), ()), y0, y1, y2, ()))))) x K) N
theorem Byt (N : Nat) : Aax Go.Proofs.Try.prog 130 [] (sub Adh [1, 1, 1, 1, 0]) (Aaa Af9 (A8g N N)) := (Bys N).frag
theorem B7w (N : Nat) : Abe Go.Proofs.Try.prog 69 (Btb N) :=
  ⟨Aa5 (fn := Go.Proofs.Try.f69) (c := Adh) (dom := (Aat [17, 28, 22, 7, 39, 33])) (rs := [.tmp 2]) mixed htt (Aad (Aal (Asv N))) (Aag rfl) Go.Proofs.Try.func69 rfl rfl (by kernel_rfl) (Aah (l := [(7, sub Adh [1, 1, 0, 1, 0]), (33, sub Adh [1, 1, 1, 1, 0])]) (by kernel_rfl) ⟨⟨_, rfl, B1j N⟩, ⟨_, rfl, Byt N⟩, trivial⟩) (by decide) (by decide) (by decide) (fun R x C => B8w @Abr @Abh @Aa3 @Aaj @Ab4 @Ab5 @Aci @Acs @Ab8 @Abx N R x C), Go.Proofs.Try.f69, Go.Proofs.Try.func69, rfl, by decide⟩
theorem B5e (N : Nat) : Aco Go.Proofs.Try.prog (B4b N) := ⟨B1e N, B7w N, trivial⟩
theorem B1k (N : Nat) : Abe Go.Proofs.Try.prog 49 (Bm5 N) :=
  ⟨Aa5 (fn := Go.Proofs.Try.f49) (c := Bmt) (dom := (Aat [])) (rs := [.tmp 2, .tmp 3]) mixed htt (Aad (Aal (B5e N))) (Aag rfl) Go.Proofs.Try.func49 rfl rfl (by kernel_rfl) (Aah (l := []) (by kernel_rfl) trivial) (by decide) (by decide) (by decide) (fun R x C => B4i @Ajc @Al7 N R x C), Go.Proofs.Try.f49, Go.Proofs.Try.func49, rfl, by decide⟩
theorem Bte (N : Nat) : Aco Go.Proofs.Try.prog (B8t N) := trivial
theorem B1l (N : Nat) : Acz Go.Proofs.Try.prog 23 [] (sub Asq [1, 1, 0, 1, 0, 0]) (Aaa Alh (Bbz N N)) :=
  Ab0 (c := sub Asq [1, 1, 0, 1, 0, 0]) (dom := (Aat [7])) mixed htt (Aad (Aal (Bte N))) (Aag rfl) (by kernel_rfl) (Aah (l := []) (by kernel_rfl) trivial) Bm6 (B := (fun _ _ _ => none)) (Acz.none _ _ _ _) (fun _ _ _ => rfl) (fun R k x K => B4v @Agd N R (fun a0 a1 a2 => Agd N k a0 a1 a2 (fun y0 => K (.exit 0) (Aab Ax3 (((), ()), (y0, ()))))) x K) N
theorem B1m (N : Nat) : Aax Go.Proofs.Try.prog 23 [] (sub Asq [1, 1, 0, 1, 0]) (Aaa Alh (Bbz N N)) := (B1l N).frag
theorem Bqg (N : Nat) : Abe Go.Proofs.Try.prog 50 (Bit N) :=
  ⟨Aa5 (fn := Go.Proofs.Try.f50) (c := Asq) (dom := (Aat [7])) (rs := [.tmp 4]) mixed htt (Aad (Aal (Bte N))) (Aag rfl) Go.Proofs.Try.func50 rfl rfl (by kernel_rfl) (Aah (l := [(7, sub Asq [1, 1, 0, 1, 0])]) (by kernel_rfl) ⟨⟨_, rfl, B1m N⟩, trivial⟩) (by decide) (by decide) (by decide) (fun R x C => B80 @Agd N R x C), Go.Proofs.Try.f50, Go.Proofs.Try.func50, rfl, by decide⟩
theorem Apj (N : Nat) : Aco Go.Proofs.Try.prog (Blm N) := ⟨Bqf N, A1p N, Bht N, Bqg N, Bhu N, trivial⟩
theorem Bfz (N : Nat) : Aax Go.Proofs.Try.prog 80 (List.replicate 32 true) (sub Aec [1, 1, 0, 1, 0, 0, 1, 0, 0, 1, 1, 1, 1, 1]) (Aaa Aff (A0o N)) :=
  Afq (dom := (Aat [24, 20, 7])) mixed htt (Aad (Aal (Apj N))) (Aag rfl) (by kernel_rfl) (Aah (l := []) (by kernel_rfl) trivial) A0n (fun R x K => Bf8 @Abh @Aaj @Ab6 @Aa1 @Ab7 @Abb @Abc @Aa7 N R x K)
theorem Bf0 (N : Nat) : Aax Go.Proofs.Try.prog 80 (List.replicate 32 true) (sub Aec [1, 1, 0, 1, 0, 0, 1, 0, 0, 1, 1, 1, 1]) (Aaa Afg (A0q N)) :=
  Afq (dom := (Aat [24, 20, 7])) mixed htt (Aad (Aal (Apj N))) (Aag rfl) (by kernel_rfl) (Aah (l := [(24, sub Aec [1, 1, 0, 1, 0, 0, 1, 0, 0, 1, 1, 1, 1, 1])]) (by kernel_rfl) ⟨⟨_, rfl, Bfz N⟩, trivial⟩) A0p (fun R x K => Bf7 @Abh @Aaj @Ab6 @Aa1 @Ab7 @Abb @Abc @Aa7 N R x K)
theorem Bf9 (N : Nat) : Acz Go.Proofs.Try.prog 80 (List.replicate 32 true) (sub Aec [1, 1, 0, 1, 0, 0]) (Aaa Aes (Ast N N)) :=
  Ab0 (c := sub Aec [1, 1, 0, 1, 0, 0]) (dom := (Aat [24, 20, 7])) mixed htt (Aad (Aal (Apj N))) (Aag rfl) (by kernel_rfl) (Aah (l := [(20, sub Aec [1, 1, 0, 1, 0, 0, 1, 0, 0, 1, 1, 1, 1])]) (by kernel_rfl) ⟨⟨_, rfl, Bf0 N⟩, trivial⟩) A1m (B := (fun _ _ _ => none)) (Acz.none _ _ _ _) (fun _ _ _ => rfl) (fun R k x K => Biw @Abh @Aaj @Ab6 @Aa1 @Ab7 @Abb @Abc @Aa7 N R (fun a0 a1 a2 a3 a4 a5 a6 a7 a8 a9 a10 => Aa7 N k a0 a1 a2 a3 a4 a5 a6 a7 a8 a9 a10 (fun y0 y1 y2 y3 => K (.exit 0) (Aab Aml (((), ()), (((), (), (), ()), y0, y1, y2, y3, ()))))) x K) N
theorem Bga (N : Nat) : Aax Go.Proofs.Try.prog 80 (List.replicate 32 true) (sub Aec [1, 1, 0, 1, 0]) (Aaa Aes (Ast N N)) := (Bf9 N).frag
theorem Bkp (N : Nat) : Abe Go.Proofs.Try.prog 51 (A56 N) :=
  ⟨Aa5 (fn := Go.Proofs.Try.f51) (c := Aec) (dom := (Aat [24, 20, 7])) (rs := [.tmp 4]) mixed htt (Aad (Aal (Apj N))) (Aag rfl) Go.Proofs.Try.func51 rfl rfl (by kernel_rfl) (Aah (l := [(7, sub Aec [1, 1, 0, 1, 0])]) (by kernel_rfl) ⟨⟨_, rfl, Bga N⟩, trivial⟩) (by decide) (by decide) (by decide) (fun R x C => Bln @Abh @Aaj @Ab6 @Aa1 @Ab7 @Abb @Abc @Aa7 N R x C), Go.Proofs.Try.f51, Go.Proofs.Try.func51, rfl, by decide⟩
theorem Btf (N : Nat) : Aco Go.Proofs.Try.prog (B8v N) := trivial
theorem B1n (N : Nat) : Acz Go.Proofs.Try.prog 23 [] (sub Asu [1, 1, 0, 1, 0, 0]) (Aaa Ali (Bb3 N N)) :=
  Ab0 (c := sub Asu [1, 1, 0, 1, 0, 0]) (dom := (Aat [7])) mixed htt (Aad (Aal (Btf N))) (Aag rfl) (by kernel_rfl) (Aah (l := []) (by kernel_rfl) trivial) Bm8 (B := (fun _ _ _ => none)) (Acz.none _ _ _ _) (fun _ _ _ => rfl) (fun R k x K => B4w @Agz N R (fun a0 a1 a2 => Agz N k a0 a1 a2 (fun y0 => K (.exit 0) (Aab Ax4 ((y0, ()), (()))))) x K) N
theorem B1o (N : Nat) : Aax Go.Proofs.Try.prog 23 [] (sub Asu [1, 1, 0, 1, 0]) (Aaa Ali (Bb3 N N)) := (B1n N).frag
theorem B7x (N : Nat) : Abe Go.Proofs.Try.prog 32 (Btc N) :=
  ⟨Aa5 (fn := Go.Proofs.Try.f32) (c := Asu) (dom := (Aat [7])) (rs := [.tmp 2]) mixed htt (Aad (Aal (Btf N))) (Aag rfl) Go.Proofs.Try.func32 rfl rfl (by kernel_rfl) (Aah (l := [(7, sub Asu [1, 1, 0, 1, 0])]) (by kernel_rfl) ⟨⟨_, rfl, B1o N⟩, trivial⟩) (by decide) (by decide) (by decide) (fun R x C => B81 @Agz N R x C), Go.Proofs.Try.f32, Go.Proofs.Try.func32, rfl, by decide⟩
theorem A6c (N : Nat) : Aco Go.Proofs.Try.prog (B7a N) := ⟨B1k N, Bqg N, Bkp N, B7x N, trivial⟩
theorem Bvn (N : Nat) : Acz Go.Proofs.Try.prog 130 [] (sub Afw [1, 1, 1, 1, 1, 1, 0, 1, 0, 0, 1, 0, 0, 1, 1, 1, 1, 0, 0]) (Aaa Ahy (A5z N N)) :=
  Ab0 (c := sub Afw [1, 1, 1, 1, 1, 1, 0, 1, 0, 0, 1, 0, 0, 1, 1, 1, 1, 0, 0]) (dom := (Aat [33, 17, 43])) mixed htt (Aad (Aal (A6c N))) (Aag rfl) (by kernel_rfl) (Aah (l := []) (by kernel_rfl) trivial) Bhg (B := (fun _ _ _ => none)) (Acz.none _ _ _ _) (fun _ _ _ => rfl) (fun R k x K => Bxn @Ad6 @Aa1 @Abm @Afj @Adn @Ac8 @Ac9 N R (fun a0 a1 a2 a3 a4 a5 a6 a7 a8 a9 a10 a11 a12 a13 a14 => Adn N k a0 a1 a2 a3 a4 a5 a6 a7 a8 a9 a10 a11 a12 a13 a14 (fun y0 y1 y2 y3 y4 y5 y6 y7 y8 y9 y10 => K (.exit 2) (Aab Atk (((), (), (), y0, ()), ((y1, y2, y3, y4, y5, y6, ()), ((), (), (), ()), y7, y8, y9, y10, ()))))) x K) N
theorem Bvo (N : Nat) : Aax Go.Proofs.Try.prog 130 [] (sub Afw [1, 1, 1, 1, 1, 1, 0, 1, 0, 0, 1, 0, 0, 1, 1, 1, 1, 0]) (Aaa Ahy (A5z N N)) := (Bvn N).frag
theorem Bvp (N : Nat) : Acz Go.Proofs.Try.prog 130 [] (sub Afw [1, 1, 1, 1, 1, 1, 1, 1, 0, 1, 0, 0]) (Aaa Ah0 (A55 N N)) :=
  Ab0 (c := sub Afw [1, 1, 1, 1, 1, 1, 1, 1, 0, 1, 0, 0]) (dom := (Aat [33, 17, 43])) mixed htt (Aad (Aal (A6c N))) (Aag rfl) (by kernel_rfl) (Aah (l := []) (by kernel_rfl) trivial) Bhk (B := (fun _ _ _ => none)) (Acz.none _ _ _ _) (fun _ _ _ => rfl) (fun R k x K => Bxp @Ad6 @Aa1 @Abm @Afj @Adn @Ac8 @Ac9 N R (fun a0 a1 a2 a3 a4 a5 a6 a7 a8 a9 a10 => Ac9 N k a0 a1 a2 a3 a4 a5 a6 a7 a8 a9 a10 (fun y0 y1 y2 y3 y4 y5 y6 y7 y8 y9 => K (.exit 4) (Aab Atm (((), (), (), ()), ((y0, y1, y2, y3, y4, y5, ()), ((), (), (), ()), y6, y7, y8, y9, ()))))) x K) N
theorem Bvq (N : Nat) : Aax Go.Proofs.Try.prog 130 [] (sub Afw [1, 1, 1, 1, 1, 1, 1, 1, 0, 1, 0]) (Aaa Ah0 (A55 N N)) := (Bvp N).frag
theorem Bvr (N : Nat) : Acz Go.Proofs.Try.prog 130 [] (sub Afw [1, 1, 1, 1, 1, 1, 0, 1, 0, 0]) (Aaa Ahz (A52 N N)) :=
  Ab0 (c := sub Afw [1, 1, 1, 1, 1, 1, 0, 1, 0, 0]) (dom := (Aat [33, 17, 43])) mixed htt (Aad (Aal (A6c N))) (Aag rfl) (by kernel_rfl) (Aah (l := [(33, sub Afw [1, 1, 1, 1, 1, 1, 0, 1, 0, 0, 1, 0, 0, 1, 1, 1, 1, 0])]) (by kernel_rfl) ⟨⟨_, rfl, Bvo N⟩, trivial⟩) Bhi (B := (fun _ _ _ => none)) (Acz.none _ _ _ _) (fun _ _ _ => rfl) (fun R k x K => Bxo @Ad6 @Aa1 @Abm @Afj @Adn @Ac8 @Ac9 N R (fun a0 a1 a2 a3 a4 a5 a6 a7 a8 a9 a10 => Ac8 N k a0 a1 a2 a3 a4 a5 a6 a7 a8 a9 a10 (fun y0 y1 y2 y3 y4 y5 y6 y7 y8 y9 => K (.exit 0) (Aab Atl (((), (), (), ()), ((y0, y1, y2, y3, y4, y5, ()), ((), (), (), ()), y6, y7, y8, y9, ()))))) x K) N
theorem Bvs (N : Nat) : Aax Go.Proofs.Try.prog 130 [] (sub Afw [1, 1, 1, 1, 1, 1, 0, 1, 0]) (Aaa Ahz (A52 N N)) := (Bvr N).frag
theorem B5f (N : Nat) : Abe Go.Proofs.Try.prog 17 (Bpn N) :=
  ⟨Aa5 (fn := Go.Proofs.Try.f17) (c := Afw) (dom := (Aat [33, 17, 43])) (rs := [.tmp 2, .tmp 3]) mixed htt (Aad (Aal (A6c N))) (Aag rfl) Go.Proofs.Try.func17 rfl rfl (by kernel_rfl) (Aah (l := [(17, sub Afw [1, 1, 1, 1, 1, 1, 0, 1, 0]), (43, sub Afw [1, 1, 1, 1, 1, 1, 1, 1, 0, 1, 0])]) (by kernel_rfl) ⟨⟨_, rfl, Bvs N⟩, ⟨_, rfl, Bvq N⟩, trivial⟩) (by decide) (by decide) (by decide) (fun R x C => B7i @Ad6 @Aa1 @Abm @Afj @Adn @Ac8 @Ac9 N R x C), Go.Proofs.Try.f17, Go.Proofs.Try.func17, rfl, by decide⟩
theorem Bhv (N : Nat) : Aco Go.Proofs.Try.prog (Bxe N) := trivial
theorem Bqh (N : Nat) : Acz Go.Proofs.Try.prog 26 [] (sub Amn [1, 1, 0, 1, 0, 0]) (Aaa Ah8 (A1f N N)) :=
  Ab0 (c := sub Amn [1, 1, 0, 1, 0, 0]) (dom := (Aat [9])) mixed htt (Aad (Aal (Bhv N))) (Aag rfl) (by kernel_rfl) (Aah (l := []) (by kernel_rfl) trivial) Bcn (B := (fun _ _ _ => none)) (Acz.none _ _ _ _) (fun _ _ _ => rfl) (fun R k x K => Brl @Aek N R (fun a0 a1 a2 => Aek N k a0 a1 a2 (fun y0 => K .ret (Aab Aqx ((y0, ()), (())))) (K (.exit 0) (Aab Aqy ((()), (()))))) x K) N
theorem Bqi (N : Nat) : Aax Go.Proofs.Try.prog 26 [] (sub Amn [1, 1, 0, 1, 0]) (Aaa Ah8 (A1f N N)) := (Bqh N).frag
theorem Bvt (N : Nat) : Abe Go.Proofs.Try.prog 18 (Bhn N) :=
  ⟨Aa5 (fn := Go.Proofs.Try.f18) (c := Amn) (dom := (Aat [9])) (rs := [.tmp 4]) mixed htt (Aad (Aal (Bhv N))) (Aag rfl) Go.Proofs.Try.func18 rfl rfl (by kernel_rfl) (Aah (l := [(9, sub Amn [1, 1, 0, 1, 0])]) (by kernel_rfl) ⟨⟨_, rfl, Bqi N⟩, trivial⟩) (by decide) (by decide) (by decide) (fun R x C => Bxm @Aek N R x C), Go.Proofs.Try.f18, Go.Proofs.Try.func18, rfl, by decide⟩
theorem Bqj (N : Nat) : Aco Go.Proofs.Try.prog (Bpq N) := ⟨B0r N, B0s N, B7v N, B5f N, Bvt N, trivial⟩
theorem Bn5 (N : Nat) : Abe Go.Proofs.Try.prog 4 (A9r N) :=
  ⟨Aa5 (fn := Go.Proofs.Try.f4) (c := A80) (dom := (Aat [])) (rs := [.tmp 2]) mixed htt (Aad (Aal (Bqj N))) (Aag rfl) Go.Proofs.Try.func4 rfl rfl (by kernel_rfl) (Aah (l := []) (by kernel_rfl) trivial) (by decide) (by decide) (by decide) (fun R x C => Bpw @Ai5 @Ai6 @Al0 @Aky @Ahm N R x C), Go.Proofs.Try.f4, Go.Proofs.Try.func4, rfl, by decide⟩
end
end Q

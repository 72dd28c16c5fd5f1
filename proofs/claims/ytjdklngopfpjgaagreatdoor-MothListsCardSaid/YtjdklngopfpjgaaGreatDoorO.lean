/- Part O of the proof. -/
import Derived.Test.YtjdklngopfpjgaaGreatDoorE1
import Derived.Test.YtjdklngopfpjgaaGreatDoorE2
import Derived.Test.YtjdklngopfpjgaaGreatDoorSh
import Derived.WalkKit
import Derived.Laws.Externs
import Derived.Test.YtjdklngopfpjgaaGreatDoorAW
import Derived.Test.YtjdklngopfpjgaaGreatDoorAD
open Go Go.AX Go.Proofs
namespace Q
noncomputable section
set_option maxRecDepth 100000
set_option linter.unusedVariables false
theorem htt : Akb Tryz.prog tt := Cg4 (l := types) (by kernel_rfl)
theorem mixed : Tryz.prog.follows .mixedOrders = true := by kernel_rfl
theorem Bpq (N : Nat) : Ac5 Tryz.prog (B8q N) := trivial
theorem Bt7 (N : Nat) : Ad4 Tryz.prog 59 [] (sub Ao3 [1, 1, 1, 0, 1, 0, 0]) (Aaa Ais (A3d N N)) :=
 Adi (c := sub Ao3 [1, 1, 1, 0, 1, 0, 0]) (dom := (Aau [11])) mixed htt (Aae (Aam (Bpq N))) (Aag rfl) (by kernel_rfl) (Aah (l := []) (by kernel_rfl) trivial) Bfi (B := (fun _ _ _ => none)) (Ad4.none _ _ _ _) (fun _ _ _ => rfl) (fun R k x K => Byj @Aef N R (fun a0 a1 a2 a3 a4 a5 a6 => Aef N k a0 a1 a2 a3 a4 a5 a6 (fun a => K (.exit 0) (Aab Aro ((a, ()), (()))))) x K) N
theorem Bt8 (N : Nat) : Aax Tryz.prog 59 [] (sub Ao3 [1, 1, 1, 0, 1, 0]) (Aaa Ais (A3d N N)) := (Bt7 N).frag
theorem B5v (N : Nat) : Abc Tryz.prog 16 (Bop N) :=
 ⟨Aa9 (fn := Tryz.f16) (c := Ao3) (dom := (Aau [11])) (rs := [.tmp 2]) mixed htt (Aae (Aam (Bpq N))) (Aag rfl) Tryz.func16 rfl rfl (by kernel_rfl) (Aah (l := [(11, sub Ao3 [1, 1, 1, 0, 1, 0])]) (by kernel_rfl) ⟨⟨_, rfl, Bt8 N⟩, trivial⟩) (by decide) (by decide) (by decide) (fun R x C => Cat @Aef N R x C), Tryz.f16, Tryz.func16, rfl, by decide⟩
theorem B5w (N : Nat) : Abc Tryz.prog 17 (Bbr N) :=
 ⟨Go.CE.Aw.awake_ok, Tryz.f17, Tryz.func17, rfl, by decide⟩
theorem Bpr (N : Nat) : Ac5 Tryz.prog (B8s N) := trivial
theorem Bt9 (N : Nat) : Ad4 Tryz.prog 50 [] (sub Ao4 [1, 1, 1, 0, 1, 0, 0]) (Aaa Ait (A3g N N)) :=
 Adi (c := sub Ao4 [1, 1, 1, 0, 1, 0, 0]) (dom := (Aau [11])) mixed htt (Aae (Aam (Bpr N))) (Aag rfl) (by kernel_rfl) (Aah (l := []) (by kernel_rfl) trivial) Bfk (B := (fun _ _ _ => none)) (Ad4.none _ _ _ _) (fun _ _ _ => rfl) (fun R k x K => Byl @Aeg N R (fun a0 a1 a2 a3 => Aeg N k a0 a1 a2 a3 (fun a => K (.exit 0) (Aab Arq ((a, ()), (()))))) x K) N
theorem Bua (N : Nat) : Aax Tryz.prog 50 [] (sub Ao4 [1, 1, 1, 0, 1, 0]) (Aaa Ait (A3g N N)) := (Bt9 N).frag
theorem B5x (N : Nat) : Abc Tryz.prog 103 (Bos N) :=
 ⟨Aa9 (fn := Tryz.f103) (c := Ao4) (dom := (Aau [11])) (rs := [.tmp 2]) mixed htt (Aae (Aam (Bpr N))) (Aag rfl) Tryz.func103 rfl rfl (by kernel_rfl) (Aah (l := [(11, sub Ao4 [1, 1, 1, 0, 1, 0])]) (by kernel_rfl) ⟨⟨_, rfl, Bua N⟩, trivial⟩) (by decide) (by decide) (by decide) (fun R x C => Cah @Aeg N R x C), Tryz.f103, Tryz.func103, rfl, by decide⟩
theorem Bfh : (Tryz.prog.info? 80).map (·.size) = some 2 := by kernel_rfl
theorem Bw0 : liesAt Tryz.prog Tryz.prog.depth 80 (2 / Tryz.prog.cellsOf 80) 0 80 1 = true := by kernel_rfl
set_option maxHeartbeats 1000000 in
theorem A8v (b : Nat) (w : World) (h0 : w.cell? ⟨b, 0, none⟩ = some (.pointer (some ⟨b, 0, none⟩))) :
  Calls Tryz.prog 100 #[.pointer (some ⟨b, 0, none⟩)] w fun e w' => e = .returned (.tuple #[]) ∧ w' = w := by
 obtain ⟨j, hj, _⟩ := Option.map_eq_some_iff.1 Bfh
 go_enter Tryz.func100, Tryz.ntmps100
 go_wp2
 rw [Lib.run_neq_ptr_same w _ Tryz.underlying78 hj]
 go_wp2
 go_end0
 exact ⟨rfl, rfl⟩
set_option maxHeartbeats 1000000 in
theorem A5z (b : Nat) (w : World) (h0 : w.cell? ⟨b, 0, none⟩ = some (.pointer none)) (hsh : w.shape? b = some (80, 2)) (hfz : w.frozen? ⟨b, 0, none⟩ = false) :
  Calls Tryz.prog 100 #[.pointer (some ⟨b, 0, none⟩)] w fun e w' => e = .returned (.tuple #[]) ∧ w' = w.setCell ⟨b, 0, none⟩ (.pointer (some ⟨b, 0, none⟩)) := by
 obtain ⟨j, hj, hjs⟩ := Option.map_eq_some_iff.1 Bfh
 go_enter Tryz.func100, Tryz.ntmps100
 go_wp2
 rw [Lib.run_to_unsafe w ⟨b, 0, none⟩ Tryz.underlying78 Tryz.underlying161 hj (by rw [hjs]; decide) hsh (Nat.zero_lt_succ 1)]
 simp only [Result.andThen]
 rw [Oper.upon_value]
 go_wp2
 rw [run_callFunc_extern Tryz.func158 (by kernel_rfl) (by kernel_rfl) (by kernel_rfl) (e := Extern.AbiNoEscape.same) (by kernel_rfl)]
 rw [Lib.run_noEscape]
 simp only [Result.andThen]
 rw [Oper.upon_value]
 go_wp2
 rw [Lib.run_from_unsafe w ⟨b, 0, none⟩ Tryz.underlying161 Tryz.underlying78 hj hsh Bw0]
 simp only [Result.andThen]
 rw [Oper.upon_value]
 go_wp2
 go_end0
 exact ⟨rfl, rfl⟩
theorem Alb (N : Nat) : Abc Tryz.prog 100 (Aiq N) :=
 ⟨Ccu A8v A5z, Tryz.f100, Tryz.func100, rfl, by decide⟩
theorem Ba9 (N : Nat) : Ac5 Tryz.prog (Auu N) := ⟨Alb N, trivial⟩
theorem A9m (N : Nat) : Abc Tryz.prog 56 (Aut N) :=
 ⟨Aa9 (fn := Tryz.f56) (c := Alk) (dom := (Aau [])) (rs := [.tmp 4]) mixed htt (Aae (Aam (Ba9 N))) (Aag rfl) Tryz.func56 rfl rfl (by kernel_rfl) (Aah (l := []) (by kernel_rfl) trivial) (by decide) (by decide) (by decide) (fun R x C => Ba8 N R x C), Tryz.f56, Tryz.func56, rfl, by decide⟩
theorem Bod (N : Nat) : Abc Tryz.prog 222 (Aqu N) :=
 ⟨Cct Tryz.strings_IndexByte, Tryz.f222, Tryz.func222, rfl, by decide⟩
theorem A7z (N : Nat) : Ac5 Tryz.prog (Arr N) := ⟨Alb N, trivial⟩
theorem Aq2 (N : Nat) : Abc Tryz.prog 56 (Ams N) :=
 ⟨Aa9 (fn := Tryz.f56) (c := Alk) (dom := (Aau [])) (rs := [.tmp 4]) mixed htt (Aae (Aam (A7z N))) (Aag rfl) Tryz.func56 rfl rfl (by kernel_rfl) (Aah (l := []) (by kernel_rfl) trivial) (by decide) (by decide) (by decide) (fun R x C => A7y N R x C), Tryz.f56, Tryz.func56, rfl, by decide⟩
theorem Ayu (N : Nat) : Abc Tryz.prog 57 (Ae3 N) :=
 ⟨Ck2 Tryz.lays169 Tryz.Builder_Extra_169, Tryz.f57, Tryz.func57, rfl, by decide⟩
theorem Bwc (N : Nat) : Ac5 Tryz.prog (Cfp N) := ⟨B0k rfl (A9m N) (Aq2 N), Bod N, Ayu N, trivial⟩
theorem B5y (N : Nat) : Ad4 Tryz.prog 41 [] (sub As6 [1, 1, 1, 0, 1, 0, 0]) (Aaa Als (Bbw N N)) :=
 Adi (c := sub As6 [1, 1, 1, 0, 1, 0, 0]) (dom := (Aau [9])) mixed htt (Aae (Aam (Bwc N))) (Aag rfl) (by kernel_rfl) (Aah (l := []) (by kernel_rfl) trivial) Bot (B := (fun _ _ _ => none)) (Ad4.none _ _ _ _) (fun _ _ _ => rfl) (fun R k x K => Cap @Abl @Aad @Af6 N R (fun a0 a1 a2 a3 => Af6 N k a0 a1 a2 a3 (fun a b => K .ret (Aab Axs ((a, b, ()), (())))) (fun a b => K (.exit 0) (Aab Axt ((a, (), ()), (((), (), ()), b, ()))))) x K) N
theorem B5z (N : Nat) : Aax Tryz.prog 41 [] (sub As6 [1, 1, 1, 0, 1, 0]) (Aaa Als (Bbw N N)) := (B5y N).frag
theorem Bsn (N : Nat) : Abc Tryz.prog 160 (Bkr N) :=
 ⟨Aa9 (fn := Tryz.f160) (c := As6) (dom := (Aau [9])) (rs := [.tmp 2, .tmp 3]) mixed htt (Aae (Aam (Bwc N))) (Aag rfl) Tryz.func160 rfl rfl (by kernel_rfl) (Aah (l := [(9, sub As6 [1, 1, 1, 0, 1, 0])]) (by kernel_rfl) ⟨⟨_, rfl, B5z N⟩, trivial⟩) (by decide) (by decide) (by decide) (fun R x C => Cf5 @Abl @Aad @Af6 N R x C), Tryz.f160, Tryz.func160, rfl, by decide⟩
theorem Caz (N : Nat) : Ac5 Tryz.prog (Bow N) := trivial
theorem Bmz (N : Nat) : Abc Tryz.prog 161 (Bby N) :=
 ⟨Aa9 (fn := Tryz.f161) (c := Bov) (dom := (Aau [])) (rs := [.cell 0 167]) mixed htt (Aae (Aam (Caz N))) (Aag rfl) Tryz.func161 rfl rfl (by kernel_rfl) (Aah (l := []) (by kernel_rfl) trivial) (by decide) (by decide) (by decide) (fun R x C => Cal N R x C), Tryz.f161, Tryz.func161, rfl, by decide⟩
theorem Cj5 (N : Nat) : Ac5 Tryz.prog (B1d N) := trivial
theorem A91 (N : Nat) : Abc Tryz.prog 224 (A58 N) :=
 ⟨Aa9 (fn := Tryz.f224) (c := B1c) (dom := (Aau [])) (rs := [.tmp 6]) mixed htt (Aae (Aam (Cj5 N))) (Aag rfl) Tryz.func224 rfl rfl (by kernel_rfl) (Aah (l := []) (by kernel_rfl) trivial) (by decide) (by decide) (by decide) (fun R x C => Cj1 N R x C), Tryz.f224, Tryz.func224, rfl, by decide⟩
theorem Ceo (N : Nat) : Ac5 Tryz.prog (Cd4 N) := ⟨A91 N, trivial⟩
theorem Bps (N : Nat) : Abc Tryz.prog 223 (Bfo N) :=
 ⟨Aa9 (fn := Tryz.f223) (c := Brt) (dom := (Aau [])) (rs := [.tmp 2]) mixed htt (Aae (Aam (Ceo N))) (Aag rfl) Tryz.func223 rfl rfl (by kernel_rfl) (Aah (l := []) (by kernel_rfl) trivial) (by decide) (by decide) (by decide) (fun R x C => Cen @Aa5 N R x C), Tryz.f223, Tryz.func223, rfl, by decide⟩
theorem Bjz (N : Nat) : Ac5 Tryz.prog (B1f N) := ⟨A91 N, Bps N, trivial⟩
theorem Bp5 (N : Nat) : Aax Tryz.prog 102 [] (sub Ars [1, 1, 1]) (Aaa Akd (Bak N)) :=
 Adn (dom := (Aau [42])) mixed htt (Aae (Aam (Bjz N))) (Aag rfl) (by kernel_rfl) (Aah (l := []) (by kernel_rfl) trivial) Baj (fun R x K => Bsm @Aa5 @Ae4 @Abr N R x K)
theorem Byo (N : Nat) : Abc Tryz.prog 162 (Bis N) :=
 ⟨Aa9 (fn := Tryz.f162) (c := Ars) (dom := (Aau [42])) (rs := [.tmp 6]) mixed htt (Aae (Aam (Bjz N))) (Aag rfl) Tryz.func162 rfl rfl (by kernel_rfl) (Aah (l := [(42, sub Ars [1, 1, 1])]) (by kernel_rfl) ⟨⟨_, rfl, Bp5 N⟩, trivial⟩) (by decide) (by decide) (by decide) (fun R x C => B2d @Aa5 @Ae4 @Abr N R x C), Tryz.f162, Tryz.func162, rfl, by decide⟩
theorem Bm0 (N : Nat) : Ac5 Tryz.prog (B4p N) := trivial
theorem Bub (N : Nat) : Ad4 Tryz.prog 74 [] (sub Ani [1, 1, 1, 0, 1, 0, 0]) (Aaa Aiv (A3n N N)) :=
 Adi (c := sub Ani [1, 1, 1, 0, 1, 0, 0]) (dom := (Aau [9])) mixed htt (Aae (Aam (Bm0 N))) (Aag rfl) (by kernel_rfl) (Aah (l := []) (by kernel_rfl) trivial) Bfr (B := (fun _ _ _ => none)) (Ad4.none _ _ _ _) (fun _ _ _ => rfl) (fun R k x K => Bxy @Aev N R (fun a0 a1 a2 a3 a4 a5 a6 a7 a8 a9 a10 a11 a12 => Aev N k a0 a1 a2 a3 a4 a5 a6 a7 a8 a9 a10 a11 a12 (fun a b d => K .ret (Aab Arw (((), (), a, ()), (b, d, ())))) (fun a b d e f g h i j m => K (.exit 0) (Aab Arx (((), (), (), a, b, ()), ((d, e, f, g, h, i, ()), j, m, ()))))) x K) N
theorem Buc (N : Nat) : Aax Tryz.prog 74 [] (sub Ani [1, 1, 1, 0, 1, 0]) (Aaa Aiv (A3n N N)) := (Bub N).frag
theorem Bj0 (N : Nat) : Abc Tryz.prog 163 (A8y N) :=
 ⟨Aa9 (fn := Tryz.f163) (c := Ani) (dom := (Aau [9])) (rs := [.tmp 2, .tmp 3, .tmp 4]) mixed htt (Aae (Aam (Bm0 N))) (Aag rfl) Tryz.func163 rfl rfl (by kernel_rfl) (Aah (l := [(9, sub Ani [1, 1, 1, 0, 1, 0])]) (by kernel_rfl) ⟨⟨_, rfl, Buc N⟩, trivial⟩) (by decide) (by decide) (by decide) (fun R x C => B5r @Aev N R x C), Tryz.f163, Tryz.func163, rfl, by decide⟩
theorem Bso (N : Nat) : Ac5 Tryz.prog (Cd6 N) := trivial
theorem Byp (N : Nat) : Aax Tryz.prog 39 [] (sub Ay9 [1, 0, 1, 0, 1]) (Aaa Amt (Biu N)) :=
 Adn (dom := (Aau [12])) mixed htt (Aae (Aam (Bso N))) (Aag rfl) (by kernel_rfl) (Aah (l := []) (by kernel_rfl) trivial) Bit (fun R x K => B2h @Aex N R x K)
theorem Bpt (N : Nat) : Abc Tryz.prog 170 (Bfx N) :=
 ⟨Aa9 (fn := Tryz.f170) (c := Ay9) (dom := (Aau [12])) (rs := [.tmp 4]) mixed htt (Aae (Aam (Bso N))) (Aag rfl) Tryz.func170 rfl rfl (by kernel_rfl) (Aah (l := [(12, sub Ay9 [1, 0, 1, 0, 1])]) (by kernel_rfl) ⟨⟨_, rfl, Byp N⟩, trivial⟩) (by decide) (by decide) (by decide) (fun R x C => Cei @Aex N R x C), Tryz.f170, Tryz.func170, rfl, by decide⟩
theorem A2y (N : Nat) : Ac5 Tryz.prog (B8x N) := ⟨Bpt N, trivial⟩
theorem Bud (N : Nat) : Ad4 Tryz.prog 132 [] (sub Af9 [1, 0, 1, 0, 0, 1, 0, 0, 1, 0, 1, 0, 1, 0, 0, 1, 0, 0]) (Aaa Ag2 (A3p N N)) :=
 Adi (c := sub Af9 [1, 0, 1, 0, 0, 1, 0, 0, 1, 0, 1, 0, 1, 0, 0, 1, 0, 0]) (dom := (Aau [17, 44, 5])) mixed htt (Aae (Aam (A2y N))) (Aag rfl) (by kernel_rfl) (Aah (l := []) (by kernel_rfl) trivial) Bft (B := (fun _ _ _ => none)) (Ad4.none _ _ _ _) (fun _ _ _ => rfl) (fun R k x K => Byf @Abu @Acu @Abj @Acf N R (fun a0 a1 a2 a3 => Acu N k a0 a1 a2 a3 (fun a => K .ret (Aab Ary ((a, ()), (())))) (fun a b => K (.exit 3) (Aab Arz ((a, b, ()), (()))))) x K) N
theorem Bue (N : Nat) : Aax Tryz.prog 132 [] (sub Af9 [1, 0, 1, 0, 0, 1, 0, 0, 1, 0, 1, 0, 1, 0, 0, 1, 0]) (Aaa Ag2 (A3p N N)) := (Bud N).frag
theorem Buf (N : Nat) : Aax Tryz.prog 132 [] (sub Af9 [1, 0, 1, 0, 0, 1, 0, 0, 1, 1]) (Aaa Aiw (Bfz N)) :=
 Adn (dom := (Aau [17, 44, 5])) mixed htt (Aae (Aam (A2y N))) (Aag rfl) (by kernel_rfl) (Aah (l := []) (by kernel_rfl) trivial) Bfy (fun R x K => Byg @Abu @Acu @Abj @Acf N R x K)
theorem Byq (N : Nat) : Ad4 Tryz.prog 132 [] (sub Af9 [1, 0, 1, 0, 0]) (Aaa Ahn (A6f N N)) :=
 Adi (c := sub Af9 [1, 0, 1, 0, 0]) (dom := (Aau [17, 44, 5])) mixed htt (Aae (Aam (A2y N))) (Aag rfl) (by kernel_rfl) (Aah (l := [(17, sub Af9 [1, 0, 1, 0, 0, 1, 0, 0, 1, 0, 1, 0, 1, 0, 0, 1, 0]), (44, sub Af9 [1, 0, 1, 0, 0, 1, 0, 0, 1, 1])]) (by kernel_rfl) ⟨⟨_, rfl, Bue N⟩, ⟨_, rfl, Buf N⟩, trivial⟩) Biv (B := (fun _ _ _ => none)) (Ad4.none _ _ _ _) (fun _ _ _ => rfl) (fun R k x K => B2c @Abu @Acu @Abj @Acf N R (fun a0 a1 => Acf N k a0 a1 (fun a => K .ret (Aab Atg ((a, ()), (())))) (fun a => K (.exit 0) (Aab Ath ((a, ()), (()))))) x K) N
theorem Byr (N : Nat) : Aax Tryz.prog 132 [] (sub Af9 [1, 0, 1, 0]) (Aaa Ahn (A6f N N)) := (Byq N).frag
theorem B50 (N : Nat) : Abc Tryz.prog 164 (Box N) :=
 ⟨Aa9 (fn := Tryz.f164) (c := Af9) (dom := (Aau [17, 44, 5])) (rs := [.tmp 2]) mixed htt (Aae (Aam (A2y N))) (Aag rfl) Tryz.func164 rfl rfl (by kernel_rfl) (Aah (l := [(5, sub Af9 [1, 0, 1, 0])]) (by kernel_rfl) ⟨⟨_, rfl, Byr N⟩, trivial⟩) (by decide) (by decide) (by decide) (fun R x C => Cab @Abu @Acu @Abj @Acf N R x C), Tryz.f164, Tryz.func164, rfl, by decide⟩
theorem B2u (N : Nat) : Ac5 Tryz.prog (B1i N) := ⟨Bps N, trivial⟩
theorem Bys (N : Nat) : Abc Tryz.prog 226 (Biy N) :=
 ⟨Aa9 (fn := Tryz.f226) (c := Bix) (dom := (Aau [])) (rs := [.tmp 2]) mixed htt (Aae (Aam (B2u N))) (Aag rfl) Tryz.func226 rfl rfl (by kernel_rfl) (Aah (l := []) (by kernel_rfl) trivial) (by decide) (by decide) (by decide) (fun R x C => B2t @Ae4 N R x C), Tryz.f226, Tryz.func226, rfl, by decide⟩
theorem Awv (N : Nat) : Ac5 Tryz.prog (Bb2 N) := ⟨Bys N, trivial⟩
theorem A8g (N : Nat) : Ad4 Tryz.prog 19 [] (sub Aga [1, 0, 1, 0, 0]) (Aaa Ad6 (Ann N N)) :=
 Adi (c := sub Aga [1, 0, 1, 0, 0]) (dom := (Aau [5])) mixed htt (Aae (Aam (Awv N))) (Aag rfl) (by kernel_rfl) (Aah (l := []) (by kernel_rfl) trivial) Aue (B := (fun _ _ _ => none)) (Ad4.none _ _ _ _) (fun _ _ _ => rfl) (fun R k x K => A9l @Afo @Aa7 N R (fun a0 a1 a2 => Aa7 N k a0 a1 a2 (fun a => K .ret (Aab Aj0 ((a, ()), (())))) (K (.exit 0) (Aab Aj1 ((()), (()))))) x K) N
theorem A8h (N : Nat) : Aax Tryz.prog 19 [] (sub Aga [1, 0, 1, 0]) (Aaa Ad6 (Ann N N)) := (A8g N).frag
theorem Bba (N : Nat) : Abc Tryz.prog 240 (Awk N) :=
 ⟨Aa9 (fn := Tryz.f240) (c := Aga) (dom := (Aau [5])) (rs := [.tmp 4]) mixed htt (Aae (Aam (Awv N))) (Aag rfl) Tryz.func240 rfl rfl (by kernel_rfl) (Aah (l := [(5, sub Aga [1, 0, 1, 0])]) (by kernel_rfl) ⟨⟨_, rfl, A8h N⟩, trivial⟩) (by decide) (by decide) (by decide) (fun R x C => Bdm @Afo @Aa7 N R x C), Tryz.f240, Tryz.func240, rfl, by decide⟩
theorem A8i (N : Nat) : Ac5 Tryz.prog (A8a N) := ⟨Bba N, trivial⟩
theorem A70 (N : Nat) : Abc Tryz.prog 225 (Ata N) :=
 ⟨Aa9 (fn := Tryz.f225) (c := As9) (dom := (Aau [])) (rs := [.tmp 4]) mixed htt (Aae (Aam (A8i N))) (Aag rfl) Tryz.func225 rfl rfl (by kernel_rfl) (Aah (l := []) (by kernel_rfl) trivial) (by decide) (by decide) (by decide) (fun R x C => A8f @Adl N R x C), Tryz.f225, Tryz.func225, rfl, by decide⟩
theorem Bdn (N : Nat) : Ac5 Tryz.prog (B81 N) := ⟨Bsn N, A70 N, A91 N, trivial⟩
theorem Bug (N : Nat) : Ad4 Tryz.prog 78 [] (sub Aic [1, 1, 1, 0, 1, 0, 0]) (Aaa Ahy (A3s N N)) :=
 Adi (c := sub Aic [1, 1, 1, 0, 1, 0, 0]) (dom := (Aau [5, 27])) mixed htt (Aae (Aam (Bdn N))) (Aag rfl) (by kernel_rfl) (Aah (l := []) (by kernel_rfl) trivial) Bf0 (B := (fun _ _ _ => none)) (Ad4.none _ _ _ _) (fun _ _ _ => rfl) (fun R k x K => Bxv @Ada @Aa0 @Aa5 @Ad1 @Ade N R (fun a0 a1 a2 a3 a4 a5 a6 a7 a8 a9 => Ade N k a0 a1 a2 a3 a4 a5 a6 a7 a8 a9 (fun a => K .ret (Aab Ar3 ((a, ()), (())))) (K (.exit 2) (Aab Ar4 ((()), (()))))) x K) N
theorem Buh (N : Nat) : Aax Tryz.prog 78 [] (sub Aic [1, 1, 1, 0, 1, 0]) (Aaa Ahy (A3s N N)) := (Bug N).frag
theorem Byt (N : Nat) : Ad4 Tryz.prog 78 [] (sub Aic [1, 0, 1, 0, 0]) (Aaa Aik (A6k N N)) :=
 Adi (c := sub Aic [1, 0, 1, 0, 0]) (dom := (Aau [5, 27])) mixed htt (Aae (Aam (Bdn N))) (Aag rfl) (by kernel_rfl) (Aah (l := []) (by kernel_rfl) trivial) Biz (B := (fun _ _ _ => none)) (Ad4.none _ _ _ _) (fun _ _ _ => rfl) (fun R k x K => B18 @Ada @Aa0 @Aa5 @Ad1 @Ade N R (fun a0 a1 a2 a3 a4 a5 a6 a7 a8 => Ad1 N k a0 a1 a2 a3 a4 a5 a6 a7 a8 (fun a => K .ret (Aab Atj ((a, ()), (())))) (fun a b d e f g => K (.exit 0) (Aab Atk (((), ()), ((a, b, d, e, f, g, ()), ()))))) x K) N
theorem Byu (N : Nat) : Aax Tryz.prog 78 [] (sub Aic [1, 0, 1, 0]) (Aaa Aik (A6k N N)) := (Byt N).frag
theorem B51 (N : Nat) : Abc Tryz.prog 165 (Boy N) :=
 ⟨Aa9 (fn := Tryz.f165) (c := Aic) (dom := (Aau [5, 27])) (rs := [.tmp 2]) mixed htt (Aae (Aam (Bdn N))) (Aag rfl) Tryz.func165 rfl rfl (by kernel_rfl) (Aah (l := [(5, sub Aic [1, 0, 1, 0]), (27, sub Aic [1, 1, 1, 0, 1, 0])]) (by kernel_rfl) ⟨⟨_, rfl, Byu N⟩, ⟨_, rfl, Buh N⟩, trivial⟩) (by decide) (by decide) (by decide) (fun R x C => B99 @Ada @Aa0 @Aa5 @Ad1 @Ade N R x C), Tryz.f165, Tryz.func165, rfl, by decide⟩
theorem Bpu (N : Nat) : Ac5 Tryz.prog (B83 N) := trivial
theorem Bui (N : Nat) : Aax Tryz.prog 17 [] (sub Awm [1, 0, 1, 0, 1]) (Aaa Alx (Bf3 N)) :=
 Adn (dom := (Aau [14])) mixed htt (Aae (Aam (Bpu N))) (Aag rfl) (by kernel_rfl) (Aah (l := []) (by kernel_rfl) trivial) Bf2 (fun R x K => Bym @Ad7 N R x K)
theorem Bm1 (N : Nat) : Abc Tryz.prog 166 (Bb7 N) :=
 ⟨Aa9 (fn := Tryz.f166) (c := Awm) (dom := (Aau [14])) (rs := [.tmp 2]) mixed htt (Aae (Aam (Bpu N))) (Aag rfl) Tryz.func166 rfl rfl (by kernel_rfl) (Aah (l := [(14, sub Awm [1, 0, 1, 0, 1])]) (by kernel_rfl) ⟨⟨_, rfl, Bui N⟩, trivial⟩) (by decide) (by decide) (by decide) (fun R x C => Cau @Ad7 N R x C), Tryz.f166, Tryz.func166, rfl, by decide⟩
theorem A2z (N : Nat) : Ac5 Tryz.prog (B85 N) := ⟨Bsn N, Bmz N, Byo N, Bj0 N, B50 N, B51 N, Bm1 N, trivial⟩
theorem Buj (N : Nat) : Aax Tryz.prog 111 [] (sub Af8 [1, 1, 1, 1, 1, 1, 1, 0, 1, 0, 0, 1, 1, 0, 0, 1, 1]) (Aaa Aix (Bf5 N)) :=
 Adn (dom := (Aau [13, 40, 33])) mixed htt (Aae (Aam (A2z N))) (Aag rfl) (by kernel_rfl) (Aah (l := []) (by kernel_rfl) trivial) Bf4 (fun R x K => Bx7 @Ada @Acj @Ads @Abv @Aej @Aek @Ab0 @Ac9 @Adf @Acv N R x K)
theorem Buk (N : Nat) : Ad4 Tryz.prog 111 [] (sub Af8 [1, 1, 1, 1, 1, 1, 1, 0, 1, 0, 0]) (Aaa Ag3 (A3x N N)) :=
 Adi (c := sub Af8 [1, 1, 1, 1, 1, 1, 1, 0, 1, 0, 0]) (dom := (Aau [13, 40, 33])) mixed htt (Aae (Aam (A2z N))) (Aag rfl) (by kernel_rfl) (Aah (l := [(40, sub Af8 [1, 1, 1, 1, 1, 1, 1, 0, 1, 0, 0, 1, 1, 0, 0, 1, 1])]) (by kernel_rfl) ⟨⟨_, rfl, Buj N⟩, trivial⟩) Bf6 (B := (fun _ _ _ => none)) (Ad4.none _ _ _ _) (fun _ _ _ => rfl) (fun R k x K => Bxq @Ada @Acj @Ads @Abv @Aej @Aek @Ab0 @Ac9 @Adf @Acv N R (fun a0 a1 a2 a3 a4 a5 => Acv N k a0 a1 a2 a3 a4 a5 (fun a => K .ret (Aab Ar5 ((a, ()), (())))) (K (.exit 2) (Aab Ar6 ((()), (()))))) x K) N
theorem Bul (N : Nat) : Aax Tryz.prog 111 [] (sub Af8 [1, 1, 1, 1, 1, 1, 1, 0, 1, 0]) (Aaa Ag3 (A3x N N)) := (Buk N).frag
theorem Bum (N : Nat) : Ad4 Tryz.prog 111 [] (sub Af8 [1, 1, 1, 0, 1, 0, 0]) (Aaa Ag1 (A3j N N)) :=
 Adi (c := sub Af8 [1, 1, 1, 0, 1, 0, 0]) (dom := (Aau [13, 40, 33])) mixed htt (Aae (Aam (A2z N))) (Aag rfl) (by kernel_rfl) (Aah (l := []) (by kernel_rfl) trivial) Bfp (B := (fun _ _ _ => none)) (Ad4.none _ _ _ _) (fun _ _ _ => rfl) (fun R k x K => Bxp @Ada @Acj @Ads @Abv @Aej @Aek @Ab0 @Ac9 @Adf @Acv N R (fun a0 a1 a2 a3 a4 a5 a6 a7 a8 a9 => Ac9 N k a0 a1 a2 a3 a4 a5 a6 a7 a8 a9 (fun a => K .ret (Aab Aru ((a, ()), (())))) (fun a b d e f g => K (.exit 0) (Aab Arv (((), ()), ((a, b, d, e, f, g, ()), ()))))) x K) N
theorem Bun (N : Nat) : Aax Tryz.prog 111 [] (sub Af8 [1, 1, 1, 0, 1, 0]) (Aaa Ag1 (A3j N N)) := (Bum N).frag
theorem B52 (N : Nat) : Abc Tryz.prog 104 (Bo0 N) :=
 ⟨Aa9 (fn := Tryz.f104) (c := Af8) (dom := (Aau [13, 40, 33])) (rs := [.tmp 2]) mixed htt (Aae (Aam (A2z N))) (Aag rfl) Tryz.func104 rfl rfl (by kernel_rfl) (Aah (l := [(13, sub Af8 [1, 1, 1, 0, 1, 0]), (33, sub Af8 [1, 1, 1, 1, 1, 1, 1, 0, 1, 0])]) (by kernel_rfl) ⟨⟨_, rfl, Bun N⟩, ⟨_, rfl, Bul N⟩, trivial⟩) (by decide) (by decide) (by decide) (fun R x C => Can @Ada @Acj @Ads @Abv @Aej @Aek @Ab0 @Ac9 @Adf @Acv N R x C), Tryz.f104, Tryz.func104, rfl, by decide⟩
theorem Bhz (N : Nat) : Ac5 Tryz.prog (Cd8 N) := ⟨A91 N, trivial⟩
theorem B2v (N : Nat) : Aax Tryz.prog 55 [] (sub Aok [1, 0, 1, 0, 1]) (Aaa Al9 (Bl3 N)) :=
 Adn (dom := (Aau [8, 30])) mixed htt (Aae (Aam (Bhz N))) (Aag rfl) (by kernel_rfl) (Aah (l := []) (by kernel_rfl) trivial) Bl2 (fun R x K => B5i @Aa5 @Afj @Aep N R x K)
theorem Byv (N : Nat) : Aax Tryz.prog 55 [] (sub Aok [1, 1]) (Aaa Aln (Bi2 N)) :=
 Adn (dom := (Aau [8, 30])) mixed htt (Aae (Aam (Bhz N))) (Aag rfl) (by kernel_rfl) (Aah (l := []) (by kernel_rfl) trivial) Bi1 (fun R x K => B2p @Aa5 @Afj @Aep N R x K)
theorem Ca0 (N : Nat) : Abc Tryz.prog 167 (Bru N) :=
 ⟨Aa9 (fn := Tryz.f167) (c := Aok) (dom := (Aau [8, 30])) (rs := [.tmp 8]) mixed htt (Aae (Aam (Bhz N))) (Aag rfl) Tryz.func167 rfl rfl (by kernel_rfl) (Aah (l := [(8, sub Aok [1, 0, 1, 0, 1]), (30, sub Aok [1, 1])]) (by kernel_rfl) ⟨⟨_, rfl, B2v N⟩, ⟨_, rfl, Byv N⟩, trivial⟩) (by decide) (by decide) (by decide) (fun R x C => Ceh @Aa5 @Afj @Aep N R x C), Tryz.f167, Tryz.func167, rfl, by decide⟩
theorem Bdo (N : Nat) : Ac5 Tryz.prog (B87 N) := trivial
theorem Buo (N : Nat) : Aax Tryz.prog 32 [] (sub Am4 [1, 0, 1, 0, 1]) (Aaa Akh (Bgc N)) :=
 Adn (dom := (Aau [16, 18])) mixed htt (Aae (Aam (Bdo N))) (Aag rfl) (by kernel_rfl) (Aah (l := []) (by kernel_rfl) trivial) Bgb (fun R x K => Bx4 @Ad8 @Aeh N R x K)
theorem Bup (N : Nat) : Aax Tryz.prog 32 [] (sub Am4 [1, 1]) (Aaa Aki (Bge N)) :=
 Adn (dom := (Aau [16, 18])) mixed htt (Aae (Aam (Bdo N))) (Aag rfl) (by kernel_rfl) (Aah (l := []) (by kernel_rfl) trivial) Bgd (fun R x K => Bx3 @Ad8 @Aeh N R x K)
theorem B53 (N : Nat) : Abc Tryz.prog 168 (Bo1 N) :=
 ⟨Aa9 (fn := Tryz.f168) (c := Am4) (dom := (Aau [16, 18])) (rs := [.tmp 6]) mixed htt (Aae (Aam (Bdo N))) (Aag rfl) Tryz.func168 rfl rfl (by kernel_rfl) (Aah (l := [(16, sub Am4 [1, 0, 1, 0, 1]), (18, sub Am4 [1, 1])]) (by kernel_rfl) ⟨⟨_, rfl, Buo N⟩, ⟨_, rfl, Bup N⟩, trivial⟩) (by decide) (by decide) (by decide) (fun R x C => Cac @Ad8 @Aeh N R x C), Tryz.f168, Tryz.func168, rfl, by decide⟩
theorem Bpv (N : Nat) : Ac5 Tryz.prog (B89 N) := trivial
theorem Byw (N : Nat) : Ad4 Tryz.prog 14 [] (sub Ao9 [1, 0, 0, 0]) (Aaa Aj2 (A6o N N)) :=
 Adi (c := sub Ao9 [1, 0, 0, 0]) (dom := (Aau [3])) mixed htt (Aae (Aam (Bpv N))) (Aag rfl) (by kernel_rfl) (Aah (l := []) (by kernel_rfl) trivial) Bi3 (B := (fun _ _ _ => none)) (Ad4.none _ _ _ _) (fun _ _ _ => rfl) (fun R k x K => B2f @Ae6 N R (fun a0 a1 => Ae6 N k a0 a1 (fun a => K (.exit 0) (Aab Atl ((a, ()), (()))))) x K) N
theorem Byx (N : Nat) : Aax Tryz.prog 14 [] (sub Ao9 [1, 0, 0]) (Aaa Aj2 (A6o N N)) := (Byw N).frag
theorem B54 (N : Nat) : Abc Tryz.prog 169 (Bo2 N) :=
 ⟨Aa9 (fn := Tryz.f169) (c := Ao9) (dom := (Aau [3])) (rs := [.tmp 4]) mixed htt (Aae (Aam (Bpv N))) (Aag rfl) Tryz.func169 rfl rfl (by kernel_rfl) (Aah (l := [(3, sub Ao9 [1, 0, 0])]) (by kernel_rfl) ⟨⟨_, rfl, Byx N⟩, trivial⟩) (by decide) (by decide) (by decide) (fun R x C => Cak @Ae6 N R x C), Tryz.f169, Tryz.func169, rfl, by decide⟩
theorem Bj1 (N : Nat) : Ac5 Tryz.prog (B1l N) := ⟨Bmz N, Bj0 N, Ca0 N, B53 N, Bm1 N, B54 N, Bpt N, trivial⟩
theorem Bp6 (N : Nat) : Ad4 Tryz.prog 114 [] (sub Amu [1, 1, 1, 1, 0, 1, 0, 0]) (Aaa Aho (Azl N N)) :=
 Adi (c := sub Amu [1, 1, 1, 1, 0, 1, 0, 0]) (dom := (Aau [11])) mixed htt (Aae (Aam (Bj1 N))) (Aag rfl) (by kernel_rfl) (Aah (l := []) (by kernel_rfl) trivial) Bal (B := (fun _ _ _ => none)) (Ad4.none _ _ _ _) (fun _ _ _ => rfl) (fun R k x K => Bse @Acj @Abv @Af5 @Aft @Ab0 @Adu @Abu @Adk N R (fun a0 a1 a2 a3 a4 a5 a6 a7 a8 a9 a10 a11 => Adk N k a0 a1 a2 a3 a4 a5 a6 a7 a8 a9 a10 a11 (fun a => K .ret (Aab Apo ((a, ()), (())))) (K (.exit 0) (Aab App ((()), (()))))) x K) N
theorem Bp7 (N : Nat) : Aax Tryz.prog 114 [] (sub Amu [1, 1, 1, 1, 0, 1, 0]) (Aaa Aho (Azl N N)) := (Bp6 N).frag
theorem Byy (N : Nat) : Abc Tryz.prog 105 (Bi6 N) :=
 ⟨Aa9 (fn := Tryz.f105) (c := Amu) (dom := (Aau [11])) (rs := [.tmp 2]) mixed htt (Aae (Aam (Bj1 N))) (Aag rfl) Tryz.func105 rfl rfl (by kernel_rfl) (Aah (l := [(11, sub Amu [1, 1, 1, 1, 0, 1, 0])]) (by kernel_rfl) ⟨⟨_, rfl, Bp7 N⟩, trivial⟩) (by decide) (by decide) (by decide) (fun R x C => B2m @Acj @Abv @Af5 @Aft @Ab0 @Adu @Abu @Adk N R x C), Tryz.f105, Tryz.func105, rfl, by decide⟩
theorem Ca1 (N : Nat) : Ac5 Tryz.prog (B9b N) := ⟨B5x N, B52 N, Byy N, trivial⟩
theorem B55 (N : Nat) : Abc Tryz.prog 62 (Bo3 N) :=
 ⟨Aa9 (fn := Tryz.f62) (c := Boq) (dom := (Aau [])) (rs := [.tmp 2]) mixed htt (Aae (Aam (Ca1 N))) (Aag rfl) Tryz.func62 rfl rfl (by kernel_rfl) (Aah (l := []) (by kernel_rfl) trivial) (by decide) (by decide) (by decide) (fun R x C => Cad @Ajn @Ajo @Ahj N R x C), Tryz.f62, Tryz.func62, rfl, by decide⟩
theorem Bwd (N : Nat) : Ac5 Tryz.prog (Cfr N) := trivial
theorem B56 (N : Nat) : Aax Tryz.prog 37 [] (sub A18 [1, 0, 1, 0, 1]) (Aaa Apb (Bo5 N)) :=
 Adn (dom := (Aau [8])) mixed htt (Aae (Aam (Bwd N))) (Aag rfl) (by kernel_rfl) (Aah (l := []) (by kernel_rfl) trivial) Bo4 (fun R x K => Cai @Ahd N R x K)
theorem Cep (N : Nat) : Abc Tryz.prog 76 (Bv3 N) :=
 ⟨Aa9 (fn := Tryz.f76) (c := A18) (dom := (Aau [8])) (rs := [.tmp 4]) mixed htt (Aae (Aam (Bwd N))) (Aag rfl) Tryz.func76 rfl rfl (by kernel_rfl) (Aah (l := [(8, sub A18 [1, 0, 1, 0, 1])]) (by kernel_rfl) ⟨⟨_, rfl, B56 N⟩, trivial⟩) (by decide) (by decide) (by decide) (fun R x C => Cf8 @Ahd N R x C), Tryz.f76, Tryz.func76, rfl, by decide⟩
theorem B57 (N : Nat) : Ac5 Tryz.prog (B4s N) := ⟨Cep N, trivial⟩
theorem B2w (N : Nat) : Abc Tryz.prog 75 (Bl5 N) :=
 ⟨Aa9 (fn := Tryz.f75) (c := Bl4) (dom := (Aau [])) (rs := [.tmp 3]) mixed htt (Aae (Aam (B57 N))) (Aag rfl) Tryz.func75 rfl rfl (by kernel_rfl) (Aah (l := []) (by kernel_rfl) trivial) (by decide) (by decide) (by decide) (fun R x C => B5s @Ama N R x C), Tryz.f75, Tryz.func75, rfl, by decide⟩
theorem B58 (N : Nat) : Ac5 Tryz.prog (Bl8 N) := trivial
theorem B2x (N : Nat) : Abc Tryz.prog 74 (Bl7 N) :=
 ⟨Aa9 (fn := Tryz.f74) (c := Bl6) (dom := (Aau [])) (rs := [.tmp 3]) mixed htt (Aae (Aam (B58 N))) (Aag rfl) Tryz.func74 rfl rfl (by kernel_rfl) (Aah (l := []) (by kernel_rfl) trivial) (by decide) (by decide) (by decide) (fun R x C => B5l N R x C), Tryz.f74, Tryz.func74, rfl, by decide⟩
theorem Bh0 (N : Nat) : Ac5 Tryz.prog (Cea N) := ⟨B55 N, B2w N, B2x N, trivial⟩
theorem Byz (N : Nat) : Ad4 Tryz.prog 123 [] (sub Ajb [1, 1, 1, 1, 1, 1, 0, 1, 0, 0]) (Aaa Ail (A6v N N)) :=
 Adi (c := sub Ajb [1, 1, 1, 1, 1, 1, 0, 1, 0, 0]) (dom := (Aau [11, 35])) mixed htt (Aae (Aam (Bh0 N))) (Aag rfl) (by kernel_rfl) (Aah (l := []) (by kernel_rfl) trivial) Bi7 (B := (fun _ _ _ => none)) (Ad4.none _ _ _ _) (fun _ _ _ => rfl) (fun R k x K => B2j @Afu @Adx @Afk @Ad0 @Ad2 N R (fun a0 a1 a2 a3 a4 a5 a6 a7 a8 a9 a10 a11 a12 => Ad2 N k a0 a1 a2 a3 a4 a5 a6 a7 a8 a9 a10 a11 a12 (fun a b d e f g h => K .ret (Aab Atn ((a, b, ()), ((d, e, f, g, h, ()), ())))) (fun a b d e f => K (.exit 3) (Aab Ato ((()), ((a, b, d, e, f, ()), ()))))) x K) N
theorem By0 (N : Nat) : Aax Tryz.prog 123 [] (sub Ajb [1, 1, 1, 1, 1, 1, 0, 1, 0]) (Aaa Ail (A6v N N)) := (Byz N).frag
theorem By1 (N : Nat) : Ad4 Tryz.prog 123 [] (sub Ajb [1, 1, 1, 0, 1, 0, 0]) (Aaa Aij (A53 N N)) :=
 Adi (c := sub Ajb [1, 1, 1, 0, 1, 0, 0]) (dom := (Aau [11, 35])) mixed htt (Aae (Aam (Bh0 N))) (Aag rfl) (by kernel_rfl) (Aah (l := []) (by kernel_rfl) trivial) Biq (B := (fun _ _ _ => none)) (Ad4.none _ _ _ _) (fun _ _ _ => rfl) (fun R k x K => B16 @Afu @Adx @Afk @Ad0 @Ad2 N R (fun a0 a1 a2 a3 a4 a5 a6 a7 a8 a9 a10 a11 a12 a13 a14 a15 a16 a17 => Ad0 N k a0 a1 a2 a3 a4 a5 a6 a7 a8 a9 a10 a11 a12 a13 a14 a15 a16 a17 (fun a b d e f g h i j m n o p q r s => K (.exit 0) (Aab Ate (((), (), (), (), ()), ((a, b, d, e, f, ()), (g, h, i, j, m, ()), (n, o, (), p, q, r, ()), s, ()))))) x K) N
theorem By2 (N : Nat) : Aax Tryz.prog 123 [] (sub Ajb [1, 1, 1, 0, 1, 0]) (Aaa Aij (A53 N N)) := (By1 N).frag
theorem Ca2 (N : Nat) : Abc Tryz.prog 27 (Brv N) :=
 ⟨Aa9 (fn := Tryz.f27) (c := Ajb) (dom := (Aau [11, 35])) (rs := [.tmp 6, .tmp 7]) mixed htt (Aae (Aam (Bh0 N))) (Aag rfl) Tryz.func27 rfl rfl (by kernel_rfl) (Aah (l := [(11, sub Ajb [1, 1, 1, 0, 1, 0]), (35, sub Ajb [1, 1, 1, 1, 1, 1, 0, 1, 0])]) (by kernel_rfl) ⟨⟨_, rfl, By2 N⟩, ⟨_, rfl, By0 N⟩, trivial⟩) (by decide) (by decide) (by decide) (fun R x C => Cek @Afu @Adx @Afk @Ad0 @Ad2 N R x C), Tryz.f27, Tryz.func27, rfl, by decide⟩
theorem A92 (N : Nat) : Ac5 Tryz.prog (Cft N) := trivial
theorem B2y (N : Nat) : Aax Tryz.prog 57 [] (sub Alq [1, 0, 1, 0, 1, 1, 1, 1, 1, 1, 1]) (Aaa Ak2 (Bma N)) :=
 Adn (dom := (Aau [24, 18, 12])) mixed htt (Aae (Aam (A92 N))) (Aag rfl) (by kernel_rfl) (Aah (l := []) (by kernel_rfl) trivial) Bl9 (fun R x K => B5q @Aeb @Ael @Aem N R x K)
theorem B2z (N : Nat) : Aax Tryz.prog 57 [] (sub Alq [1, 0, 1, 0, 1, 1, 1, 1, 1]) (Aaa Ak3 (Bmc N)) :=
 Adn (dom := (Aau [24, 18, 12])) mixed htt (Aae (Aam (A92 N))) (Aag rfl) (by kernel_rfl) (Aah (l := [(24, sub Alq [1, 0, 1, 0, 1, 1, 1, 1, 1, 1, 1])]) (by kernel_rfl) ⟨⟨_, rfl, B2y N⟩, trivial⟩) Bmb (fun R x K => B5j @Aeb @Ael @Aem N R x K)
theorem B20 (N : Nat) : Aax Tryz.prog 57 [] (sub Alq [1, 0, 1, 0, 1, 1, 1]) (Aaa Ak4 (Bme N)) :=
 Adn (dom := (Aau [24, 18, 12])) mixed htt (Aae (Aam (A92 N))) (Aag rfl) (by kernel_rfl) (Aah (l := [(18, sub Alq [1, 0, 1, 0, 1, 1, 1, 1, 1])]) (by kernel_rfl) ⟨⟨_, rfl, B2z N⟩, trivial⟩) Bmd (fun R x K => B5k @Aeb @Ael @Aem N R x K)
theorem Ceq (N : Nat) : Abc Tryz.prog 66 (Bv4 N) :=
 ⟨Aa9 (fn := Tryz.f66) (c := Alq) (dom := (Aau [24, 18, 12])) (rs := [.tmp 6]) mixed htt (Aae (Aam (A92 N))) (Aag rfl) Tryz.func66 rfl rfl (by kernel_rfl) (Aah (l := [(12, sub Alq [1, 0, 1, 0, 1, 1, 1])]) (by kernel_rfl) ⟨⟨_, rfl, B20 N⟩, trivial⟩) (by decide) (by decide) (by decide) (fun R x C => Cf6 @Aeb @Ael @Aem N R x C), Tryz.f66, Tryz.func66, rfl, by decide⟩
theorem Bwe (N : Nat) : Ac5 Tryz.prog (Cfv N) := ⟨Ceq N, trivial⟩
theorem B59 (N : Nat) : Aax Tryz.prog 19 [] (sub A2a [1, 1]) (Aaa Apc (Bo7 N)) :=
 Adn (dom := (Aau [6])) mixed htt (Aae (Aam (Bwe N))) (Aag rfl) (by kernel_rfl) (Aah (l := []) (by kernel_rfl) trivial) Bo6 (fun R x K => Caf @Aju @Ahe N R x K)
theorem Cer (N : Nat) : Abc Tryz.prog 131 (Bv5 N) :=
 ⟨Aa9 (fn := Tryz.f131) (c := A2a) (dom := (Aau [6])) (rs := [.tmp 6]) mixed htt (Aae (Aam (Bwe N))) (Aag rfl) Tryz.func131 rfl rfl (by kernel_rfl) (Aah (l := [(6, sub A2a [1, 1])]) (by kernel_rfl) ⟨⟨_, rfl, B59 N⟩, trivial⟩) (by decide) (by decide) (by decide) (fun R x C => Cga @Aju @Ahe N R x C), Tryz.f131, Tryz.func131, rfl, by decide⟩
theorem B21 (N : Nat) : Ac5 Tryz.prog (Bjb N) := trivial
theorem By3 (N : Nat) : Abc Tryz.prog 132 (Bja N) :=
 ⟨Aa9 (fn := Tryz.f132) (c := Bi9) (dom := (Aau [])) (rs := [.tmp 2]) mixed htt (Aae (Aam (B21 N))) (Aag rfl) Tryz.func132 rfl rfl (by kernel_rfl) (Aah (l := []) (by kernel_rfl) trivial) (by decide) (by decide) (by decide) (fun R x C => B2i N R x C), Tryz.f132, Tryz.func132, rfl, by decide⟩
theorem Ca3 (N : Nat) : Ac5 Tryz.prog (Bpa N) := trivial
theorem B6a (N : Nat) : Abc Tryz.prog 130 (Bo9 N) :=
 ⟨Aa9 (fn := Tryz.f130) (c := Bo8) (dom := (Aau [])) (rs := [.tmp 3]) mixed htt (Aae (Aam (Ca3 N))) (Aag rfl) Tryz.func130 rfl rfl (by kernel_rfl) (Aah (l := []) (by kernel_rfl) trivial) (by decide) (by decide) (by decide) (fun R x C => Cay N R x C), Tryz.f130, Tryz.func130, rfl, by decide⟩
theorem A2d (N : Nat) : Ac5 Tryz.prog (Cfx N) := ⟨Cer N, By3 N, B6a N, trivial⟩
theorem B22 (N : Nat) : Aax Tryz.prog 216 [] (sub Aim [1, 1, 1, 1, 1, 0, 1, 0, 1, 1, 1, 1, 1, 1, 1, 1, 1, 1, 1, 1, 1, 1, 1, 1, 1, 1, 1, 1, 1]) (Aaa Ajp (Bmg N)) :=
 Adn (dom := (Aau [62, 40, 18, 64])) mixed htt (Aae (Aam (A2d N))) (Aag rfl) (by kernel_rfl) (Aah (l := []) (by kernel_rfl) trivial) Bmf (fun R x K => B5o @Ae1 @Abg @Acp @Adq @Adr @Ac1 @Ac2 N R x K)
theorem B23 (N : Nat) : Aax Tryz.prog 216 [] (sub Aim [1, 1, 1, 1, 1, 0, 1, 0, 1, 1, 1, 1, 1, 1, 1, 1, 1, 1, 1]) (Aaa Ajq (Bmi N)) :=
 Adn (dom := (Aau [62, 40, 18, 64])) mixed htt (Aae (Aam (A2d N))) (Aag rfl) (by kernel_rfl) (Aah (l := [(62, sub Aim [1, 1, 1, 1, 1, 0, 1, 0, 1, 1, 1, 1, 1, 1, 1, 1, 1, 1, 1, 1, 1, 1, 1, 1, 1, 1, 1, 1, 1])]) (by kernel_rfl) ⟨⟨_, rfl, B22 N⟩, trivial⟩) Bmh (fun R x K => B5g @Ae1 @Abg @Acp @Adq @Adr @Ac1 @Ac2 N R x K)
theorem B24 (N : Nat) : Aax Tryz.prog 216 [] (sub Aim [1, 1, 1, 1, 1, 0, 1, 0, 1]) (Aaa Ajr (Bmk N)) :=
 Adn (dom := (Aau [62, 40, 18, 64])) mixed htt (Aae (Aam (A2d N))) (Aag rfl) (by kernel_rfl) (Aah (l := [(40, sub Aim [1, 1, 1, 1, 1, 0, 1, 0, 1, 1, 1, 1, 1, 1, 1, 1, 1, 1, 1])]) (by kernel_rfl) ⟨⟨_, rfl, B23 N⟩, trivial⟩) Bmj (fun R x K => B5f @Ae1 @Abg @Acp @Adq @Adr @Ac1 @Ac2 N R x K)
theorem B25 (N : Nat) : Aax Tryz.prog 216 [] (sub Aim [1, 1, 1, 1, 1, 1]) (Aaa Ajs (Bmm N)) :=
 Adn (dom := (Aau [62, 40, 18, 64])) mixed htt (Aae (Aam (A2d N))) (Aag rfl) (by kernel_rfl) (Aah (l := []) (by kernel_rfl) trivial) Bml (fun R x K => B5h @Ae1 @Abg @Acp @Adq @Adr @Ac1 @Ac2 N R x K)
theorem Ces (N : Nat) : Abc Tryz.prog 77 (Bv6 N) :=
 ⟨Aa9 (fn := Tryz.f77) (c := Aim) (dom := (Aau [62, 40, 18, 64])) (rs := [.tmp 4]) mixed htt (Aae (Aam (A2d N))) (Aag rfl) Tryz.func77 rfl rfl (by kernel_rfl) (Aah (l := [(18, sub Aim [1, 1, 1, 1, 1, 0, 1, 0, 1]), (64, sub Aim [1, 1, 1, 1, 1, 1])]) (by kernel_rfl) ⟨⟨_, rfl, B24 N⟩, ⟨_, rfl, B25 N⟩, trivial⟩) (by decide) (by decide) (by decide) (fun R x C => Cf4 @Ae1 @Abg @Acp @Adq @Adr @Ac1 @Ac2 N R x C), Tryz.f77, Tryz.func77, rfl, by decide⟩
theorem B6b (N : Nat) : Ac5 Tryz.prog (Bmp N) := trivial
theorem B26 (N : Nat) : Abc Tryz.prog 78 (Bmo N) :=
 ⟨Aa9 (fn := Tryz.f78) (c := Bmn) (dom := (Aau [])) (rs := [.tmp 2]) mixed htt (Aae (Aam (B6b N))) (Aag rfl) Tryz.func78 rfl rfl (by kernel_rfl) (Aah (l := []) (by kernel_rfl) trivial) (by decide) (by decide) (by decide) (fun R x C => B5t N R x C), Tryz.f78, Tryz.func78, rfl, by decide⟩
theorem A71 (N : Nat) : Ac5 Tryz.prog (B1q N) := ⟨B26 N, trivial⟩
theorem Bp8 (N : Nat) : Ad4 Tryz.prog 77 [] (sub Agy [1, 0, 1, 0, 0, 1, 0, 0, 1, 0, 1, 0, 1, 0, 1, 0, 0]) (Aaa Agm (Azn N N)) :=
 Adi (c := sub Agy [1, 0, 1, 0, 0, 1, 0, 0, 1, 0, 1, 0, 1, 0, 1, 0, 0]) (dom := (Aau [17, 5])) mixed htt (Aae (Aam (A71 N))) (Aag rfl) (by kernel_rfl) (Aah (l := []) (by kernel_rfl) trivial) Bam (B := (fun _ _ _ => none)) (Ad4.none _ _ _ _) (fun _ _ _ => rfl) (fun R k x K => Bsi @Afl @Acq @Ac7 N R (fun a0 a1 a2 a3 a4 a5 a6 => Acq N k a0 a1 a2 a3 a4 a5 a6 (fun a => K .ret (Aab Apq ((a, ()), (())))) (fun a b d e f => K (.exit 3) (Aab Apr ((a, b, d, (), e, f, ()), (()))))) x K) N
theorem Bp9 (N : Nat) : Aax Tryz.prog 77 [] (sub Agy [1, 0, 1, 0, 0, 1, 0, 0, 1, 0, 1, 0, 1, 0, 1, 0]) (Aaa Agm (Azn N N)) := (Bp8 N).frag
theorem Bsp (N : Nat) : Ad4 Tryz.prog 77 [] (sub Agy [1, 0, 1, 0, 0]) (Aaa Ahf (A1s N N)) :=
 Adi (c := sub Agy [1, 0, 1, 0, 0]) (dom := (Aau [17, 5])) mixed htt (Aae (Aam (A71 N))) (Aag rfl) (by kernel_rfl) (Aah (l := [(17, sub Agy [1, 0, 1, 0, 0, 1, 0, 0, 1, 0, 1, 0, 1, 0, 1, 0])]) (by kernel_rfl) ⟨⟨_, rfl, Bp9 N⟩, trivial⟩) Bdv (B := (fun _ _ _ => none)) (Ad4.none _ _ _ _) (fun _ _ _ => rfl) (fun R k x K => Bt5 @Afl @Acq @Ac7 N R (fun a0 a1 a2 a3 => Ac7 N k a0 a1 a2 a3 (fun a => K .ret (Aab Aqv ((a, ()), (())))) (K (.exit 0) (Aab Aqw ((()), (()))))) x K) N
theorem Bsq (N : Nat) : Aax Tryz.prog 77 [] (sub Agy [1, 0, 1, 0]) (Aaa Ahf (A1s N N)) := (Bsp N).frag
theorem By4 (N : Nat) : Abc Tryz.prog 32 (Bje N) :=
 ⟨Aa9 (fn := Tryz.f32) (c := Agy) (dom := (Aau [17, 5])) (rs := [.tmp 8]) mixed htt (Aae (Aam (A71 N))) (Aag rfl) Tryz.func32 rfl rfl (by kernel_rfl) (Aah (l := [(5, sub Agy [1, 0, 1, 0])]) (by kernel_rfl) ⟨⟨_, rfl, Bsq N⟩, trivial⟩) (by decide) (by decide) (by decide) (fun R x C => B2e @Afl @Acq @Ac7 N R x C), Tryz.f32, Tryz.func32, rfl, by decide⟩
theorem Bsr (N : Nat) : Ac5 Tryz.prog (Cec N) := ⟨Ca2 N, Ces N, By4 N, trivial⟩
theorem By5 (N : Nat) : Ad4 Tryz.prog 35 [] (sub Ap8 [1, 1, 1, 1, 0, 1, 0, 0]) (Aaa Aj3 (A60 N N)) :=
 Adi (c := sub Ap8 [1, 1, 1, 1, 0, 1, 0, 0]) (dom := (Aau [13])) mixed htt (Aae (Aam (Bsr N))) (Aag rfl) (by kernel_rfl) (Aah (l := []) (by kernel_rfl) trivial) Bjc (B := (fun _ _ _ => none)) (Ad4.none _ _ _ _) (fun _ _ _ => rfl) (fun R k x K => B2l @Ah8 @Ajv @Ae7 @Aey N R (fun a0 a1 a2 a3 a4 a5 a6 a7 => Aey N k a0 a1 a2 a3 a4 a5 a6 a7 (fun a => K .ret (Aab Atq ((a, ()), (())))) (fun a b d e f g => K (.exit 0) (Aab Atr (((), a, ()), ((b, d, e, f, g, ()), ()))))) x K) N
theorem By6 (N : Nat) : Aax Tryz.prog 35 [] (sub Ap8 [1, 1, 1, 1, 0, 1, 0]) (Aaa Aj3 (A60 N N)) := (By5 N).frag
theorem Ca4 (N : Nat) : Abc Tryz.prog 43 (Brx N) :=
 ⟨Aa9 (fn := Tryz.f43) (c := Ap8) (dom := (Aau [13])) (rs := [.tmp 2]) mixed htt (Aae (Aam (Bsr N))) (Aag rfl) Tryz.func43 rfl rfl (by kernel_rfl) (Aah (l := [(13, sub Ap8 [1, 1, 1, 1, 0, 1, 0])]) (by kernel_rfl) ⟨⟨_, rfl, By6 N⟩, trivial⟩) (by decide) (by decide) (by decide) (fun R x C => Cem @Ah8 @Ajv @Ae7 @Aey N R x C), Tryz.f43, Tryz.func43, rfl, by decide⟩
theorem B27 (N : Nat) : Abc Tryz.prog 55 (Ap5 N) :=
 ⟨Cpt Tryz.laysM171 (by kernel_rfl) rfl, Tryz.f55, Tryz.func55, rfl, by decide⟩
theorem A8j (N : Nat) : Ac5 Tryz.prog (Atc N) := ⟨Alb N, trivial⟩
theorem A72 (N : Nat) : Abc Tryz.prog 54 (Atb N) :=
 ⟨Aa9 (fn := Tryz.f54) (c := Aka) (dom := (Aau [])) (rs := [.tmp 4, .tmp 5]) mixed htt (Aae (Aam (A8j N))) (Aag rfl) Tryz.func54 rfl rfl (by kernel_rfl) (Aah (l := []) (by kernel_rfl) trivial) (by decide) (by decide) (by decide) (fun R x C => A8e N R x C), Tryz.f54, Tryz.func54, rfl, by decide⟩
theorem A5e (N : Nat) : Ac5 Tryz.prog (Aqi N) := ⟨Alb N, trivial⟩
theorem A2e (N : Nat) : Abc Tryz.prog 54 (Aqh N) :=
 ⟨Aa9 (fn := Tryz.f54) (c := Aka) (dom := (Aau [])) (rs := [.tmp 4, .tmp 5]) mixed htt (Aae (Aam (A5e N))) (Aag rfl) Tryz.func54 rfl rfl (by kernel_rfl) (Aah (l := []) (by kernel_rfl) trivial) (by decide) (by decide) (by decide) (fun R x C => A5d N R x C), Tryz.f54, Tryz.func54, rfl, by decide⟩
theorem A93 (N : Nat) : Ac5 Tryz.prog (Cfz N) := ⟨B27 N, B0k rfl (A72 N) (A2e N), Aq2 N, Ayu N, trivial⟩
theorem B28 (N : Nat) : Ad4 Tryz.prog 47 [] (sub Agn [1, 1, 0, 1, 0, 0, 1, 1, 0, 0, 1, 1, 0, 1, 0, 0]) (Aaa Aii (A9a N N)) :=
 Adi (c := sub Agn [1, 1, 0, 1, 0, 0, 1, 1, 0, 0, 1, 1, 0, 1, 0, 0]) (dom := (Aau [15, 7])) mixed htt (Aae (Aam (A93 N))) (Aag rfl) (by kernel_rfl) (Aah (l := []) (by kernel_rfl) trivial) Bmq (B := (fun _ _ _ => none)) (Ad4.none _ _ _ _) (fun _ _ _ => rfl) (fun R k x K => B5n @Aaw @Aas @Aad @Ac3 @Acg @Aec N R (fun a0 a1 a2 a3 a4 a5 a6 a7 => Ac3 N k a0 a1 a2 a3 a4 a5 a6 a7 (fun a b d e f => K (.exit 2) (Aab Avf ((a, (), b, d, e, ()), (((), (), ()), f, ()))))) x K) N
theorem Bj2 (N : Nat) : Aax Tryz.prog 47 [] (sub Agn [1, 1, 0, 1, 0, 0, 1, 1, 0, 0, 1, 1, 0, 1, 0]) (Aaa Aii (A9a N N)) := (B28 N).frag
theorem Bd4 (N : Nat) : Ad4 Tryz.prog 47 [] (sub Agn [1, 1, 0, 1, 0, 0]) (Aaa Ado (Avh N N)) :=
 Adi (c := sub Agn [1, 1, 0, 1, 0, 0]) (dom := (Aau [15, 7])) mixed htt (Aae (Aam (A93 N))) (Aag rfl) (by kernel_rfl) (Aah (l := [(15, sub Agn [1, 1, 0, 1, 0, 0, 1, 1, 0, 0, 1, 1, 0, 1, 0])]) (by kernel_rfl) ⟨⟨_, rfl, Bj2 N⟩, trivial⟩) Bgk (B := (fun _ _ _ => none)) (Ad4.none _ _ _ _) (fun _ _ _ => rfl) (fun R k x K => Bx6 @Aaw @Aas @Aad @Ac3 @Acg @Aec N R (fun a0 a1 a2 a3 a4 => Acg N k a0 a1 a2 a3 a4 (fun a => K (.exit 0) (Aab Asc (((), ()), (((), (), ()), a, ()))))) x K) N
theorem Buq (N : Nat) : Aax Tryz.prog 47 [] (sub Agn [1, 1, 0, 1, 0]) (Aaa Ado (Avh N N)) := (Bd4 N).frag
theorem B6c (N : Nat) : Ad4 Tryz.prog 47 [] (sub Agn [1, 1, 0, 1, 0, 0]) (Aaa Aje (Bcn N N)) :=
 Adi (c := sub Agn [1, 1, 0, 1, 0, 0]) (dom := (Aau [15, 7])) mixed htt (Aae (Aam (A93 N))) (Aag rfl) (by kernel_rfl) (Aah (l := [(15, sub Agn [1, 1, 0, 1, 0, 0, 1, 1, 0, 0, 1, 1, 0, 1, 0])]) (by kernel_rfl) ⟨⟨_, rfl, Bj2 N⟩, trivial⟩) Bpb (B := (Aaa Ado (Avh N N))) (Bd4 N) (fun _ _ _ => rfl) (fun R k x K => Cam @Aaw @Aas @Aad @Ac3 @Acg @Aec N R (fun a0 a1 a2 a3 => Aec N k a0 a1 a2 a3 (fun a => K (.exit 0) (Aab Aya (((), ()), (((), (), ()), a, ())))) (K (.exit 0) (Aab Ayb (((), ()), (((), (), ()), ()))))) x K) N
theorem B6d (N : Nat) : Aax Tryz.prog 47 [] (sub Agn [1, 1, 0, 1, 0]) (Aaa Aje (Bcn N N)) := (B6c N).frag
theorem Cet (N : Nat) : Abc Tryz.prog 23 (Bv8 N) :=
 ⟨Aa9 (fn := Tryz.f23) (c := Agn) (dom := (Aau [15, 7])) (rs := [.tmp 4]) mixed htt (Aae (Aam (A93 N))) (Aag rfl) Tryz.func23 rfl rfl (by kernel_rfl) (Aah (l := [(7, sub Agn [1, 1, 0, 1, 0])]) (by kernel_rfl) ⟨⟨_, rfl, Ch4 (Buq N) (B6d N)⟩, trivial⟩) (by decide) (by decide) (by decide) (fun R x C => Cf9 @Aaw @Aas @Aad @Ac3 @Acg @Aec N R x C), Tryz.f23, Tryz.func23, rfl, by decide⟩
theorem Cgc (N : Nat) : Ac5 Tryz.prog (Cf1 N) := ⟨Ca4 N, Cet N, trivial⟩
theorem Ceu (N : Nat) : Abc Tryz.prog 18 (Bwa N) :=
 ⟨Aa9 (fn := Tryz.f18) (c := Bv1) (dom := (Aau [])) (rs := [.tmp 2, .tmp 3]) mixed htt (Aae (Aam (Cgc N))) (Aag rfl) Tryz.func18 rfl rfl (by kernel_rfl) (Aah (l := []) (by kernel_rfl) trivial) (by decide) (by decide) (by decide) (fun R x C => Cgb @Ak9 @Ame N R x C), Tryz.f18, Tryz.func18, rfl, by decide⟩
theorem Bj3 (N : Nat) : Ac5 Tryz.prog (B1s N) := trivial
theorem Bqa (N : Nat) : Ad4 Tryz.prog 60 [] (sub Amv [1, 1, 1, 0, 1, 0, 0]) (Aaa Ahp (Azr N N)) :=
 Adi (c := sub Amv [1, 1, 1, 0, 1, 0, 0]) (dom := (Aau [11])) mixed htt (Aae (Aam (Bj3 N))) (Aag rfl) (by kernel_rfl) (Aah (l := []) (by kernel_rfl) trivial) Bao (B := (fun _ _ _ => none)) (Ad4.none _ _ _ _) (fun _ _ _ => rfl) (fun R k x K => Bsl @Adp N R (fun a0 a1 a2 a3 a4 a5 a6 a7 => Adp N k a0 a1 a2 a3 a4 a5 a6 a7 (fun a => K (.exit 0) (Aab Aps ((a, ()), (()))))) x K) N
theorem Bqb (N : Nat) : Aax Tryz.prog 60 [] (sub Amv [1, 1, 1, 0, 1, 0]) (Aaa Ahp (Azr N N)) := (Bqa N).frag
theorem By7 (N : Nat) : Abc Tryz.prog 106 (Bjf N) :=
 ⟨Aa9 (fn := Tryz.f106) (c := Amv) (dom := (Aau [11])) (rs := [.tmp 2]) mixed htt (Aae (Aam (Bj3 N))) (Aag rfl) Tryz.func106 rfl rfl (by kernel_rfl) (Aah (l := [(11, sub Amv [1, 1, 1, 0, 1, 0])]) (by kernel_rfl) ⟨⟨_, rfl, Bqb N⟩, trivial⟩) (by decide) (by decide) (by decide) (fun R x C => B2g @Adp N R x C), Tryz.f106, Tryz.func106, rfl, by decide⟩
theorem Bpw (N : Nat) : Ac5 Tryz.prog (B9i N) := trivial
theorem By8 (N : Nat) : Ad4 Tryz.prog 60 [] (sub Apf [1, 1, 0, 1, 0, 0]) (Aaa Aj4 (A69 N N)) :=
 Adi (c := sub Apf [1, 1, 0, 1, 0, 0]) (dom := (Aau [7])) mixed htt (Aae (Aam (Bpw N))) (Aag rfl) (by kernel_rfl) (Aah (l := []) (by kernel_rfl) trivial) Bjg (B := (fun _ _ _ => none)) (Ad4.none _ _ _ _) (fun _ _ _ => rfl) (fun R k x K => B2q @Aeq N R (fun a0 a1 a2 => Aeq N k a0 a1 a2 (fun a b => K .ret (Aab Atv ((a, b, ()), (())))) (fun a b => K (.exit 0) (Aab Atw ((a, b, ()), (()))))) x K) N
theorem By9 (N : Nat) : Aax Tryz.prog 60 [] (sub Apf [1, 1, 0, 1, 0]) (Aaa Aj4 (A69 N N)) := (By8 N).frag
theorem B6e (N : Nat) : Abc Tryz.prog 171 (Bpd N) :=
 ⟨Aa9 (fn := Tryz.f171) (c := Apf) (dom := (Aau [7])) (rs := [.tmp 2, .tmp 3]) mixed htt (Aae (Aam (Bpw N))) (Aag rfl) Tryz.func171 rfl rfl (by kernel_rfl) (Aah (l := [(7, sub Apf [1, 1, 0, 1, 0])]) (by kernel_rfl) ⟨⟨_, rfl, By9 N⟩, trivial⟩) (by decide) (by decide) (by decide) (fun R x C => Cav @Aeq N R x C), Tryz.f171, Tryz.func171, rfl, by decide⟩
theorem Cj6 (N : Nat) : Ac5 Tryz.prog (B1u N) := trivial
theorem A94 (N : Nat) : Abc Tryz.prog 172 (A7b N) :=
 ⟨Aa9 (fn := Tryz.f172) (c := B1t) (dom := (Aau [])) (rs := [.tmp 6]) mixed htt (Aae (Aam (Cj6 N))) (Aag rfl) Tryz.func172 rfl rfl (by kernel_rfl) (Aah (l := []) (by kernel_rfl) trivial) (by decide) (by decide) (by decide) (fun R x C => Cj3 N R x C), Tryz.f172, Tryz.func172, rfl, by decide⟩
theorem Aww (N : Nat) : Ac5 Tryz.prog (B9k N) := ⟨B6e N, A94 N, trivial⟩
theorem Bur (N : Nat) : Ad4 Tryz.prog 110 [] (sub Adt [1, 1, 0, 1, 0, 0, 1, 0, 0, 1, 1, 1, 0, 0]) (Aaa Agd (A4n N N)) :=
 Adi (c := sub Adt [1, 1, 0, 1, 0, 0, 1, 0, 0, 1, 1, 1, 0, 0]) (dom := (Aau [25, 5, 47, 35])) mixed htt (Aae (Aam (Aww N))) (Aag rfl) (by kernel_rfl) (Aah (l := []) (by kernel_rfl) trivial) Bgq (B := (fun _ _ _ => none)) (Ad4.none _ _ _ _) (fun _ _ _ => rfl) (fun R k x K => Bxt @Acr @Aap @Ab3 @Ab9 @Ab4 @Abn N R (fun a0 a1 a2 a3 a4 a5 a6 a7 a8 a9 => Ab4 N k a0 a1 a2 a3 a4 a5 a6 a7 a8 a9 (fun a => K .ret (Aab Asi ((a, ()), (())))) (fun a b d e f g h => K (.exit 6) (Aab Asj (((), a, ()), ((b, d, e, f, g, h, ()), ()))))) x K) N
theorem Bus (N : Nat) : Aax Tryz.prog 110 [] (sub Adt [1, 1, 0, 1, 0, 0, 1, 0, 0, 1, 1, 1, 0]) (Aaa Agd (A4n N N)) := (Bur N).frag
theorem But (N : Nat) : Ad4 Tryz.prog 110 [] (sub Adt [1, 0, 1, 0, 0, 1, 0, 0, 1, 1, 1, 1, 0, 0]) (Aaa Agc (A4l N N)) :=
 Adi (c := sub Adt [1, 0, 1, 0, 0, 1, 0, 0, 1, 1, 1, 1, 0, 0]) (dom := (Aau [25, 5, 47, 35])) mixed htt (Aae (Aam (Aww N))) (Aag rfl) (by kernel_rfl) (Aah (l := []) (by kernel_rfl) trivial) Bgo (B := (fun _ _ _ => none)) (Ad4.none _ _ _ _) (fun _ _ _ => rfl) (fun R k x K => Bx8 @Acr @Aap @Ab3 @Ab9 @Ab4 @Abn N R (fun a0 a1 a2 a3 a4 a5 a6 a7 a8 a9 a10 => Ab3 N k a0 a1 a2 a3 a4 a5 a6 a7 a8 a9 a10 (fun a => K .ret (Aab Asg ((a, ()), (())))) (fun a b d e f g h => K (.exit 2) (Aab Ash (((), a, ()), ((b, d, e, f, g, h, ()), ()))))) x K) N
theorem Buu (N : Nat) : Aax Tryz.prog 110 [] (sub Adt [1, 0, 1, 0, 0, 1, 0, 0, 1, 1, 1, 1, 0]) (Aaa Agc (A4l N N)) := (But N).frag
theorem Buv (N : Nat) : Ad4 Tryz.prog 110 [] (sub Adt [1, 1, 0, 1, 0, 0]) (Aaa Age (A4p N N)) :=
 Adi (c := sub Adt [1, 1, 0, 1, 0, 0]) (dom := (Aau [25, 5, 47, 35])) mixed htt (Aae (Aam (Aww N))) (Aag rfl) (by kernel_rfl) (Aah (l := [(47, sub Adt [1, 1, 0, 1, 0, 0, 1, 0, 0, 1, 1, 1, 0])]) (by kernel_rfl) ⟨⟨_, rfl, Bus N⟩, trivial⟩) Bgs (B := (fun _ _ _ => none)) (Ad4.none _ _ _ _) (fun _ _ _ => rfl) (fun R k x K => Byc @Acr @Aap @Ab3 @Ab9 @Ab4 @Abn N R (fun a0 a1 a2 a3 a4 a5 a6 => Abn N k a0 a1 a2 a3 a4 a5 a6 (fun a => K .ret (Aab Ask ((a, ()), (())))) (fun a b d e f g => K (.exit 4) (Aab Asl (((), ()), ((a, b, d, e, f, g, ()), ()))))) x K) N
theorem Buw (N : Nat) : Aax Tryz.prog 110 [] (sub Adt [1, 1, 0, 1, 0]) (Aaa Age (A4p N N)) := (Buv N).frag
theorem Bza (N : Nat) : Ad4 Tryz.prog 110 [] (sub Adt [1, 0, 1, 0, 0]) (Aaa Agz (A7d N N)) :=
 Adi (c := sub Adt [1, 0, 1, 0, 0]) (dom := (Aau [25, 5, 47, 35])) mixed htt (Aae (Aam (Aww N))) (Aag rfl) (by kernel_rfl) (Aah (l := [(25, sub Adt [1, 0, 1, 0, 0, 1, 0, 0, 1, 1, 1, 1, 0])]) (by kernel_rfl) ⟨⟨_, rfl, Buu N⟩, trivial⟩) Bji (B := (fun _ _ _ => none)) (Ad4.none _ _ _ _) (fun _ _ _ => rfl) (fun R k x K => B17 @Acr @Aap @Ab3 @Ab9 @Ab4 @Abn N R (fun a0 a1 a2 a3 a4 a5 a6 => Ab9 N k a0 a1 a2 a3 a4 a5 a6 (fun a => K .ret (Aab Atx ((a, ()), (())))) (fun a b d e f g => K (.exit 0) (Aab Aty (((), ()), ((a, b, d, e, f, g, ()), ()))))) x K) N
theorem Bzb (N : Nat) : Aax Tryz.prog 110 [] (sub Adt [1, 0, 1, 0]) (Aaa Agz (A7d N N)) := (Bza N).frag
theorem B6f (N : Nat) : Abc Tryz.prog 107 (Bpe N) :=
 ⟨Aa9 (fn := Tryz.f107) (c := Adt) (dom := (Aau [25, 5, 47, 35])) (rs := [.tmp 2]) mixed htt (Aae (Aam (Aww N))) (Aag rfl) Tryz.func107 rfl rfl (by kernel_rfl) (Aah (l := [(5, sub Adt [1, 0, 1, 0]), (35, sub Adt [1, 1, 0, 1, 0])]) (by kernel_rfl) ⟨⟨_, rfl, Bzb N⟩, ⟨_, rfl, Buw N⟩, trivial⟩) (by decide) (by decide) (by decide) (fun R x C => B98 @Acr @Aap @Ab3 @Ab9 @Ab4 @Abn N R x C), Tryz.f107, Tryz.func107, rfl, by decide⟩
theorem Ao2 (N : Nat) : Ac5 Tryz.prog (B1w N) := ⟨A94 N, trivial⟩
theorem Bqc (N : Nat) : Aax Tryz.prog 138 [] (sub Aee [1, 1, 1, 0, 1, 0, 1, 1, 1, 1, 1, 1, 1, 1, 1, 1, 1, 1, 1, 1, 1]) (Aaa Afy (Bar N)) :=
 Adn (dom := (Aau [68, 44, 36, 28, 82])) mixed htt (Aae (Aam (Ao2 N))) (Aag rfl) (by kernel_rfl) (Aah (l := []) (by kernel_rfl) trivial) Baq (fun R x K => Bsf @Aap @Aa6 @Aba @Abb @Aat @Aaq N R x K)
theorem Bqd (N : Nat) : Aax Tryz.prog 138 [] (sub Aee [1, 1, 1, 0, 1, 0, 1, 1, 1, 1, 1, 1, 1]) (Aaa Afz (Bat N)) :=
 Adn (dom := (Aau [68, 44, 36, 28, 82])) mixed htt (Aae (Aam (Ao2 N))) (Aag rfl) (by kernel_rfl) (Aah (l := [(68, sub Aee [1, 1, 1, 0, 1, 0, 1, 1, 1, 1, 1, 1, 1, 1, 1, 1, 1, 1, 1, 1, 1])]) (by kernel_rfl) ⟨⟨_, rfl, Bqc N⟩, trivial⟩) Bas (fun R x K => Bsg @Aap @Aa6 @Aba @Abb @Aat @Aaq N R x K)
theorem Bqe (N : Nat) : Aax Tryz.prog 138 [] (sub Aee [1, 1, 1, 0, 1, 0, 1, 1, 1, 1, 1]) (Aaa Af0 (Bav N)) :=
 Adn (dom := (Aau [68, 44, 36, 28, 82])) mixed htt (Aae (Aam (Ao2 N))) (Aag rfl) (by kernel_rfl) (Aah (l := [(44, sub Aee [1, 1, 1, 0, 1, 0, 1, 1, 1, 1, 1, 1, 1])]) (by kernel_rfl) ⟨⟨_, rfl, Bqd N⟩, trivial⟩) Bau (fun R x K => Bsh @Aap @Aa6 @Aba @Abb @Aat @Aaq N R x K)
theorem Bqf (N : Nat) : Aax Tryz.prog 138 [] (sub Aee [1, 1, 1, 0, 1, 0, 1, 1, 1]) (Aaa Af1 (Bax N)) :=
 Adn (dom := (Aau [68, 44, 36, 28, 82])) mixed htt (Aae (Aam (Ao2 N))) (Aag rfl) (by kernel_rfl) (Aah (l := [(36, sub Aee [1, 1, 1, 0, 1, 0, 1, 1, 1, 1, 1])]) (by kernel_rfl) ⟨⟨_, rfl, Bqe N⟩, trivial⟩) Baw (fun R x K => Bsa @Aap @Aa6 @Aba @Abb @Aat @Aaq N R x K)
theorem Bqg (N : Nat) : Aax Tryz.prog 138 [] (sub Aee [1, 1, 1, 1]) (Aaa Af2 (Baz N)) :=
 Adn (dom := (Aau [68, 44, 36, 28, 82])) mixed htt (Aae (Aam (Ao2 N))) (Aag rfl) (by kernel_rfl) (Aah (l := []) (by kernel_rfl) trivial) Bay (fun R x K => Bsd @Aap @Aa6 @Aba @Abb @Aat @Aaq N R x K)
theorem Bzc (N : Nat) : Abc Tryz.prog 108 (Bjk N) :=
 ⟨Aa9 (fn := Tryz.f108) (c := Aee) (dom := (Aau [68, 44, 36, 28, 82])) (rs := [.tmp 4]) mixed htt (Aae (Aam (Ao2 N))) (Aag rfl) Tryz.func108 rfl rfl (by kernel_rfl) (Aah (l := [(28, sub Aee [1, 1, 1, 0, 1, 0, 1, 1, 1]), (82, sub Aee [1, 1, 1, 1])]) (by kernel_rfl) ⟨⟨_, rfl, Bqf N⟩, ⟨_, rfl, Bqg N⟩, trivial⟩) (by decide) (by decide) (by decide) (fun R x C => B2k @Aap @Aa6 @Aba @Abb @Aat @Aaq N R x C), Tryz.f108, Tryz.func108, rfl, by decide⟩
theorem B6g (N : Nat) : Ac5 Tryz.prog (Bmt N) := trivial
theorem Bj4 (N : Nat) : Abc Tryz.prog 173 (A9c N) :=
 ⟨Aa9 (fn := Tryz.f173) (c := Bms) (dom := (Aau [])) (rs := [.tmp 2]) mixed htt (Aae (Aam (B6g N))) (Aag rfl) Tryz.func173 rfl rfl (by kernel_rfl) (Aah (l := []) (by kernel_rfl) trivial) (by decide) (by decide) (by decide) (fun R x C => B5m N R x C), Tryz.f173, Tryz.func173, rfl, by decide⟩
theorem A20 (N : Nat) : Ac5 Tryz.prog (B9m N) := ⟨Bj4 N, trivial⟩
theorem Bux (N : Nat) : Aax Tryz.prog 126 [] (sub Ahk [1, 1, 0, 1, 0, 0, 1, 0, 0, 1, 1, 1, 1, 1]) (Aaa Ai0 (Bgx N)) :=
 Adn (dom := (Aau [44, 20, 7])) mixed htt (Aae (Aam (A20 N))) (Aag rfl) (by kernel_rfl) (Aah (l := []) (by kernel_rfl) trivial) Bgw (fun R x K => Bxx @Aay @Ab5 @Adg @Ac8 N R x K)
theorem Buy (N : Nat) : Aax Tryz.prog 126 [] (sub Ahk [1, 1, 0, 1, 0, 0, 1, 0, 0, 1, 1, 1]) (Aaa Ai1 (Bgz N)) :=
 Adn (dom := (Aau [44, 20, 7])) mixed htt (Aae (Aam (A20 N))) (Aag rfl) (by kernel_rfl) (Aah (l := [(44, sub Ahk [1, 1, 0, 1, 0, 0, 1, 0, 0, 1, 1, 1, 1, 1])]) (by kernel_rfl) ⟨⟨_, rfl, Bux N⟩, trivial⟩) Bgy (fun R x K => Bxz @Aay @Ab5 @Adg @Ac8 N R x K)
theorem Bzd (N : Nat) : Ad4 Tryz.prog 126 [] (sub Ahk [1, 1, 0, 1, 0, 0]) (Aaa Ahr (A7i N N)) :=
 Adi (c := sub Ahk [1, 1, 0, 1, 0, 0]) (dom := (Aau [44, 20, 7])) mixed htt (Aae (Aam (A20 N))) (Aag rfl) (by kernel_rfl) (Aah (l := [(20, sub Ahk [1, 1, 0, 1, 0, 0, 1, 0, 0, 1, 1, 1])]) (by kernel_rfl) ⟨⟨_, rfl, Buy N⟩, trivial⟩) Bjl (B := (fun _ _ _ => none)) (Ad4.none _ _ _ _) (fun _ _ _ => rfl) (fun R k x K => B19 @Aay @Ab5 @Adg @Ac8 N R (fun a0 a1 a2 a3 a4 a5 a6 a7 a8 a9 => Ac8 N k a0 a1 a2 a3 a4 a5 a6 a7 a8 a9 (fun a => K .ret (Aab At0 ((a, ()), (())))) (fun a b d e f g h i j => K (.exit 0) (Aab At1 (((), a, b, d, ()), ((e, f, g, h, i, j, ()), ()))))) x K) N
theorem Bze (N : Nat) : Aax Tryz.prog 126 [] (sub Ahk [1, 1, 0, 1, 0]) (Aaa Ahr (A7i N N)) := (Bzd N).frag
theorem B6h (N : Nat) : Abc Tryz.prog 109 (Bpf N) :=
 ⟨Aa9 (fn := Tryz.f109) (c := Ahk) (dom := (Aau [44, 20, 7])) (rs := [.tmp 2]) mixed htt (Aae (Aam (A20 N))) (Aag rfl) Tryz.func109 rfl rfl (by kernel_rfl) (Aah (l := [(7, sub Ahk [1, 1, 0, 1, 0])]) (by kernel_rfl) ⟨⟨_, rfl, Bze N⟩, trivial⟩) (by decide) (by decide) (by decide) (fun R x C => Caa @Aay @Ab5 @Adg @Ac8 N R x C), Tryz.f109, Tryz.func109, rfl, by decide⟩
theorem Bpx (N : Nat) : Ac5 Tryz.prog (B9o N) := trivial
theorem Buz (N : Nat) : Aax Tryz.prog 17 [] (sub Awq [1, 0, 1, 0, 1]) (Aaa Al3 (Bg3 N)) :=
 Adn (dom := (Aau [14])) mixed htt (Aae (Aam (Bpx N))) (Aag rfl) (by kernel_rfl) (Aah (l := []) (by kernel_rfl) trivial) Bg2 (fun R x K => Bx5 @Ad9 N R x K)
theorem Bm2 (N : Nat) : Abc Tryz.prog 174 (Bcy N) :=
 ⟨Aa9 (fn := Tryz.f174) (c := Awq) (dom := (Aau [14])) (rs := [.tmp 2]) mixed htt (Aae (Aam (Bpx N))) (Aag rfl) Tryz.func174 rfl rfl (by kernel_rfl) (Aah (l := [(14, sub Awq [1, 0, 1, 0, 1])]) (by kernel_rfl) ⟨⟨_, rfl, Buz N⟩, trivial⟩) (by decide) (by decide) (by decide) (fun R x C => Caj @Ad9 N R x C), Tryz.f174, Tryz.func174, rfl, by decide⟩
theorem Auo (N : Nat) : Ac5 Tryz.prog (B5a N) := ⟨Bm2 N, trivial⟩
theorem Bss (N : Nat) : Aax Tryz.prog 121 [] (sub Adv [1, 1, 1, 1, 0, 1, 0, 0, 1, 0, 0, 1]) (Aaa Ahh (Bdy N)) :=
 Adn (dom := (Aau [7, 24, 17, 37])) mixed htt (Aae (Aam (Auo N))) (Aag rfl) (by kernel_rfl) (Aah (l := []) (by kernel_rfl) trivial) Bdx (fun R x K => Bt4 @Aa8 @Ab6 @Aca @Abo @Abi N R x K)
theorem Bst (N : Nat) : Ad4 Tryz.prog 121 [] (sub Adv [1, 1, 1, 1, 1, 0, 1, 0, 0]) (Aaa Afr (A1y N N)) :=
 Adi (c := sub Adv [1, 1, 1, 1, 1, 0, 1, 0, 0]) (dom := (Aau [7, 24, 17, 37])) mixed htt (Aae (Aam (Auo N))) (Aag rfl) (by kernel_rfl) (Aah (l := []) (by kernel_rfl) trivial) Bd1 (B := (fun _ _ _ => none)) (Ad4.none _ _ _ _) (fun _ _ _ => rfl) (fun R k x K => Bt3 @Aa8 @Ab6 @Aca @Abo @Abi N R (fun a0 a1 a2 a3 a4 a5 a6 a7 a8 a9 a10 => Abi N k a0 a1 a2 a3 a4 a5 a6 a7 a8 a9 a10 (fun a b d => K .ret (Aab Aqz (((), a, ()), (((), (), ()), b, d, ())))) (fun a b d e => K (.exit 4) (Aab Aq0 (((), (), ()), (((), (), ()), ((), (), ()), a, b, d, e, ()))))) x K) N
theorem Bsu (N : Nat) : Aax Tryz.prog 121 [] (sub Adv [1, 1, 1, 1, 1, 0, 1, 0]) (Aaa Afr (A1y N N)) := (Bst N).frag
theorem Bsv (N : Nat) : Ad4 Tryz.prog 121 [] (sub Adv [1, 1, 1, 1, 0, 1, 0, 0]) (Aaa Afq (A1v N N)) :=
 Adi (c := sub Adv [1, 1, 1, 1, 0, 1, 0, 0]) (dom := (Aau [7, 24, 17, 37])) mixed htt (Aae (Aam (Auo N))) (Aag rfl) (by kernel_rfl) (Aah (l := [(24, sub Adv [1, 1, 1, 1, 0, 1, 0, 0, 1, 0, 0, 1])]) (by kernel_rfl) ⟨⟨_, rfl, Bss N⟩, trivial⟩) Bdz (B := (fun _ _ _ => none)) (Ad4.none _ _ _ _) (fun _ _ _ => rfl) (fun R k x K => Bt2 @Aa8 @Ab6 @Aca @Abo @Abi N R (fun a0 a1 a2 a3 a4 a5 a6 a7 a8 a9 a10 a11 => Abo N k a0 a1 a2 a3 a4 a5 a6 a7 a8 a9 a10 a11 (fun a b d => K .ret (Aab Aqx (((), a, ()), (((), (), ()), b, d, ())))) (fun a b d e f g h i j m => K (.exit 2) (Aab Aqy (((), (), (), ()), ((a, b, d, e, f, g, ()), ((), (), ()), ((), (), ()), h, i, j, m, ()))))) x K) N
theorem Bsw (N : Nat) : Aax Tryz.prog 121 [] (sub Adv [1, 1, 1, 1, 0, 1, 0]) (Aaa Afq (A1v N N)) := (Bsv N).frag
theorem Bu0 (N : Nat) : Ad4 Tryz.prog 121 [] (sub Adv [1, 1, 0, 1, 0, 0]) (Aaa Agf (A4x N N)) :=
 Adi (c := sub Adv [1, 1, 0, 1, 0, 0]) (dom := (Aau [7, 24, 17, 37])) mixed htt (Aae (Aam (Auo N))) (Aag rfl) (by kernel_rfl) (Aah (l := []) (by kernel_rfl) trivial) Bg0 (B := (fun _ _ _ => none)) (Ad4.none _ _ _ _) (fun _ _ _ => rfl) (fun R k x K => Bya @Aa8 @Ab6 @Aca @Abo @Abi N R (fun a0 a1 a2 a3 a4 a5 a6 a7 a8 a9 a10 => Ab6 N k a0 a1 a2 a3 a4 a5 a6 a7 a8 a9 a10 (fun a b d e f g h i j m => K (.exit 0) (Aab Asq (((), (), (), ()), ((a, b, d, e, f, g, ()), ((), (), ()), ((), (), ()), h, i, j, m, ()))))) x K) N
theorem Bu1 (N : Nat) : Aax Tryz.prog 121 [] (sub Adv [1, 1, 0, 1, 0]) (Aaa Agf (A4x N N)) := (Bu0 N).frag
theorem B29 (N : Nat) : Abc Tryz.prog 110 (Bmu N) :=
 ⟨Aa9 (fn := Tryz.f110) (c := Adv) (dom := (Aau [7, 24, 17, 37])) (rs := [.cell 2 130, .tmp 3]) mixed htt (Aae (Aam (Auo N))) (Aag rfl) Tryz.func110 rfl rfl (by kernel_rfl) (Aah (l := [(7, sub Adv [1, 1, 0, 1, 0]), (17, sub Adv [1, 1, 1, 1, 0, 1, 0]), (37, sub Adv [1, 1, 1, 1, 1, 0, 1, 0])]) (by kernel_rfl) ⟨⟨_, rfl, Bu1 N⟩, ⟨_, rfl, Bsw N⟩, ⟨_, rfl, Bsu N⟩, trivial⟩) (by decide) (by decide) (by decide) (fun R x C => B5p @Aa8 @Ab6 @Aca @Abo @Abi N R x C), Tryz.f110, Tryz.func110, rfl, by decide⟩
theorem A21 (N : Nat) : Ac5 Tryz.prog (B9q N) := trivial
theorem Bu2 (N : Nat) : Aax Tryz.prog 55 [] (sub Ajf [1, 0, 1, 0, 1, 1, 1, 1, 1, 1, 1, 1, 1, 1, 1]) (Aaa Ai2 (Bg5 N)) :=
 Adn (dom := (Aau [60, 42, 20])) mixed htt (Aae (Aam (A21 N))) (Aag rfl) (by kernel_rfl) (Aah (l := []) (by kernel_rfl) trivial) Bg4 (fun R x K => Byh @Adh @Abp @Ab7 N R x K)
theorem Bu3 (N : Nat) : Aax Tryz.prog 55 [] (sub Ajf [1, 0, 1, 0, 1, 1, 1]) (Aaa Ai3 (Bg7 N)) :=
 Adn (dom := (Aau [60, 42, 20])) mixed htt (Aae (Aam (A21 N))) (Aag rfl) (by kernel_rfl) (Aah (l := [(60, sub Ajf [1, 0, 1, 0, 1, 1, 1, 1, 1, 1, 1, 1, 1, 1, 1])]) (by kernel_rfl) ⟨⟨_, rfl, Bu2 N⟩, trivial⟩) Bg6 (fun R x K => Byi @Adh @Abp @Ab7 N R x K)
theorem Bu4 (N : Nat) : Aax Tryz.prog 55 [] (sub Ajf [1, 0, 1, 0, 1]) (Aaa Ai4 (Bg9 N)) :=
 Adn (dom := (Aau [60, 42, 20])) mixed htt (Aae (Aam (A21 N))) (Aag rfl) (by kernel_rfl) (Aah (l := [(42, sub Ajf [1, 0, 1, 0, 1, 1, 1])]) (by kernel_rfl) ⟨⟨_, rfl, Bu3 N⟩, trivial⟩) Bg8 (fun R x K => Bx1 @Adh @Abp @Ab7 N R x K)
theorem B6i (N : Nat) : Abc Tryz.prog 175 (Bpg N) :=
 ⟨Aa9 (fn := Tryz.f175) (c := Ajf) (dom := (Aau [60, 42, 20])) (rs := [.tmp 4]) mixed htt (Aae (Aam (A21 N))) (Aag rfl) Tryz.func175 rfl rfl (by kernel_rfl) (Aah (l := [(20, sub Ajf [1, 0, 1, 0, 1])]) (by kernel_rfl) ⟨⟨_, rfl, Bu4 N⟩, trivial⟩) (by decide) (by decide) (by decide) (fun R x C => Car @Adh @Abp @Ab7 N R x C), Tryz.f175, Tryz.func175, rfl, by decide⟩
theorem Bdp (N : Nat) : Ac5 Tryz.prog (B9s N) := trivial
theorem Bu5 (N : Nat) : Aax Tryz.prog 22 [] (sub Am7 [1, 0, 1, 0, 1, 1, 1]) (Aaa Aks (Bhb N)) :=
 Adn (dom := (Aau [32, 24])) mixed htt (Aae (Aam (Bdp N))) (Aag rfl) (by kernel_rfl) (Aah (l := []) (by kernel_rfl) trivial) Bha (fun R x K => Bx2 @Adw @Acd N R x K)
theorem Bu6 (N : Nat) : Aax Tryz.prog 22 [] (sub Am7 [1, 0, 1, 0, 1]) (Aaa Akt (Bhd N)) :=
 Adn (dom := (Aau [32, 24])) mixed htt (Aae (Aam (Bdp N))) (Aag rfl) (by kernel_rfl) (Aah (l := [(32, sub Am7 [1, 0, 1, 0, 1, 1, 1])]) (by kernel_rfl) ⟨⟨_, rfl, Bu5 N⟩, trivial⟩) Bhc (fun R x K => Byk @Adw @Acd N R x K)
theorem B6j (N : Nat) : Abc Tryz.prog 176 (Bph N) :=
 ⟨Aa9 (fn := Tryz.f176) (c := Am7) (dom := (Aau [32, 24])) (rs := [.tmp 2]) mixed htt (Aae (Aam (Bdp N))) (Aag rfl) Tryz.func176 rfl rfl (by kernel_rfl) (Aah (l := [(24, sub Am7 [1, 0, 1, 0, 1])]) (by kernel_rfl) ⟨⟨_, rfl, Bu6 N⟩, trivial⟩) (by decide) (by decide) (by decide) (fun R x C => Cas @Adw @Acd N R x C), Tryz.f176, Tryz.func176, rfl, by decide⟩
theorem Bpy (N : Nat) : Ac5 Tryz.prog (B9u N) := ⟨A94 N, trivial⟩
theorem Bzf (N : Nat) : Aax Tryz.prog 35 [] (sub Awr [1, 0, 1, 0, 1]) (Aaa Amx (Bjo N)) :=
 Adn (dom := (Aau [8])) mixed htt (Aae (Aam (Bpy N))) (Aag rfl) (by kernel_rfl) (Aah (l := []) (by kernel_rfl) trivial) Bjn (fun R x K => B2r @Aap @Agg N R x K)
theorem B6k (N : Nat) : Abc Tryz.prog 177 (Bpi N) :=
 ⟨Aa9 (fn := Tryz.f177) (c := Awr) (dom := (Aau [8])) (rs := [.tmp 4]) mixed htt (Aae (Aam (Bpy N))) (Aag rfl) Tryz.func177 rfl rfl (by kernel_rfl) (Aah (l := [(8, sub Awr [1, 0, 1, 0, 1])]) (by kernel_rfl) ⟨⟨_, rfl, Bzf N⟩, trivial⟩) (by decide) (by decide) (by decide) (fun R x C => Cag @Aap @Agg N R x C), Tryz.f177, Tryz.func177, rfl, by decide⟩
theorem Bpz (N : Nat) : Ac5 Tryz.prog (B9w N) := trivial
theorem Bzg (N : Nat) : Ad4 Tryz.prog 31 [] (sub Apg [1, 0, 0, 0]) (Aaa Aj5 (A7o N N)) :=
 Adi (c := sub Apg [1, 0, 0, 0]) (dom := (Aau [3])) mixed htt (Aae (Aam (Bpz N))) (Aag rfl) (by kernel_rfl) (Aah (l := []) (by kernel_rfl) trivial) Bjp (B := (fun _ _ _ => none)) (Ad4.none _ _ _ _) (fun _ _ _ => rfl) (fun R k x K => B2s @Ae8 N R (fun a0 a1 => Ae8 N k a0 a1 (fun a b => K (.exit 0) (Aab At2 ((a, b, ()), (()))))) x K) N
theorem Bzh (N : Nat) : Aax Tryz.prog 31 [] (sub Apg [1, 0, 0]) (Aaa Aj5 (A7o N N)) := (Bzg N).frag
theorem B6l (N : Nat) : Abc Tryz.prog 178 (Bpj N) :=
 ⟨Aa9 (fn := Tryz.f178) (c := Apg) (dom := (Aau [3])) (rs := [.tmp 4]) mixed htt (Aae (Aam (Bpz N))) (Aag rfl) Tryz.func178 rfl rfl (by kernel_rfl) (Aah (l := [(3, sub Apg [1, 0, 0])]) (by kernel_rfl) ⟨⟨_, rfl, Bzh N⟩, trivial⟩) (by decide) (by decide) (by decide) (fun R x C => Cax @Ae8 N R x C), Tryz.f178, Tryz.func178, rfl, by decide⟩
theorem Bsx (N : Nat) : Ac5 Tryz.prog (Cee N) := ⟨B6i N, B6j N, A94 N, B6k N, Bm2 N, B6l N, Bj4 N, trivial⟩
theorem B3a (N : Nat) : Ad4 Tryz.prog 96 [] (sub Aqm [1, 1, 0, 1, 0, 0]) (Aaa Ala (A9j N N)) :=
 Adi (c := sub Aqm [1, 1, 0, 1, 0, 0]) (dom := (Aau [7])) mixed htt (Aae (Aam (Bsx N))) (Aag rfl) (by kernel_rfl) (Aah (l := []) (by kernel_rfl) trivial) Bmv (B := (fun _ _ _ => none)) (Ad4.none _ _ _ _) (fun _ _ _ => rfl) (fun R k x K => B5e @Af7 @Afe @Aap @Aff @Aa8 @Aen @Aay @Ae5 N R (fun a0 a1 a2 a3 a4 a5 a6 a7 a8 a9 a10 => Ae5 N k a0 a1 a2 a3 a4 a5 a6 a7 a8 a9 a10 (fun a => K .ret (Aab Av2 ((a, ()), (())))) (K (.exit 0) (Aab Av3 ((()), (()))))) x K) N
theorem B3b (N : Nat) : Aax Tryz.prog 96 [] (sub Aqm [1, 1, 0, 1, 0]) (Aaa Ala (A9j N N)) := (B3a N).frag
theorem Ca5 (N : Nat) : Abc Tryz.prog 111 (Br3 N) :=
 ⟨Aa9 (fn := Tryz.f111) (c := Aqm) (dom := (Aau [7])) (rs := [.tmp 4]) mixed htt (Aae (Aam (Bsx N))) (Aag rfl) Tryz.func111 rfl rfl (by kernel_rfl) (Aah (l := [(7, sub Aqm [1, 1, 0, 1, 0])]) (by kernel_rfl) ⟨⟨_, rfl, B3b N⟩, trivial⟩) (by decide) (by decide) (by decide) (fun R x C => Cej @Af7 @Afe @Aap @Aff @Aa8 @Aen @Aay @Ae5 N R x C), Tryz.f111, Tryz.func111, rfl, by decide⟩
theorem Bp0 (N : Nat) : Ac5 Tryz.prog (B9y N) := ⟨By7 N, B6f N, Bzc N, B6h N, B29 N, Ca5 N, trivial⟩
theorem Bu7 (N : Nat) : Ad4 Tryz.prog 50 [] (sub Ape [1, 1, 1, 0, 1, 0, 0]) (Aaa Aiz (A4t N N)) :=
 Adi (c := sub Ape [1, 1, 1, 0, 1, 0, 0]) (dom := (Aau [13])) mixed htt (Aae (Aam (Bp0 N))) (Aag rfl) (by kernel_rfl) (Aah (l := []) (by kernel_rfl) trivial) Bgu (B := (fun _ _ _ => none)) (Ad4.none _ _ _ _) (fun _ _ _ => rfl) (fun R k x K => Bxu @Afp @Ahg @Aer @Ags @Af3 @Aib @Aew N R (fun a0 a1 a2 a3 a4 a5 a6 => Aew N k a0 a1 a2 a3 a4 a5 a6 (fun a => K .ret (Aab Asn ((a, ()), (())))) (fun a b d e f g => K (.exit 0) (Aab Aso (((), ()), ((a, b, d, e, f, g, ()), ()))))) x K) N
theorem Bu8 (N : Nat) : Aax Tryz.prog 50 [] (sub Ape [1, 1, 1, 0, 1, 0]) (Aaa Aiz (A4t N N)) := (Bu7 N).frag
theorem B6m (N : Nat) : Abc Tryz.prog 67 (Bpk N) :=
 ⟨Aa9 (fn := Tryz.f67) (c := Ape) (dom := (Aau [13])) (rs := [.tmp 2]) mixed htt (Aae (Aam (Bp0 N))) (Aag rfl) Tryz.func67 rfl rfl (by kernel_rfl) (Aah (l := [(13, sub Ape [1, 1, 1, 0, 1, 0])]) (by kernel_rfl) ⟨⟨_, rfl, Bu8 N⟩, trivial⟩) (by decide) (by decide) (by decide) (fun R x C => B97 @Afp @Ahg @Aer @Ags @Af3 @Aib @Aew N R x C), Tryz.f67, Tryz.func67, rfl, by decide⟩
theorem Bp1 (N : Nat) : Ac5 Tryz.prog (B90 N) := ⟨B6m N, trivial⟩
theorem Bu9 (N : Nat) : Ad4 Tryz.prog 43 [] (sub Apd [1, 1, 1, 0, 1, 0, 0]) (Aaa Aiy (A4j N N)) :=
 Adi (c := sub Apd [1, 1, 1, 0, 1, 0, 0]) (dom := (Aau [11])) mixed htt (Aae (Aam (Bp1 N))) (Aag rfl) (by kernel_rfl) (Aah (l := []) (by kernel_rfl) trivial) Bgm (B := (fun _ _ _ => none)) (Ad4.none _ _ _ _) (fun _ _ _ => rfl) (fun R k x K => Bx0 @Agt @Aei N R (fun a0 a1 a2 a3 a4 a5 a6 a7 a8 a9 a10 a11 => Aei N k a0 a1 a2 a3 a4 a5 a6 a7 a8 a9 a10 a11 (fun a b d e f g => K (.exit 0) (Aab Asd (((), ()), ((a, b, (), d, e, f, ()), g, ()))))) x K) N
theorem Bva (N : Nat) : Aax Tryz.prog 43 [] (sub Apd [1, 1, 1, 0, 1, 0]) (Aaa Aiy (A4j N N)) := (Bu9 N).frag
theorem B6n (N : Nat) : Abc Tryz.prog 34 (Bpl N) :=
 ⟨Aa9 (fn := Tryz.f34) (c := Apd) (dom := (Aau [11])) (rs := [.tmp 2]) mixed htt (Aae (Aam (Bp1 N))) (Aag rfl) Tryz.func34 rfl rfl (by kernel_rfl) (Aah (l := [(11, sub Apd [1, 1, 1, 0, 1, 0])]) (by kernel_rfl) ⟨⟨_, rfl, Bva N⟩, trivial⟩) (by decide) (by decide) (by decide) (fun R x C => Cae @Agt @Aei N R x C), Tryz.f34, Tryz.func34, rfl, by decide⟩
theorem Cj7 (N : Nat) : Ac5 Tryz.prog (B1z N) := trivial
theorem A95 (N : Nat) : Abc Tryz.prog 81 (A7q N) :=
 ⟨Aa9 (fn := Tryz.f81) (c := B1y) (dom := (Aau [])) (rs := [.tmp 6]) mixed htt (Aae (Aam (Cj7 N))) (Aag rfl) Tryz.func81 rfl rfl (by kernel_rfl) (Aah (l := []) (by kernel_rfl) trivial) (by decide) (by decide) (by decide) (fun R x C => Cj2 N R x C), Tryz.f81, Tryz.func81, rfl, by decide⟩
theorem Cj8 (N : Nat) : Ac5 Tryz.prog (B12 N) := trivial
theorem Cgd (N : Nat) : Abc Tryz.prog 61 (B11 N) :=
 ⟨Aa9 (fn := Tryz.f61) (c := B10) (dom := (Aau [])) (rs := [.tmp 6]) mixed htt (Aae (Aam (Cj8 N))) (Aag rfl) Tryz.func61 rfl rfl (by kernel_rfl) (Aah (l := []) (by kernel_rfl) trivial) (by decide) (by decide) (by decide) (fun R x C => Cj4 N R x C), Tryz.f61, Tryz.func61, rfl, by decide⟩
theorem As1 (N : Nat) : Ac5 Tryz.prog (B14 N) := ⟨Cgd N, trivial⟩
theorem Bqh (N : Nat) : Aax Tryz.prog 50 [] (sub Afn [1, 1, 0, 1, 0, 1, 1, 1, 1, 1, 1, 1]) (Aaa Agu (Ba1 N)) :=
 Adn (dom := (Aau [28, 22, 16, 38])) mixed htt (Aae (Aam (As1 N))) (Aag rfl) (by kernel_rfl) (Aah (l := []) (by kernel_rfl) trivial) Ba0 (fun R x K => Bsc @Acl @Abw @Abx @Aby @Abz N R x K)
theorem Bqi (N : Nat) : Aax Tryz.prog 50 [] (sub Afn [1, 1, 0, 1, 0, 1, 1, 1, 1, 1]) (Aaa Agv (Ba3 N)) :=
 Adn (dom := (Aau [28, 22, 16, 38])) mixed htt (Aae (Aam (As1 N))) (Aag rfl) (by kernel_rfl) (Aah (l := [(28, sub Afn [1, 1, 0, 1, 0, 1, 1, 1, 1, 1, 1, 1])]) (by kernel_rfl) ⟨⟨_, rfl, Bqh N⟩, trivial⟩) Ba2 (fun R x K => Bsb @Acl @Abw @Abx @Aby @Abz N R x K)
theorem Bqj (N : Nat) : Aax Tryz.prog 50 [] (sub Afn [1, 1, 0, 1, 0, 1, 1, 1]) (Aaa Agw (Ba5 N)) :=
 Adn (dom := (Aau [28, 22, 16, 38])) mixed htt (Aae (Aam (As1 N))) (Aag rfl) (by kernel_rfl) (Aah (l := [(22, sub Afn [1, 1, 0, 1, 0, 1, 1, 1, 1, 1])]) (by kernel_rfl) ⟨⟨_, rfl, Bqi N⟩, trivial⟩) Ba4 (fun R x K => Bsj @Acl @Abw @Abx @Aby @Abz N R x K)
theorem Bqk (N : Nat) : Aax Tryz.prog 50 [] (sub Afn [1, 1, 1]) (Aaa Agx (Ba7 N)) :=
 Adn (dom := (Aau [28, 22, 16, 38])) mixed htt (Aae (Aam (As1 N))) (Aag rfl) (by kernel_rfl) (Aah (l := []) (by kernel_rfl) trivial) Ba6 (fun R x K => Bsk @Acl @Abw @Abx @Aby @Abz N R x K)
theorem Bzi (N : Nat) : Abc Tryz.prog 102 (Bjs N) :=
 ⟨Aa9 (fn := Tryz.f102) (c := Afn) (dom := (Aau [28, 22, 16, 38])) (rs := [.tmp 8]) mixed htt (Aae (Aam (As1 N))) (Aag rfl) Tryz.func102 rfl rfl (by kernel_rfl) (Aah (l := [(16, sub Afn [1, 1, 0, 1, 0, 1, 1, 1]), (38, sub Afn [1, 1, 1])]) (by kernel_rfl) ⟨⟨_, rfl, Bqj N⟩, ⟨_, rfl, Bqk N⟩, trivial⟩) (by decide) (by decide) (by decide) (fun R x C => B2o @Acl @Abw @Abx @Aby @Abz N R x C), Tryz.f102, Tryz.func102, rfl, by decide⟩
theorem Cge (N : Nat) : Ac5 Tryz.prog (Cf3 N) := ⟨Bzi N, trivial⟩
theorem Bsy (N : Nat) : Abc Tryz.prog 134 (Bk8 N) :=
 ⟨Aa9 (fn := Tryz.f134) (c := Bwb) (dom := (Aau [])) (rs := [.tmp 6]) mixed htt (Aae (Aam (Cge N))) (Aag rfl) Tryz.func134 rfl rfl (by kernel_rfl) (Aah (l := []) (by kernel_rfl) trivial) (by decide) (by decide) (by decide) (fun R x C => Cf7 @Aie N R x C), Tryz.f134, Tryz.func134, rfl, by decide⟩
theorem Bzj (N : Nat) : Ac5 Tryz.prog (Bxj N) := ⟨A95 N, Bsy N, trivial⟩
theorem Bvb (N : Nat) : Abc Tryz.prog 133 (Bhi N) :=
 ⟨Aa9 (fn := Tryz.f133) (c := Bhh) (dom := (Aau [])) (rs := [.tmp 6]) mixed htt (Aae (Aam (Bzj N))) (Aag rfl) Tryz.func133 rfl rfl (by kernel_rfl) (Aah (l := []) (by kernel_rfl) trivial) (by decide) (by decide) (by decide) (fun R x C => Byn @Aa3 @Abd N R x C), Tryz.f133, Tryz.func133, rfl, by decide⟩
theorem Ca6 (N : Nat) : Ac5 Tryz.prog (B92 N) := ⟨A95 N, trivial⟩
theorem B6o (N : Nat) : Abc Tryz.prog 135 (Bpn N) :=
 ⟨Aa9 (fn := Tryz.f135) (c := Bpm) (dom := (Aau [])) (rs := [.tmp 4]) mixed htt (Aae (Aam (Ca6 N))) (Aag rfl) Tryz.func135 rfl rfl (by kernel_rfl) (Aah (l := []) (by kernel_rfl) trivial) (by decide) (by decide) (by decide) (fun R x C => Caw @Aa3 N R x C), Tryz.f135, Tryz.func135, rfl, by decide⟩
theorem Awx (N : Nat) : Ac5 Tryz.prog (B94 N) := ⟨Bvb N, Bsy N, B6o N, A95 N, trivial⟩
theorem Bvc (N : Nat) : Aax Tryz.prog 220 [] (sub Ag0 [1, 0, 1, 0, 1, 1, 1, 1, 1, 1, 1, 1, 1]) (Aaa Ah0 (Bhk N)) :=
 Adn (dom := (Aau [30, 16, 10, 48])) mixed htt (Aae (Aam (Awx N))) (Aag rfl) (by kernel_rfl) (Aah (l := []) (by kernel_rfl) trivial) Bhj (fun R x K => Bxr @Abe @Abd @Acs @Aa3 @Acw @Acx @Ach @Aci N R x K)
theorem Bvd (N : Nat) : Aax Tryz.prog 220 [] (sub Ag0 [1, 0, 1, 0, 1, 1, 1]) (Aaa Ah1 (Bhm N)) :=
 Adn (dom := (Aau [30, 16, 10, 48])) mixed htt (Aae (Aam (Awx N))) (Aag rfl) (by kernel_rfl) (Aah (l := [(30, sub Ag0 [1, 0, 1, 0, 1, 1, 1, 1, 1, 1, 1, 1, 1])]) (by kernel_rfl) ⟨⟨_, rfl, Bvc N⟩, trivial⟩) Bhl (fun R x K => Bxs @Abe @Abd @Acs @Aa3 @Acw @Acx @Ach @Aci N R x K)
theorem Bve (N : Nat) : Aax Tryz.prog 220 [] (sub Ag0 [1, 0, 1, 0, 1]) (Aaa Ah2 (Bho N)) :=
 Adn (dom := (Aau [30, 16, 10, 48])) mixed htt (Aae (Aam (Awx N))) (Aag rfl) (by kernel_rfl) (Aah (l := [(16, sub Ag0 [1, 0, 1, 0, 1, 1, 1])]) (by kernel_rfl) ⟨⟨_, rfl, Bvd N⟩, trivial⟩) Bhn (fun R x K => Bx9 @Abe @Abd @Acs @Aa3 @Acw @Acx @Ach @Aci N R x K)
theorem Bvf (N : Nat) : Aax Tryz.prog 220 [] (sub Ag0 [1, 1]) (Aaa Ah3 (Bhq N)) :=
 Adn (dom := (Aau [30, 16, 10, 48])) mixed htt (Aae (Aam (Awx N))) (Aag rfl) (by kernel_rfl) (Aah (l := []) (by kernel_rfl) trivial) Bhp (fun R x K => Bye @Abe @Abd @Acs @Aa3 @Acw @Acx @Ach @Aci N R x K)
theorem B6p (N : Nat) : Abc Tryz.prog 79 (Bpo N) :=
 ⟨Aa9 (fn := Tryz.f79) (c := Ag0) (dom := (Aau [30, 16, 10, 48])) (rs := [.tmp 4]) mixed htt (Aae (Aam (Awx N))) (Aag rfl) Tryz.func79 rfl rfl (by kernel_rfl) (Aah (l := [(10, sub Ag0 [1, 0, 1, 0, 1]), (48, sub Ag0 [1, 1])]) (by kernel_rfl) ⟨⟨_, rfl, Bve N⟩, ⟨_, rfl, Bvf N⟩, trivial⟩) (by decide) (by decide) (by decide) (fun R x C => Cao @Abe @Abd @Acs @Aa3 @Acw @Acx @Ach @Aci N R x C), Tryz.f79, Tryz.func79, rfl, by decide⟩
theorem B6q (N : Nat) : Ac5 Tryz.prog (Bmy N) := trivial
theorem B3c (N : Nat) : Abc Tryz.prog 80 (Bmx N) :=
 ⟨Aa9 (fn := Tryz.f80) (c := Bmw) (dom := (Aau [])) (rs := [.tmp 2]) mixed htt (Aae (Aam (B6q N))) (Aag rfl) Tryz.func80 rfl rfl (by kernel_rfl) (Aah (l := []) (by kernel_rfl) trivial) (by decide) (by decide) (by decide) (fun R x C => B5u N R x C), Tryz.f80, Tryz.func80, rfl, by decide⟩
theorem A22 (N : Nat) : Ac5 Tryz.prog (B96 N) := ⟨B6n N, B6p N, B3c N, A95 N, trivial⟩
theorem Bvg (N : Nat) : Aax Tryz.prog 137 [] (sub Agb [1, 1, 1, 1, 0, 1, 0, 0, 1, 0, 0, 1, 1, 1, 1]) (Aaa Ai9 (Bhs N)) :=
 Adn (dom := (Aau [28, 13, 39])) mixed htt (Aae (Aam (A22 N))) (Aag rfl) (by kernel_rfl) (Aah (l := []) (by kernel_rfl) trivial) Bhr (fun R x K => Bxw @Aes @Aet @Adc @Aa3 @Abk @Acy @Acz N R x K)
theorem Bvh (N : Nat) : Ad4 Tryz.prog 137 [] (sub Agb [1, 1, 1, 1, 1, 1, 0, 1, 0, 0]) (Aaa Ag7 (A5c N N)) :=
 Adi (c := sub Agb [1, 1, 1, 1, 1, 1, 0, 1, 0, 0]) (dom := (Aau [28, 13, 39])) mixed htt (Aae (Aam (A22 N))) (Aag rfl) (by kernel_rfl) (Aah (l := []) (by kernel_rfl) trivial) Bhv (B := (fun _ _ _ => none)) (Ad4.none _ _ _ _) (fun _ _ _ => rfl) (fun R k x K => Byd @Aes @Aet @Adc @Aa3 @Abk @Acy @Acz N R (fun a0 a1 a2 a3 a4 a5 => Acz N k a0 a1 a2 a3 a4 a5 (fun a => K .ret (Aab Asv ((a, ()), (())))) (K (.exit 2) (Aab Asw ((()), (()))))) x K) N
theorem Bvi (N : Nat) : Aax Tryz.prog 137 [] (sub Agb [1, 1, 1, 1, 1, 1, 0, 1, 0]) (Aaa Ag7 (A5c N N)) := (Bvh N).frag
theorem Bvj (N : Nat) : Ad4 Tryz.prog 137 [] (sub Agb [1, 1, 1, 1, 0, 1, 0, 0]) (Aaa Ag6 (A49 N N)) :=
 Adi (c := sub Agb [1, 1, 1, 1, 0, 1, 0, 0]) (dom := (Aau [28, 13, 39])) mixed htt (Aae (Aam (A22 N))) (Aag rfl) (by kernel_rfl) (Aah (l := [(28, sub Agb [1, 1, 1, 1, 0, 1, 0, 0, 1, 0, 0, 1, 1, 1, 1])]) (by kernel_rfl) ⟨⟨_, rfl, Bvg N⟩, trivial⟩) Bht (B := (fun _ _ _ => none)) (Ad4.none _ _ _ _) (fun _ _ _ => rfl) (fun R k x K => Byb @Aes @Aet @Adc @Aa3 @Abk @Acy @Acz N R (fun a0 a1 a2 a3 a4 a5 a6 => Acy N k a0 a1 a2 a3 a4 a5 a6 (fun a => K .ret (Aab Ast ((a, ()), (())))) (fun a b d e f g => K (.exit 0) (Aab Asu (((), a, ()), ((b, d, e, f, g, ()), ()))))) x K) N
theorem Bvk (N : Nat) : Aax Tryz.prog 137 [] (sub Agb [1, 1, 1, 1, 0, 1, 0]) (Aaa Ag6 (A49 N N)) := (Bvj N).frag
theorem B6r (N : Nat) : Abc Tryz.prog 44 (Bpp N) :=
 ⟨Aa9 (fn := Tryz.f44) (c := Agb) (dom := (Aau [28, 13, 39])) (rs := [.tmp 2]) mixed htt (Aae (Aam (A22 N))) (Aag rfl) Tryz.func44 rfl rfl (by kernel_rfl) (Aah (l := [(13, sub Agb [1, 1, 1, 1, 0, 1, 0]), (39, sub Agb [1, 1, 1, 1, 1, 1, 0, 1, 0])]) (by kernel_rfl) ⟨⟨_, rfl, Bvk N⟩, ⟨_, rfl, Bvi N⟩, trivial⟩) (by decide) (by decide) (by decide) (fun R x C => Caq @Aes @Aet @Adc @Aa3 @Abk @Acy @Acz N R x C), Tryz.f44, Tryz.func44, rfl, by decide⟩
theorem Bzk (N : Nat) : Abc Tryz.prog 25 (Aoy N) :=
 ⟨Ciz, Tryz.f25, Tryz.func25, rfl, by decide⟩
theorem A73 (N : Nat) : Ac5 Tryz.prog (Ceg N) := ⟨B6r N, Bzk N, trivial⟩
theorem Bzl (N : Nat) : Aax Tryz.prog 62 [] (sub Ag5 [1, 1, 1, 1, 0, 1, 0, 0, 1, 0, 0, 1, 1, 0, 1, 0, 0, 1, 0, 0, 1]) (Aaa Aj6 (Bju N)) :=
 Adn (dom := (Aau [30, 23, 13])) mixed htt (Aae (Aam (A73 N))) (Aag rfl) (by kernel_rfl) (Aah (l := []) (by kernel_rfl) trivial) Bjt (fun R x K => B2b @Aeu @Adm @Ace @Adb N R x K)
theorem Bzm (N : Nat) : Ad4 Tryz.prog 62 [] (sub Ag5 [1, 1, 1, 1, 0, 1, 0, 0, 1, 0, 0, 1, 1, 0, 1, 0, 0]) (Aaa Ahw (A7v N N)) :=
 Adi (c := sub Ag5 [1, 1, 1, 1, 0, 1, 0, 0, 1, 0, 0, 1, 1, 0, 1, 0, 0]) (dom := (Aau [30, 23, 13])) mixed htt (Aae (Aam (A73 N))) (Aag rfl) (by kernel_rfl) (Aah (l := [(30, sub Ag5 [1, 1, 1, 1, 0, 1, 0, 0, 1, 0, 0, 1, 1, 0, 1, 0, 0, 1, 0, 0, 1])]) (by kernel_rfl) ⟨⟨_, rfl, Bzl N⟩, trivial⟩) Bjv (B := (fun _ _ _ => none)) (Ad4.none _ _ _ _) (fun _ _ _ => rfl) (fun R k x K => B2a @Aeu @Adm @Ace @Adb N R (fun a0 a1 a2 a3 a4 a5 a6 a7 a8 => Ace N k a0 a1 a2 a3 a4 a5 a6 a7 a8 (fun a b d e f g h => K (.exit 2) (Aab At4 (((), (), a, ()), ((b, d, e, f, g, ()), h, ()))))) x K) N
theorem Bzn (N : Nat) : Aax Tryz.prog 62 [] (sub Ag5 [1, 1, 1, 1, 0, 1, 0, 0, 1, 0, 0, 1, 1, 0, 1, 0]) (Aaa Ahw (A7v N N)) := (Bzm N).frag
theorem Bzo (N : Nat) : Ad4 Tryz.prog 62 [] (sub Ag5 [1, 1, 1, 1, 0, 1, 0, 0]) (Aaa Ahx (A7x N N)) :=
 Adi (c := sub Ag5 [1, 1, 1, 1, 0, 1, 0, 0]) (dom := (Aau [30, 23, 13])) mixed htt (Aae (Aam (A73 N))) (Aag rfl) (by kernel_rfl) (Aah (l := [(23, sub Ag5 [1, 1, 1, 1, 0, 1, 0, 0, 1, 0, 0, 1, 1, 0, 1, 0])]) (by kernel_rfl) ⟨⟨_, rfl, Bzn N⟩, trivial⟩) Bjx (B := (fun _ _ _ => none)) (Ad4.none _ _ _ _) (fun _ _ _ => rfl) (fun R k x K => B2n @Aeu @Adm @Ace @Adb N R (fun a0 a1 a2 a3 a4 a5 a6 => Adb N k a0 a1 a2 a3 a4 a5 a6 (fun a => K (.exit 0) (Aab At5 (((), ()), (a, ()))))) x K) N
theorem Bzp (N : Nat) : Aax Tryz.prog 62 [] (sub Ag5 [1, 1, 1, 1, 0, 1, 0]) (Aaa Ahx (A7x N N)) := (Bzo N).frag
theorem Ca7 (N : Nat) : Abc Tryz.prog 19 (Br9 N) :=
 ⟨Aa9 (fn := Tryz.f19) (c := Ag5) (dom := (Aau [30, 23, 13])) (rs := [.tmp 2, .tmp 3]) mixed htt (Aae (Aam (A73 N))) (Aag rfl) Tryz.func19 rfl rfl (by kernel_rfl) (Aah (l := [(13, sub Ag5 [1, 1, 1, 1, 0, 1, 0])]) (by kernel_rfl) ⟨⟨_, rfl, Bzp N⟩, trivial⟩) (by decide) (by decide) (by decide) (fun R x C => Cel @Aeu @Adm @Ace @Adb N R x C), Tryz.f19, Tryz.func19, rfl, by decide⟩
theorem Bvl (N : Nat) : Ac5 Tryz.prog (Bt1 N) := ⟨B5v N, B5w N, Ceu N, Ca7 N, trivial⟩
theorem Bsz (N : Nat) : Abc Tryz.prog 5 (Bd3 N) :=
 ⟨Aa9 (fn := Tryz.f5) (c := Bdu) (dom := (Aau [])) (rs := [.tmp 2]) mixed htt (Aae (Aam (Bvl N))) (Aag rfl) Tryz.func5 rfl rfl (by kernel_rfl) (Aah (l := []) (by kernel_rfl) trivial) (by decide) (by decide) (by decide) (fun R x C => Bt6 @Ajm @Am5 @Alw N R x C), Tryz.f5, Tryz.func5, rfl, by decide⟩
end
end Q

/- Part O of the proof. -/
import Derived.Test.YtgmoccpcginieaaE1
import Derived.Test.YtgmoccpcginieaaE2
import Derived.Test.YtgmoccpcginieaaSh
import Derived.WalkKit
import Derived.Laws.Externs
open Go Go.AX Go.Proofs
namespace Q
noncomputable section
set_option maxRecDepth 100000
set_option linter.unusedVariables false
theorem htt : Aob Try.prog tt := Czk (l := Dcr) (by kernel_rfl)
theorem mixed : Try.prog.follows .mixedOrders = true := by kernel_rfl
theorem Bra (N : Nat) : Aca Try.prog (Cal N) := trivial
theorem B02 (N : Nat) : Ab7 Try.prog 53 (List.replicate 32 true) (sub Apu [1, 1, 1, 0, 1, 0, 0]) (Aaa Ajm (A25 N N)) :=
 Abd (c := sub Apu [1, 1, 1, 0, 1, 0, 0]) (dom := (Aao [13])) mixed htt (Aad (Aah (Bra N))) (Aae rfl) (by kernel_rfl) (Aaf (l := []) (by kernel_rfl) trivial) Bgi (B := (fun _ _ _ => none)) (Ab7.none _ _ _ _) (fun _ _ _ => rfl) (fun R k x K => B2l @Aeh N R (fun a0 a1 a2 a3 a4 a5 => Aeh N k a0 a1 a2 a3 a4 a5 (fun a b d e => K (.exit 0) (Aab Atp ((a, ()), ((b, d, e, ()), ()))))) x K) N
theorem B03 (N : Nat) : Aa4 Try.prog 53 (List.replicate 32 true) (sub Apu [1, 1, 1, 0, 1, 0]) (Aaa Ajm (A25 N N)) := (B02 N).frag
theorem Aua (N : Nat) : Abc Try.prog 36 (Ar2 N) :=
 ⟨Aa8 (fn := Try.f36) (c := Apu) (dom := (Aao [13])) (rs := [.tmp 4]) mixed htt (Aad (Aah (Bra N))) (Aae rfl) Try.func36 rfl rfl (by kernel_rfl) (Aaf (l := [(13, sub Apu [1, 1, 1, 0, 1, 0])]) (by kernel_rfl) ⟨⟨_, rfl, B03 N⟩, trivial⟩) (by decide) (by decide) (by decide) (fun R x C => Ca1 @Aeh N R x C), Try.f36, Try.func36, rfl, by decide⟩
theorem B2o (N : Nat) : Aca Try.prog (B19 N) := ⟨Aua N, trivial⟩
theorem Bf2 (N : Nat) : Abc Try.prog 35 (A27 N) :=
 ⟨Aa8 (fn := Try.f35) (c := Bgh) (dom := (Aao [])) (rs := [.tmp 4]) mixed htt (Aad (Aah (B2o N))) (Aae rfl) Try.func35 rfl rfl (by kernel_rfl) (Aaf (l := []) (by kernel_rfl) trivial) (by decide) (by decide) (by decide) (fun R x C => B2n @Aag N R x C), Try.f35, Try.func35, rfl, by decide⟩
theorem Cwr (N : Nat) : Aca Try.prog (B61 N) := trivial
theorem B4q (N : Nat) : Abc Try.prog 38 (Bsh N) :=
 ⟨Aa8 (fn := Try.f38) (c := B60) (dom := (Aao [])) (rs := [.tmp 2]) mixed htt (Aad (Aah (Cwr N))) (Aae rfl) Try.func38 rfl rfl (by kernel_rfl) (Aaf (l := []) (by kernel_rfl) trivial) (by decide) (by decide) (by decide) (fun R x C => Cwp N R x C), Try.f38, Try.func38, rfl, by decide⟩
theorem Cws (N : Nat) : Aca Try.prog (B65 N) := trivial
theorem Bdi (N : Nat) : Abc Try.prog 37 (A78 N) :=
 ⟨Aa8 (fn := Try.f37) (c := B64) (dom := (Aao [])) (rs := [.tmp 2]) mixed htt (Aad (Aah (Cws N))) (Aae rfl) Try.func37 rfl rfl (by kernel_rfl) (Aaf (l := []) (by kernel_rfl) trivial) (by decide) (by decide) (by decide) (fun R x C => Cwk N R x C), Try.f37, Try.func37, rfl, by decide⟩
theorem Cpn (N : Nat) : Aca Try.prog (C30 N) := ⟨Bf2 N, B4q N, Bdi N, Aua N, trivial⟩
theorem Cst (N : Nat) : Aa4 Try.prog 94 [] (sub Bmh [1, 1, 1, 1, 1, 1, 1, 1]) (Aaa Awj (B63 N)) :=
 Afc (dom := (Aao [24])) mixed htt (Aad (Aah (Cpn N))) (Aae rfl) (by kernel_rfl) (Aaf (l := []) (by kernel_rfl) trivial) B62 (fun R x K => Cwe @Aa2 @Ac1 @Ab2 @Aag @Akf N R x K)
theorem Cjn (N : Nat) : Abc Try.prog 12 (B68 N) :=
 ⟨Aa8 (fn := Try.f12) (c := Bmh) (dom := (Aao [24])) (rs := [.cell 4 24, .tmp 5, .tmp 6]) mixed htt (Aad (Aah (Cpn N))) (Aae rfl) Try.func12 rfl rfl (by kernel_rfl) (Aaf (l := [(24, sub Bmh [1, 1, 1, 1, 1, 1, 1, 1])]) (by kernel_rfl) ⟨⟨_, rfl, Cst N⟩, trivial⟩) (by decide) (by decide) (by decide) (fun R x C => C35 @Aa2 @Ac1 @Ab2 @Aag @Akf N R x C), Try.f12, Try.func12, rfl, by decide⟩
theorem Csu (N : Nat) : Aca Try.prog (Cp5 N) := ⟨Cjn N, trivial⟩
theorem Cne (N : Nat) : Abc Try.prog 14 (B3e N) :=
 ⟨Aa8 (fn := Try.f14) (c := B3b) (dom := (Aao [])) (rs := [.tmp 0]) mixed htt (Aad (Aah (Csu N))) (Aae rfl) Try.func14 rfl rfl (by kernel_rfl) (Aaf (l := []) (by kernel_rfl) trivial) (by decide) (by decide) (by decide) (fun R x C => Cr5 @Aif N R x C), Try.f14, Try.func14, rfl, by decide⟩
theorem Cjo (N : Nat) : Aca Try.prog (C1z N) := trivial
theorem Csv (N : Nat) : Ab7 Try.prog 23 [] (sub A28 [1, 1, 0, 1, 0, 0]) (Aaa Arh (Bsn N N)) :=
 Abd (c := sub A28 [1, 1, 0, 1, 0, 0]) (dom := (Aao [7])) mixed htt (Aad (Aah (Cjo N))) (Aae rfl) (by kernel_rfl) (Aaf (l := []) (by kernel_rfl) trivial) B69 (B := (fun _ _ _ => none)) (Ab7.none _ _ _ _) (fun _ _ _ => rfl) (fun R k x K => Cwn @Akz N R (fun a0 a1 a2 a3 => Akz N k a0 a1 a2 a3 (fun a => K (.exit 0) (Aab Bac ((a, ()), (()))))) x K) N
theorem Csw (N : Nat) : Aa4 Try.prog 23 [] (sub A28 [1, 1, 0, 1, 0]) (Aaa Arh (Bsn N N)) := (Csv N).frag
theorem By7 (N : Nat) : Abc Try.prog 31 (Brn N) :=
 ⟨Aa8 (fn := Try.f31) (c := A28) (dom := (Aao [7])) (rs := [.tmp 2]) mixed htt (Aad (Aah (Cjo N))) (Aae rfl) Try.func31 rfl rfl (by kernel_rfl) (Aaf (l := [(7, sub A28 [1, 1, 0, 1, 0])]) (by kernel_rfl) ⟨⟨_, rfl, Csw N⟩, trivial⟩) (by decide) (by decide) (by decide) (fun R x C => C2c @Akz N R x C), Try.f31, Try.func31, rfl, by decide⟩
theorem B8h (N : Nat) : Aca Try.prog (B7c N) := ⟨Aua N, trivial⟩
theorem B5r (N : Nat) : Abc Try.prog 94 (Bmj N) :=
 ⟨Aa8 (fn := Try.f94) (c := Bmi) (dom := (Aao [])) (rs := [.tmp 2]) mixed htt (Aad (Aah (B8h N))) (Aae rfl) Try.func94 rfl rfl (by kernel_rfl) (Aaf (l := []) (by kernel_rfl) trivial) (by decide) (by decide) (by decide) (fun R x C => B76 @Aag N R x C), Try.f94, Try.func94, rfl, by decide⟩
theorem Bdj (N : Nat) : Aca Try.prog (Cp7 N) := ⟨Cjn N, trivial⟩
theorem Ca8 (N : Nat) : Aa4 Try.prog 58 [] (sub Akp [1, 1, 0, 1, 0, 0, 1, 0, 1, 1, 1, 0, 1, 0, 1]) (Aaa Amj (Bsx N)) :=
 Afc (dom := (Aao [28, 34, 7])) mixed htt (Aad (Aah (Bdj N))) (Aae rfl) (by kernel_rfl) (Aaf (l := []) (by kernel_rfl) trivial) Bsw (fun R x K => Ce3 @Aif @Ad5 @Adt @Aen N R x K)
theorem Ca9 (N : Nat) : Aa4 Try.prog 58 [] (sub Akp [1, 1, 0, 1, 0, 0, 1, 0, 1, 1, 1, 1]) (Aaa Amk (Bsz N)) :=
 Afc (dom := (Aao [28, 34, 7])) mixed htt (Aad (Aah (Bdj N))) (Aae rfl) (by kernel_rfl) (Aaf (l := []) (by kernel_rfl) trivial) Bsy (fun R x K => Ce4 @Aif @Ad5 @Adt @Aen N R x K)
theorem Cfu (N : Nat) : Ab7 Try.prog 58 [] (sub Akp [1, 1, 0, 1, 0, 0]) (Aaa Ak0 (Bgo N N)) :=
 Abd (c := sub Akp [1, 1, 0, 1, 0, 0]) (dom := (Aao [28, 34, 7])) mixed htt (Aad (Aah (Bdj N))) (Aae rfl) (by kernel_rfl) (Aaf (l := [(28, sub Akp [1, 1, 0, 1, 0, 0, 1, 0, 1, 1, 1, 0, 1, 0, 1]), (34, sub Akp [1, 1, 0, 1, 0, 0, 1, 0, 1, 1, 1, 1])]) (by kernel_rfl) ⟨⟨_, rfl, Ca8 N⟩, ⟨_, rfl, Ca9 N⟩, trivial⟩) Bwj (B := (fun _ _ _ => none)) (Ab7.none _ _ _ _) (fun _ _ _ => rfl) (fun R k x K => Cjk @Aif @Ad5 @Adt @Aen N R (fun a0 a1 a2 => Aen N k a0 a1 a2 (fun a b => K .ret (Aab A0x (((), a, ()), (b, ())))) (fun a => K (.exit 0) (Aab A0y (((), ()), (a, ()))))) x K) N
theorem Cfv (N : Nat) : Aa4 Try.prog 58 [] (sub Akp [1, 1, 0, 1, 0]) (Aaa Ak0 (Bgo N N)) := (Cfu N).frag
theorem Cnf (N : Nat) : Abc Try.prog 95 (B3g N) :=
 ⟨Aa8 (fn := Try.f95) (c := Akp) (dom := (Aao [28, 34, 7])) (rs := [.tmp 2, .tmp 3]) mixed htt (Aad (Aah (Bdj N))) (Aae rfl) Try.func95 rfl rfl (by kernel_rfl) (Aaf (l := [(7, sub Akp [1, 1, 0, 1, 0])]) (by kernel_rfl) ⟨⟨_, rfl, Cfv N⟩, trivial⟩) (by decide) (by decide) (by decide) (fun R x C => Csg @Aif @Ad5 @Adt @Aen N R x C), Try.f95, Try.func95, rfl, by decide⟩
theorem Ba0 (N : Nat) : Aca Try.prog (C11 N) := trivial
theorem Cng (N : Nat) : Aa4 Try.prog 107 [] (sub Aha [1, 1, 1, 1, 1, 1, 1, 0, 1, 0, 0, 1, 1, 0, 0, 1, 1, 1, 1]) (Aaa Amz (B3k N)) :=
 Afc (dom := (Aao [9, 25, 60, 48, 41])) mixed htt (Aad (Aah (Ba0 N))) (Aae rfl) (by kernel_rfl) (Aaf (l := []) (by kernel_rfl) trivial) B3j (fun R x K => Csa @Afh @Aej @Adz @Ae4 @Ad0 N R x K)
theorem Cnh (N : Nat) : Aa4 Try.prog 107 [] (sub Aha [1, 1, 1, 1, 1, 1, 1, 0, 1, 0, 0, 1, 1, 0, 0, 1, 1]) (Aaa Am0 (B3m N)) :=
 Afc (dom := (Aao [9, 25, 60, 48, 41])) mixed htt (Aad (Aah (Ba0 N))) (Aae rfl) (by kernel_rfl) (Aaf (l := [(60, sub Aha [1, 1, 1, 1, 1, 1, 1, 0, 1, 0, 0, 1, 1, 0, 0, 1, 1, 1, 1])]) (by kernel_rfl) ⟨⟨_, rfl, Cng N⟩, trivial⟩) B3l (fun R x K => Cr9 @Afh @Aej @Adz @Ae4 @Ad0 N R x K)
theorem Cni (N : Nat) : Ab7 Try.prog 107 [] (sub Aha [1, 1, 1, 1, 1, 1, 1, 0, 1, 0, 0]) (Aaa Akr (Bn3 N N)) :=
 Abd (c := sub Aha [1, 1, 1, 1, 1, 1, 1, 0, 1, 0, 0]) (dom := (Aao [9, 25, 60, 48, 41])) mixed htt (Aad (Aah (Ba0 N))) (Aae rfl) (by kernel_rfl) (Aaf (l := [(48, sub Aha [1, 1, 1, 1, 1, 1, 1, 0, 1, 0, 0, 1, 1, 0, 0, 1, 1])]) (by kernel_rfl) ⟨⟨_, rfl, Cnh N⟩, trivial⟩) B3n (B := (fun _ _ _ => none)) (Ab7.none _ _ _ _) (fun _ _ _ => rfl) (fun R k x K => Cru @Afh @Aej @Adz @Ae4 @Ad0 N R (fun a0 a1 a2 a3 a4 a5 a6 => Ad0 N k a0 a1 a2 a3 a4 a5 a6 (fun a b d => K .ret (Aab A6o (((), a, b, ()), (d, ())))) (fun a b => K (.exit 4) (Aab A6p ((a, (), ()), (b, ()))))) x K) N
theorem Cnj (N : Nat) : Aa4 Try.prog 107 [] (sub Aha [1, 1, 1, 1, 1, 1, 1, 0, 1, 0]) (Aaa Akr (Bn3 N N)) := (Cni N).frag
theorem Cnk (N : Nat) : Ab7 Try.prog 107 [] (sub Aha [1, 1, 1, 1, 1, 0, 1, 0, 0]) (Aaa Akq (Bnz N N)) :=
 Abd (c := sub Aha [1, 1, 1, 1, 1, 0, 1, 0, 0]) (dom := (Aao [9, 25, 60, 48, 41])) mixed htt (Aad (Aah (Ba0 N))) (Aae rfl) (by kernel_rfl) (Aaf (l := []) (by kernel_rfl) trivial) B3h (B := (fun _ _ _ => none)) (Ab7.none _ _ _ _) (fun _ _ _ => rfl) (fun R k x K => Crw @Afh @Aej @Adz @Ae4 @Ad0 N R (fun a0 a1 a2 a3 a4 a5 a6 => Aej N k a0 a1 a2 a3 a4 a5 a6 (fun a b d e => K (.exit 2) (Aab A6n ((a, (), (), b, ()), (d, e, ()))))) x K) N
theorem Cnl (N : Nat) : Aa4 Try.prog 107 [] (sub Aha [1, 1, 1, 1, 1, 0, 1, 0]) (Aaa Akq (Bnz N N)) := (Cnk N).frag
theorem Csx (N : Nat) : Ab7 Try.prog 107 [] (sub Aha [1, 1, 1, 0, 1, 0, 0]) (Aaa Al4 (Bs2 N N)) :=
 Abd (c := sub Aha [1, 1, 1, 0, 1, 0, 0]) (dom := (Aao [9, 25, 60, 48, 41])) mixed htt (Aad (Aah (Ba0 N))) (Aae rfl) (by kernel_rfl) (Aaf (l := []) (by kernel_rfl) trivial) B7d (B := (fun _ _ _ => none)) (Ab7.none _ _ _ _) (fun _ _ _ => rfl) (fun R k x K => Cwc @Afh @Aej @Adz @Ae4 @Ad0 N R (fun a0 a1 a2 a3 a4 a5 => Afh N k a0 a1 a2 a3 a4 a5 (fun a b d => K (.exit 0) (Aab Bad ((a, (), (), ()), (b, d, ()))))) x K) N
theorem Csy (N : Nat) : Aa4 Try.prog 107 [] (sub Aha [1, 1, 1, 0, 1, 0]) (Aaa Al4 (Bs2 N N)) := (Csx N).frag
theorem Cyq (N : Nat) : Abc Try.prog 96 (Cig N) :=
 ⟨Aa8 (fn := Try.f96) (c := Aha) (dom := (Aao [9, 25, 60, 48, 41])) (rs := [.tmp 2, .tmp 3, .tmp 4]) mixed htt (Aad (Aah (Ba0 N))) (Aae rfl) Try.func96 rfl rfl (by kernel_rfl) (Aaf (l := [(9, sub Aha [1, 1, 1, 0, 1, 0]), (25, sub Aha [1, 1, 1, 1, 1, 0, 1, 0]), (41, sub Aha [1, 1, 1, 1, 1, 1, 1, 0, 1, 0])]) (by kernel_rfl) ⟨⟨_, rfl, Csy N⟩, ⟨_, rfl, Cnl N⟩, ⟨_, rfl, Cnj N⟩, trivial⟩) (by decide) (by decide) (by decide) (fun R x C => C2f @Afh @Aej @Adz @Ae4 @Ad0 N R x C), Try.f96, Try.func96, rfl, by decide⟩
theorem Ayp (N : Nat) : Aca Try.prog (Cqb N) := ⟨Aua N, B5r N, Bf2 N, Cnf N, Cyq N, trivial⟩
theorem Cba (N : Nat) : Ab7 Try.prog 151 [] (sub Aem [1, 1, 1, 1, 1, 0, 1, 0, 0, 1, 1, 0, 0, 1, 0, 1, 0, 1, 1, 1, 0, 1, 0, 0]) (Aaa Ah2 (Bdv N N)) :=
 Abd (c := sub Aem [1, 1, 1, 1, 1, 0, 1, 0, 0, 1, 1, 0, 0, 1, 0, 1, 0, 1, 1, 1, 0, 1, 0, 0]) (dom := (Aao [36, 31, 15, 47, 71])) mixed htt (Aad (Aah (Ayp N))) (Aae rfl) (by kernel_rfl) (Aaf (l := []) (by kernel_rfl) trivial) Bsq (B := (fun _ _ _ => none)) (Ab7.none _ _ _ _) (fun _ _ _ => rfl) (fun R k x K => Cer @Aag @Abk @Aa2 @Ae3 @Ahm @Acr @Ack @Acl @Acm @Acs N R (fun a0 a1 a2 a3 a4 a5 a6 a7 a8 a9 a10 a11 a12 a13 a14 a15 a16 a17 a18 a19 a20 a21 => Ack N k a0 a1 a2 a3 a4 a5 a6 a7 a8 a9 a10 a11 a12 a13 a14 a15 a16 a17 a18 a19 a20 a21 (fun a b d e f g h i j m n o p q r s t u v w => K (.exit 3) (Aab Ayt (((), (), (), (), a, b, ()), ((d, (), (), (), e, f, ()), (g, h, i, ()), (j, (), (), (), m, n, ()), (o, p, (), ()), q, r, s, t, u, v, w, ()))))) x K) N
theorem Cbb (N : Nat) : Aa4 Try.prog 151 [] (sub Aem [1, 1, 1, 1, 1, 0, 1, 0, 0, 1, 1, 0, 0, 1, 0, 1, 0, 1, 1, 1, 0, 1, 0]) (Aaa Ah2 (Bdv N N)) := (Cba N).frag
theorem Cbc (N : Nat) : Ab7 Try.prog 151 [] (sub Aem [1, 1, 1, 1, 1, 1, 1, 1, 1, 1, 1, 1, 0, 1, 0, 0]) (Aaa Ah5 (Bd2 N N)) :=
 Abd (c := sub Aem [1, 1, 1, 1, 1, 1, 1, 1, 1, 1, 1, 1, 0, 1, 0, 0]) (dom := (Aao [36, 31, 15, 47, 71])) mixed htt (Aad (Aah (Ayp N))) (Aae rfl) (by kernel_rfl) (Aaf (l := []) (by kernel_rfl) trivial) Bs3 (B := (fun _ _ _ => none)) (Ab7.none _ _ _ _) (fun _ _ _ => rfl) (fun R k x K => Ces @Aag @Abk @Aa2 @Ae3 @Ahm @Acr @Ack @Acl @Acm @Acs N R (fun a0 a1 a2 a3 a4 a5 a6 a7 a8 a9 a10 a11 a12 a13 a14 a15 a16 a17 a18 => Acs N k a0 a1 a2 a3 a4 a5 a6 a7 a8 a9 a10 a11 a12 a13 a14 a15 a16 a17 a18 (fun a b d e f g h i j m n o p q r s t => K (.exit 7) (Aab Ayy (((), (), (), a, b, ()), ((d, (), (), (), e, f, ()), (g, h, i, ()), (j, (), (), (), m, n, ()), o, p, q, r, s, t, ()))))) x K) N
theorem Cbd (N : Nat) : Aa4 Try.prog 151 [] (sub Aem [1, 1, 1, 1, 1, 1, 1, 1, 1, 1, 1, 1, 0, 1, 0]) (Aaa Ah5 (Bd2 N N)) := (Cbc N).frag
theorem Cbe (N : Nat) : Aa4 Try.prog 151 [] (sub Aem [1, 1, 1, 1, 1, 0, 1, 0, 0, 1, 1, 0, 0, 1, 1]) (Aaa Aj6 (Bsp N)) :=
 Afc (dom := (Aao [36, 31, 15, 47, 71])) mixed htt (Aad (Aah (Ayp N))) (Aae rfl) (by kernel_rfl) (Aaf (l := []) (by kernel_rfl) trivial) Bso (fun R x K => Cet @Aag @Abk @Aa2 @Ae3 @Ahm @Acr @Ack @Acl @Acm @Acs N R x K)
theorem Cbf (N : Nat) : Ab7 Try.prog 151 [] (sub Aem [1, 1, 1, 1, 1, 1, 0, 1, 0, 0]) (Aaa Ah4 (Bdz N N)) :=
 Abd (c := sub Aem [1, 1, 1, 1, 1, 1, 0, 1, 0, 0]) (dom := (Aao [36, 31, 15, 47, 71])) mixed htt (Aad (Aah (Ayp N))) (Aae rfl) (by kernel_rfl) (Aaf (l := []) (by kernel_rfl) trivial) Bsu (B := (fun _ _ _ => none)) (Ab7.none _ _ _ _) (fun _ _ _ => rfl) (fun R k x K => Cfe @Aag @Abk @Aa2 @Ae3 @Ahm @Acr @Ack @Acl @Acm @Acs N R (fun a0 a1 a2 a3 a4 a5 a6 a7 a8 a9 a10 a11 a12 a13 a14 a15 a16 => Acm N k a0 a1 a2 a3 a4 a5 a6 a7 a8 a9 a10 a11 a12 a13 a14 a15 a16 (fun a b d e f g h i j m n o p q r => K (.exit 5) (Aab Ayw (((), (), (), ()), ((a, (), (), (), b, d, ()), (e, f, g, ()), (h, (), (), (), i, j, ()), m, n, o, p, q, r, ()))))) x K) N
theorem Cbg (N : Nat) : Aa4 Try.prog 151 [] (sub Aem [1, 1, 1, 1, 1, 1, 0, 1, 0]) (Aaa Ah4 (Bdz N N)) := (Cbf N).frag
theorem Cbh (N : Nat) : Ab7 Try.prog 151 [] (sub Aem [1, 1, 1, 1, 1, 0, 1, 0, 0]) (Aaa Ah3 (Bdx N N)) :=
 Abd (c := sub Aem [1, 1, 1, 1, 1, 0, 1, 0, 0]) (dom := (Aao [36, 31, 15, 47, 71])) mixed htt (Aad (Aah (Ayp N))) (Aae rfl) (by kernel_rfl) (Aaf (l := [(31, sub Aem [1, 1, 1, 1, 1, 0, 1, 0, 0, 1, 1, 0, 0, 1, 0, 1, 0, 1, 1, 1, 0, 1, 0]), (36, sub Aem [1, 1, 1, 1, 1, 0, 1, 0, 0, 1, 1, 0, 0, 1, 1])]) (by kernel_rfl) ⟨⟨_, rfl, Cbb N⟩, ⟨_, rfl, Cbe N⟩, trivial⟩) Bss (B := (fun _ _ _ => none)) (Ab7.none _ _ _ _) (fun _ _ _ => rfl) (fun R k x K => Cfd @Aag @Abk @Aa2 @Ae3 @Ahm @Acr @Ack @Acl @Acm @Acs N R (fun a0 a1 a2 a3 a4 a5 a6 a7 a8 a9 a10 a11 a12 a13 a14 a15 a16 => Acl N k a0 a1 a2 a3 a4 a5 a6 a7 a8 a9 a10 a11 a12 a13 a14 a15 a16 (fun a b d e f g h i j => K .ret (Aab Ayu (((), a, b, d, ()), ((e, (), (), (), f, g, ()), h, i, j, ())))) (fun a b d e f g h i j m n o p q r => K (.exit 0) (Aab Ayv (((), (), (), ()), ((a, (), (), (), b, d, ()), (e, f, g, ()), (h, (), (), (), i, j, ()), m, n, o, p, q, r, ()))))) x K) N
theorem Cbi (N : Nat) : Aa4 Try.prog 151 [] (sub Aem [1, 1, 1, 1, 1, 0, 1, 0]) (Aaa Ah3 (Bdx N N)) := (Cbh N).frag
theorem Cnm (N : Nat) : Abc Try.prog 76 (B3p N) :=
 ⟨Aa8 (fn := Try.f76) (c := Aem) (dom := (Aao [36, 31, 15, 47, 71])) (rs := [.cell 2 34, .tmp 3, .tmp 4, .tmp 5]) mixed htt (Aad (Aah (Ayp N))) (Aae rfl) Try.func76 rfl rfl (by kernel_rfl) (Aaf (l := [(15, sub Aem [1, 1, 1, 1, 1, 0, 1, 0]), (47, sub Aem [1, 1, 1, 1, 1, 1, 0, 1, 0]), (71, sub Aem [1, 1, 1, 1, 1, 1, 1, 1, 1, 1, 1, 1, 0, 1, 0])]) (by kernel_rfl) ⟨⟨_, rfl, Cbi N⟩, ⟨_, rfl, Cbg N⟩, ⟨_, rfl, Cbd N⟩, trivial⟩) (by decide) (by decide) (by decide) (fun R x C => Crs @Aag @Abk @Aa2 @Ae3 @Ahm @Acr @Ack @Acl @Acm @Acs N R x C), Try.f76, Try.func76, rfl, by decide⟩
theorem B4r (N : Nat) : Aca Try.prog (Cqd N) := trivial
theorem Cbj (N : Nat) : Ab7 Try.prog 50 [] (sub Au2 [1, 1, 1, 0, 1, 0, 0]) (Aaa Aml (Bd5 N N)) :=
 Abd (c := sub Au2 [1, 1, 1, 0, 1, 0, 0]) (dom := (Aao [11])) mixed htt (Aad (Aah (B4r N))) (Aae rfl) (by kernel_rfl) (Aaf (l := []) (by kernel_rfl) trivial) Bs5 (B := (fun _ _ _ => none)) (Ab7.none _ _ _ _) (fun _ _ _ => rfl) (fun R k x K => Cfr @Age N R (fun a0 a1 a2 a3 => Age N k a0 a1 a2 a3 (fun a => K (.exit 0) (Aab Ayz ((a, ()), (()))))) x K) N
theorem Cbk (N : Nat) : Aa4 Try.prog 50 [] (sub Au2 [1, 1, 1, 0, 1, 0]) (Aaa Aml (Bd5 N N)) := (Cbj N).frag
theorem Cnn (N : Nat) : Abc Try.prog 87 (B3s N) :=
 ⟨Aa8 (fn := Try.f87) (c := Au2) (dom := (Aao [11])) (rs := [.tmp 2]) mixed htt (Aad (Aah (B4r N))) (Aae rfl) Try.func87 rfl rfl (by kernel_rfl) (Aaf (l := [(11, sub Au2 [1, 1, 1, 0, 1, 0])]) (by kernel_rfl) ⟨⟨_, rfl, Cbk N⟩, trivial⟩) (by decide) (by decide) (by decide) (fun R x C => Csp @Age N R x C), Try.f87, Try.func87, rfl, by decide⟩
theorem Cwt : (Try.prog.info? 147).map (·.size) = some 2 := by kernel_rfl
theorem C6w : liesAt Try.prog Try.prog.depth 147 (2 / Try.prog.cellsOf 147) 0 147 1 = true := by kernel_rfl
set_option maxHeartbeats 1000000 in
theorem Cno (b : Nat) (w : World) (h0 : w.cell? ⟨b, 0, none⟩ = some (.pointer (some ⟨b, 0, none⟩))) :
  Calls Try.prog 122 #[.pointer (some ⟨b, 0, none⟩)] w fun e w' => e = .returned (.tuple #[]) ∧ w' = w := by
 obtain ⟨j, hj, _⟩ := Option.map_eq_some_iff.1 Cwt
 go_enter Try.func122, Try.ntmps122
 go_wp2
 rw [Lib.run_neq_ptr_same w _ Try.underlying145 hj]
 go_wp2
 go_end0
 exact ⟨rfl, rfl⟩
set_option maxHeartbeats 1000000 in
theorem Cjp (b : Nat) (w : World) (h0 : w.cell? ⟨b, 0, none⟩ = some (.pointer none)) (hsh : w.shape? b = some (147, 2)) (hfz : w.frozen? ⟨b, 0, none⟩ = false) :
  Calls Try.prog 122 #[.pointer (some ⟨b, 0, none⟩)] w fun e w' => e = .returned (.tuple #[]) ∧ w' = w.setCell ⟨b, 0, none⟩ (.pointer (some ⟨b, 0, none⟩)) := by
 obtain ⟨j, hj, hjs⟩ := Option.map_eq_some_iff.1 Cwt
 go_enter Try.func122, Try.ntmps122
 go_wp2
 rw [Lib.run_to_unsafe w ⟨b, 0, none⟩ Try.underlying145 Try.underlying155 hj (by rw [hjs]; decide) hsh (Nat.zero_lt_succ 1)]
 simp only [Result.andThen]
 rw [Oper.upon_value]
 go_wp2
 rw [run_callFunc_extern Try.func125 (by kernel_rfl) (by kernel_rfl) (by kernel_rfl) (e := Extern.AbiNoEscape.same) (by kernel_rfl)]
 rw [Lib.run_noEscape]
 simp only [Result.andThen]
 rw [Oper.upon_value]
 go_wp2
 rw [Lib.run_from_unsafe w ⟨b, 0, none⟩ Try.underlying155 Try.underlying145 hj hsh C6w]
 simp only [Result.andThen]
 rw [Oper.upon_value]
 go_wp2
 go_end0
 exact ⟨rfl, rfl⟩
theorem A2l (N : Nat) : Abc Try.prog 122 (At2 N) :=
 ⟨Cu4 Cno Cjp, Try.f122, Try.func122, rfl, by decide⟩
theorem Bnd (N : Nat) : Aca Try.prog (A2s N) := ⟨A2l N, trivial⟩
theorem Blu (N : Nat) : Abc Try.prog 115 (A2r N) :=
 ⟨Aa8 (fn := Try.f115) (c := Ap4) (dom := (Aao [])) (rs := [.tmp 4]) mixed htt (Aad (Aah (Bnd N))) (Aae rfl) Try.func115 rfl rfl (by kernel_rfl) (Aaf (l := []) (by kernel_rfl) trivial) (by decide) (by decide) (by decide) (fun R x C => Bnc N R x C), Try.f115, Try.func115, rfl, by decide⟩
theorem B2p (N : Nat) : Abc Try.prog 116 (Axl N) :=
 ⟨Cu3 Try.strings_IndexByte, Try.f116, Try.func116, rfl, by decide⟩
theorem Bir (N : Nat) : Aca Try.prog (Ay1 N) := ⟨A2l N, trivial⟩
theorem Bf6 (N : Nat) : Abc Try.prog 115 (Ay0 N) :=
 ⟨Aa8 (fn := Try.f115) (c := Ap4) (dom := (Aao [])) (rs := [.tmp 4]) mixed htt (Aad (Aah (Bir N))) (Aae rfl) Try.func115 rfl rfl (by kernel_rfl) (Aaf (l := []) (by kernel_rfl) trivial) (by decide) (by decide) (by decide) (fun R x C => Biq N R x C), Try.f115, Try.func115, rfl, by decide⟩
theorem Bro (N : Nat) : Abc Try.prog 117 (Ark N) :=
 ⟨C3x Try.lays169 Try.Builder_Extra_169, Try.f117, Try.func117, rfl, by decide⟩
theorem Cdg (N : Nat) : Aca Try.prog (Cxz N) := ⟨C0h rfl (Blu N) (Bf6 N), B2p N, Bro N, trivial⟩
theorem Cnp (N : Nat) : Ab7 Try.prog 41 [] (sub A0g [1, 1, 1, 0, 1, 0, 0]) (Aaa Aqb (Bob N N)) :=
 Abd (c := sub A0g [1, 1, 1, 0, 1, 0, 0]) (dom := (Aao [9])) mixed htt (Aad (Aah (Cdg N))) (Aae rfl) (by kernel_rfl) (Aaf (l := []) (by kernel_rfl) trivial) B3t (B := (fun _ _ _ => none)) (Ab7.none _ _ _ _) (fun _ _ _ => rfl) (fun R k x K => Csb @Acq @Aa7 @Ai2 N R (fun a0 a1 a2 a3 => Ai2 N k a0 a1 a2 a3 (fun a b => K .ret (Aab A6s ((a, b, ()), (())))) (fun a b => K (.exit 0) (Aab A6t ((a, (), ()), (((), (), ()), b, ()))))) x K) N
theorem Cnq (N : Nat) : Aa4 Try.prog 41 [] (sub A0g [1, 1, 1, 0, 1, 0]) (Aaa Aqb (Bob N N)) := (Cnp N).frag
theorem B8i (N : Nat) : Abc Try.prog 104 (Byl N) :=
 ⟨Aa8 (fn := Try.f104) (c := A0g) (dom := (Aao [9])) (rs := [.tmp 2, .tmp 3]) mixed htt (Aad (Aah (Cdg N))) (Aae rfl) Try.func104 rfl rfl (by kernel_rfl) (Aaf (l := [(9, sub A0g [1, 1, 1, 0, 1, 0])]) (by kernel_rfl) ⟨⟨_, rfl, Cnq N⟩, trivial⟩) (by decide) (by decide) (by decide) (fun R x C => Cyn @Acq @Aa7 @Ai2 N R x C), Try.f104, Try.func104, rfl, by decide⟩
theorem Csz (N : Nat) : Aca Try.prog (B3w N) := trivial
theorem B04 (N : Nat) : Abc Try.prog 105 (Bod N) :=
 ⟨Aa8 (fn := Try.f105) (c := B3v) (dom := (Aao [])) (rs := [.cell 0 133]) mixed htt (Aad (Aah (Csz N))) (Aae rfl) Try.func105 rfl rfl (by kernel_rfl) (Aaf (l := []) (by kernel_rfl) trivial) (by decide) (by decide) (by decide) (fun R x C => Cr6 N R x C), Try.f105, Try.func105, rfl, by decide⟩
theorem C2h (N : Nat) : Aca Try.prog (Cii N) := trivial
theorem Bl7 (N : Nat) : Abc Try.prog 119 (Bgx N) :=
 ⟨Aa8 (fn := Try.f119) (c := Cih) (dom := (Aao [])) (rs := [.tmp 6]) mixed htt (Aad (Aah (C2h N))) (Aae rfl) Try.func119 rfl rfl (by kernel_rfl) (Aaf (l := []) (by kernel_rfl) trivial) (by decide) (by decide) (by decide) (fun R x C => C2g N R x C), Try.f119, Try.func119, rfl, by decide⟩
theorem Cwu (N : Nat) : Aca Try.prog (Cvq N) := ⟨Bl7 N, trivial⟩
theorem B4s (N : Nat) : Abc Try.prog 118 (Bs9 N) :=
 ⟨Aa8 (fn := Try.f118) (c := B7h) (dom := (Aao [])) (rs := [.tmp 2]) mixed htt (Aad (Aah (Cwu N))) (Aae rfl) Try.func118 rfl rfl (by kernel_rfl) (Aaf (l := []) (by kernel_rfl) trivial) (by decide) (by decide) (by decide) (fun R x C => Cwo @Abv N R x C), Try.f118, Try.func118, rfl, by decide⟩
theorem Bxn (N : Nat) : Aca Try.prog (Cik N) := ⟨Bl7 N, B4s N, trivial⟩
theorem B5s (N : Nat) : Aa4 Try.prog 102 [] (sub Ay2 [1, 1, 1]) (Aaa Aoj (Bmo N)) :=
 Afc (dom := (Aao [42])) mixed htt (Aad (Aah (Bxn N))) (Aae rfl) (by kernel_rfl) (Aaf (l := []) (by kernel_rfl) trivial) Bmn (fun R x K => B8f @Abv @Ahb @Ac0 N R x K)
theorem Cfw (N : Nat) : Abc Try.prog 106 (Bwl N) :=
 ⟨Aa8 (fn := Try.f106) (c := Ay2) (dom := (Aao [42])) (rs := [.tmp 6]) mixed htt (Aad (Aah (Bxn N))) (Aae rfl) Try.func106 rfl rfl (by kernel_rfl) (Aaf (l := [(42, sub Ay2 [1, 1, 1])]) (by kernel_rfl) ⟨⟨_, rfl, B5s N⟩, trivial⟩) (by decide) (by decide) (by decide) (fun R x C => Ci8 @Abv @Ahb @Ac0 N R x C), Try.f106, Try.func106, rfl, by decide⟩
theorem B05 (N : Nat) : Aca Try.prog (Clx N) := trivial
theorem Cbl (N : Nat) : Ab7 Try.prog 74 [] (sub Asz [1, 1, 1, 0, 1, 0, 0]) (Aaa Amn (Bec N N)) :=
 Abd (c := sub Asz [1, 1, 1, 0, 1, 0, 0]) (dom := (Aao [9])) mixed htt (Aad (Aah (B05 N))) (Aae rfl) (by kernel_rfl) (Aaf (l := []) (by kernel_rfl) trivial) Btc (B := (fun _ _ _ => none)) (Ab7.none _ _ _ _) (fun _ _ _ => rfl) (fun R k x K => Ce1 @Agw N R (fun a0 a1 a2 a3 a4 a5 a6 a7 a8 a9 a10 a11 a12 => Agw N k a0 a1 a2 a3 a4 a5 a6 a7 a8 a9 a10 a11 a12 (fun a b d => K .ret (Aab Ay6 (((), (), a, ()), (b, d, ())))) (fun a b d e f g h i j m => K (.exit 0) (Aab Ay7 (((), (), (), a, b, ()), ((d, e, f, g, h, i, ()), j, m, ()))))) x K) N
theorem Cbm (N : Nat) : Aa4 Try.prog 74 [] (sub Asz [1, 1, 1, 0, 1, 0]) (Aaa Amn (Bec N N)) := (Cbl N).frag
theorem Bxo (N : Nat) : Abc Try.prog 107 (Bj3 N) :=
 ⟨Aa8 (fn := Try.f107) (c := Asz) (dom := (Aao [9])) (rs := [.tmp 2, .tmp 3, .tmp 4]) mixed htt (Aad (Aah (B05 N))) (Aae rfl) Try.func107 rfl rfl (by kernel_rfl) (Aaf (l := [(9, sub Asz [1, 1, 1, 0, 1, 0])]) (by kernel_rfl) ⟨⟨_, rfl, Cbm N⟩, trivial⟩) (by decide) (by decide) (by decide) (fun R x C => Cm8 @Agw N R x C), Try.f107, Try.func107, rfl, by decide⟩
theorem B8j (N : Nat) : Aca Try.prog (Cvs N) := trivial
theorem Cfx (N : Nat) : Aa4 Try.prog 39 [] (sub A8h [1, 0, 1, 0, 1]) (Aaa Arl (Bwn N)) :=
 Afc (dom := (Aao [12])) mixed htt (Aad (Aah (B8j N))) (Aae rfl) (by kernel_rfl) (Aaf (l := []) (by kernel_rfl) trivial) Bwm (fun R x K => Cjf @Ag2 N R x K)
theorem B4t (N : Nat) : Abc Try.prog 113 (Bti N) :=
 ⟨Aa8 (fn := Try.f113) (c := A8h) (dom := (Aao [12])) (rs := [.tmp 4]) mixed htt (Aad (Aah (B8j N))) (Aae rfl) Try.func113 rfl rfl (by kernel_rfl) (Aaf (l := [(12, sub A8h [1, 0, 1, 0, 1])]) (by kernel_rfl) ⟨⟨_, rfl, Cfx N⟩, trivial⟩) (by decide) (by decide) (by decide) (fun R x C => Cwi @Ag2 N R x C), Try.f113, Try.func113, rfl, by decide⟩
theorem Bdk (N : Nat) : Aca Try.prog (Cqi N) := ⟨B4t N, trivial⟩
theorem Cbn (N : Nat) : Ab7 Try.prog 132 [] (sub Ai8 [1, 0, 1, 0, 0, 1, 0, 0, 1, 0, 1, 0, 1, 0, 0, 1, 0, 0]) (Aaa Aj8 (Bee N N)) :=
 Abd (c := sub Ai8 [1, 0, 1, 0, 0, 1, 0, 0, 1, 0, 1, 0, 1, 0, 0, 1, 0, 0]) (dom := (Aao [17, 44, 5])) mixed htt (Aad (Aah (Bdk N))) (Aae rfl) (by kernel_rfl) (Aaf (l := []) (by kernel_rfl) trivial) Bte (B := (fun _ _ _ => none)) (Ab7.none _ _ _ _) (fun _ _ _ => rfl) (fun R k x K => Cfn @Ac2 @Aed @Acn @Ad6 N R (fun a0 a1 a2 a3 => Aed N k a0 a1 a2 a3 (fun a => K .ret (Aab Ay8 ((a, ()), (())))) (fun a b => K (.exit 3) (Aab Ay9 ((a, b, ()), (()))))) x K) N
theorem Cbo (N : Nat) : Aa4 Try.prog 132 [] (sub Ai8 [1, 0, 1, 0, 0, 1, 0, 0, 1, 0, 1, 0, 1, 0, 0, 1, 0]) (Aaa Aj8 (Bee N N)) := (Cbn N).frag
theorem Cbp (N : Nat) : Aa4 Try.prog 132 [] (sub Ai8 [1, 0, 1, 0, 0, 1, 0, 0, 1, 1]) (Aaa Amo (Btk N)) :=
 Afc (dom := (Aao [17, 44, 5])) mixed htt (Aad (Aah (Bdk N))) (Aae rfl) (by kernel_rfl) (Aaf (l := []) (by kernel_rfl) trivial) Btj (fun R x K => Cfo @Ac2 @Aed @Acn @Ad6 N R x K)
theorem Cfy (N : Nat) : Ab7 Try.prog 132 [] (sub Ai8 [1, 0, 1, 0, 0]) (Aaa Ak1 (Bg4 N N)) :=
 Abd (c := sub Ai8 [1, 0, 1, 0, 0]) (dom := (Aao [17, 44, 5])) mixed htt (Aad (Aah (Bdk N))) (Aae rfl) (by kernel_rfl) (Aaf (l := [(17, sub Ai8 [1, 0, 1, 0, 0, 1, 0, 0, 1, 0, 1, 0, 1, 0, 0, 1, 0]), (44, sub Ai8 [1, 0, 1, 0, 0, 1, 0, 0, 1, 1])]) (by kernel_rfl) ⟨⟨_, rfl, Cbo N⟩, ⟨_, rfl, Cbp N⟩, trivial⟩) Bwo (B := (fun _ _ _ => none)) (Ab7.none _ _ _ _) (fun _ _ _ => rfl) (fun R k x K => Ci7 @Ac2 @Aed @Acn @Ad6 N R (fun a0 a1 => Ad6 N k a0 a1 (fun a => K .ret (Aab A00 ((a, ()), (())))) (fun a => K (.exit 0) (Aab A01 ((a, ()), (()))))) x K) N
theorem Cfz (N : Nat) : Aa4 Try.prog 132 [] (sub Ai8 [1, 0, 1, 0]) (Aaa Ak1 (Bg4 N N)) := (Cfy N).frag
theorem Cnr (N : Nat) : Abc Try.prog 108 (B3x N) :=
 ⟨Aa8 (fn := Try.f108) (c := Ai8) (dom := (Aao [17, 44, 5])) (rs := [.tmp 2]) mixed htt (Aad (Aah (Bdk N))) (Aae rfl) Try.func108 rfl rfl (by kernel_rfl) (Aaf (l := [(5, sub Ai8 [1, 0, 1, 0])]) (by kernel_rfl) ⟨⟨_, rfl, Cfz N⟩, trivial⟩) (by decide) (by decide) (by decide) (fun R x C => Csh @Ac2 @Aed @Acn @Ad6 N R x C), Try.f108, Try.func108, rfl, by decide⟩
theorem Cjq (N : Nat) : Aca Try.prog (Cin N) := ⟨B4s N, trivial⟩
theorem Cf0 (N : Nat) : Abc Try.prog 121 (Bwr N) :=
 ⟨Aa8 (fn := Try.f121) (c := Bwq) (dom := (Aao [])) (rs := [.tmp 2]) mixed htt (Aad (Aah (Cjq N))) (Aae rfl) Try.func121 rfl rfl (by kernel_rfl) (Aaf (l := []) (by kernel_rfl) trivial) (by decide) (by decide) (by decide) (fun R x C => Cjm @Ahb N R x C), Try.f121, Try.func121, rfl, by decide⟩
theorem A5m (N : Nat) : Aca Try.prog (Boh N) := ⟨Cf0 N, trivial⟩
theorem Bja (N : Nat) : Ab7 Try.prog 19 [] (sub Ai9 [1, 0, 1, 0, 0]) (Aaa Afz (As4 N N)) :=
 Abd (c := sub Ai9 [1, 0, 1, 0, 0]) (dom := (Aao [5])) mixed htt (Aad (Aah (A5m N))) (Aae rfl) (by kernel_rfl) (Aaf (l := []) (by kernel_rfl) trivial) A1z (B := (fun _ _ _ => none)) (Ab7.none _ _ _ _) (fun _ _ _ => rfl) (fun R k x K => Blt @Ah6 @Ab0 N R (fun a0 a1 a2 => Ab0 N k a0 a1 a2 (fun a => K .ret (Aab Ans ((a, ()), (())))) (K (.exit 0) (Aab Ant ((()), (()))))) x K) N
theorem Bjb (N : Nat) : Aa4 Try.prog 19 [] (sub Ai9 [1, 0, 1, 0]) (Aaa Afz (As4 N N)) := (Bja N).frag
theorem Bne (N : Nat) : Abc Try.prog 124 (A48 N) :=
 ⟨Aa8 (fn := Try.f124) (c := Ai9) (dom := (Aao [5])) (rs := [.tmp 4]) mixed htt (Aad (Aah (A5m N))) (Aae rfl) Try.func124 rfl rfl (by kernel_rfl) (Aaf (l := [(5, sub Ai9 [1, 0, 1, 0])]) (by kernel_rfl) ⟨⟨_, rfl, Bjb N⟩, trivial⟩) (by decide) (by decide) (by decide) (fun R x C => Bqf @Ah6 @Ab0 N R x C), Try.f124, Try.func124, rfl, by decide⟩
theorem Bjc (N : Nat) : Aca Try.prog (Bi8 N) := ⟨Bne N, trivial⟩
theorem Bis (N : Nat) : Abc Try.prog 120 (A0t N) :=
 ⟨Aa8 (fn := Try.f120) (c := A0s) (dom := (Aao [])) (rs := [.tmp 4]) mixed htt (Aad (Aah (Bjc N))) (Aae rfl) Try.func120 rfl rfl (by kernel_rfl) (Aaf (l := []) (by kernel_rfl) trivial) (by decide) (by decide) (by decide) (fun R x C => Bi9 @Ae6 N R x C), Try.f120, Try.func120, rfl, by decide⟩
theorem Bqg (N : Nat) : Aca Try.prog (Cqm N) := ⟨B8i N, Bis N, Bl7 N, trivial⟩
theorem Cbq (N : Nat) : Ab7 Try.prog 78 [] (sub Al0 [1, 1, 1, 0, 1, 0, 0]) (Aaa Ali (Beh N N)) :=
 Abd (c := sub Al0 [1, 1, 1, 0, 1, 0, 0]) (dom := (Aao [5, 27])) mixed htt (Aad (Aah (Bqg N))) (Aae rfl) (by kernel_rfl) (Aaf (l := []) (by kernel_rfl) trivial) Btl (B := (fun _ _ _ => none)) (Ab7.none _ _ _ _) (fun _ _ _ => rfl) (fun R k x K => Cfm @Aes @Abo @Abv @Afu @Aey N R (fun a0 a1 a2 a3 a4 a5 a6 a7 a8 a9 => Aey N k a0 a1 a2 a3 a4 a5 a6 a7 a8 a9 (fun a => K .ret (Aab Azd ((a, ()), (())))) (K (.exit 2) (Aab Aze ((()), (()))))) x K) N
theorem Cbr (N : Nat) : Aa4 Try.prog 78 [] (sub Al0 [1, 1, 1, 0, 1, 0]) (Aaa Ali (Beh N N)) := (Cbq N).frag
theorem Cf1 (N : Nat) : Ab7 Try.prog 78 [] (sub Al0 [1, 0, 1, 0, 0]) (Aaa Ame (Bg9 N N)) :=
 Abd (c := sub Al0 [1, 0, 1, 0, 0]) (dom := (Aao [5, 27])) mixed htt (Aad (Aah (Bqg N))) (Aae rfl) (by kernel_rfl) (Aaf (l := []) (by kernel_rfl) trivial) Bws (B := (fun _ _ _ => none)) (Ab7.none _ _ _ _) (fun _ _ _ => rfl) (fun R k x K => Ci3 @Aes @Abo @Abv @Afu @Aey N R (fun a0 a1 a2 a3 a4 a5 a6 a7 a8 => Afu N k a0 a1 a2 a3 a4 a5 a6 a7 a8 (fun a => K .ret (Aab A03 ((a, ()), (())))) (fun a b d e f g => K (.exit 0) (Aab A04 (((), ()), ((a, b, d, e, f, g, ()), ()))))) x K) N
theorem Cf2 (N : Nat) : Aa4 Try.prog 78 [] (sub Al0 [1, 0, 1, 0]) (Aaa Ame (Bg9 N N)) := (Cf1 N).frag
theorem Cns (N : Nat) : Abc Try.prog 109 (B3y N) :=
 ⟨Aa8 (fn := Try.f109) (c := Al0) (dom := (Aao [5, 27])) (rs := [.tmp 2]) mixed htt (Aad (Aah (Bqg N))) (Aae rfl) Try.func109 rfl rfl (by kernel_rfl) (Aaf (l := [(5, sub Al0 [1, 0, 1, 0]), (27, sub Al0 [1, 1, 1, 0, 1, 0])]) (by kernel_rfl) ⟨⟨_, rfl, Cf2 N⟩, ⟨_, rfl, Cbr N⟩, trivial⟩) (by decide) (by decide) (by decide) (fun R x C => Cse @Aes @Abo @Abv @Afu @Aey N R x C), Try.f109, Try.func109, rfl, by decide⟩
theorem B4u (N : Nat) : Aca Try.prog (Cqo N) := trivial
theorem Cbs (N : Nat) : Aa4 Try.prog 17 [] (sub A5a [1, 0, 1, 0, 1]) (Aaa Aqo (Bto N)) :=
 Afc (dom := (Aao [14])) mixed htt (Aad (Aah (B4u N))) (Aae rfl) (by kernel_rfl) (Aaf (l := []) (by kernel_rfl) trivial) Btn (fun R x K => Cfa @Af0 N R x K)
theorem Ba1 (N : Nat) : Abc Try.prog 54 (A5b N) :=
 ⟨Aa8 (fn := Try.f54) (c := A5a) (dom := (Aao [14])) (rs := [.tmp 2]) mixed htt (Aad (Aah (B4u N))) (Aae rfl) Try.func54 rfl rfl (by kernel_rfl) (Aaf (l := [(14, sub A5a [1, 0, 1, 0, 1])]) (by kernel_rfl) ⟨⟨_, rfl, Cbs N⟩, trivial⟩) (by decide) (by decide) (by decide) (fun R x C => Csq @Af0 N R x C), Try.f54, Try.func54, rfl, by decide⟩
theorem Bdl (N : Nat) : Aca Try.prog (Cqq N) := ⟨B8i N, B04 N, Cfw N, Bxo N, Cnr N, Cns N, Ba1 N, trivial⟩
theorem Cbt (N : Nat) : Aa4 Try.prog 111 [] (sub Ai7 [1, 1, 1, 1, 1, 1, 1, 0, 1, 0, 0, 1, 1, 0, 0, 1, 1]) (Aaa Amp (Btq N)) :=
 Afc (dom := (Aao [13, 40, 33])) mixed htt (Aad (Aah (Bdl N))) (Aae rfl) (by kernel_rfl) (Aaf (l := []) (by kernel_rfl) trivial) Btp (fun R x K => Cew @Aes @Ad7 @Afi @Ac3 @Agj @Agk @Aa3 @Aep @Aez @Aee N R x K)
theorem Cbu (N : Nat) : Ab7 Try.prog 111 [] (sub Ai7 [1, 1, 1, 1, 1, 1, 1, 0, 1, 0, 0]) (Aaa Aj9 (Bem N N)) :=
 Abd (c := sub Ai7 [1, 1, 1, 1, 1, 1, 1, 0, 1, 0, 0]) (dom := (Aao [13, 40, 33])) mixed htt (Aad (Aah (Bdl N))) (Aae rfl) (by kernel_rfl) (Aaf (l := [(40, sub Ai7 [1, 1, 1, 1, 1, 1, 1, 0, 1, 0, 0, 1, 1, 0, 0, 1, 1])]) (by kernel_rfl) ⟨⟨_, rfl, Cbt N⟩, trivial⟩) Btr (B := (fun _ _ _ => none)) (Ab7.none _ _ _ _) (fun _ _ _ => rfl) (fun R k x K => Cev @Aes @Ad7 @Afi @Ac3 @Agj @Agk @Aa3 @Aep @Aez @Aee N R (fun a0 a1 a2 a3 a4 a5 => Aee N k a0 a1 a2 a3 a4 a5 (fun a => K .ret (Aab Azf ((a, ()), (())))) (K (.exit 2) (Aab Azg ((()), (()))))) x K) N
theorem Cbv (N : Nat) : Aa4 Try.prog 111 [] (sub Ai7 [1, 1, 1, 1, 1, 1, 1, 0, 1, 0]) (Aaa Aj9 (Bem N N)) := (Cbu N).frag
theorem Cbw (N : Nat) : Ab7 Try.prog 111 [] (sub Ai7 [1, 1, 1, 0, 1, 0, 0]) (Aaa Aj7 (Bd8 N N)) :=
 Abd (c := sub Ai7 [1, 1, 1, 0, 1, 0, 0]) (dom := (Aao [13, 40, 33])) mixed htt (Aad (Aah (Bdl N))) (Aae rfl) (by kernel_rfl) (Aaf (l := []) (by kernel_rfl) trivial) Bta (B := (fun _ _ _ => none)) (Ab7.none _ _ _ _) (fun _ _ _ => rfl) (fun R k x K => Cfg @Aes @Ad7 @Afi @Ac3 @Agj @Agk @Aa3 @Aep @Aez @Aee N R (fun a0 a1 a2 a3 a4 a5 a6 a7 a8 a9 => Aep N k a0 a1 a2 a3 a4 a5 a6 a7 a8 a9 (fun a => K .ret (Aab Ay4 ((a, ()), (())))) (fun a b d e f g => K (.exit 0) (Aab Ay5 (((), ()), ((a, b, d, e, f, g, ()), ()))))) x K) N
theorem Cbx (N : Nat) : Aa4 Try.prog 111 [] (sub Ai7 [1, 1, 1, 0, 1, 0]) (Aaa Aj7 (Bd8 N N)) := (Cbw N).frag
theorem Cnt (N : Nat) : Abc Try.prog 88 (B30 N) :=
 ⟨Aa8 (fn := Try.f88) (c := Ai7) (dom := (Aao [13, 40, 33])) (rs := [.tmp 2]) mixed htt (Aad (Aah (Bdl N))) (Aae rfl) Try.func88 rfl rfl (by kernel_rfl) (Aaf (l := [(13, sub Ai7 [1, 1, 1, 0, 1, 0]), (33, sub Ai7 [1, 1, 1, 1, 1, 1, 1, 0, 1, 0])]) (by kernel_rfl) ⟨⟨_, rfl, Cbx N⟩, ⟨_, rfl, Cbv N⟩, trivial⟩) (by decide) (by decide) (by decide) (fun R x C => Cr8 @Aes @Ad7 @Afi @Ac3 @Agj @Agk @Aa3 @Aep @Aez @Aee N R x C), Try.f88, Try.func88, rfl, by decide⟩
theorem Bvj (N : Nat) : Aca Try.prog (Cvu N) := ⟨Bl7 N, trivial⟩
theorem Cjr (N : Nat) : Aa4 Try.prog 55 [] (sub At5 [1, 0, 1, 0, 1]) (Aaa Aq1 (Bzo N)) :=
 Afc (dom := (Aao [8, 30])) mixed htt (Aad (Aah (Bvj N))) (Aae rfl) (by kernel_rfl) (Aaf (l := []) (by kernel_rfl) trivial) Bzn (fun R x K => Cmy @Abv @Ahx @Agq N R x K)
theorem Cf3 (N : Nat) : Aa4 Try.prog 55 [] (sub At5 [1, 1]) (Aaa Ap6 (Bwv N)) :=
 Afc (dom := (Aao [8, 30])) mixed htt (Aad (Aah (Bvj N))) (Aae rfl) (by kernel_rfl) (Aaf (l := []) (by kernel_rfl) trivial) Bwu (fun R x K => Ci9 @Abv @Ahx @Agq N R x K)
theorem Cs0 (N : Nat) : Abc Try.prog 110 (B7i N) :=
 ⟨Aa8 (fn := Try.f110) (c := At5) (dom := (Aao [8, 30])) (rs := [.tmp 8]) mixed htt (Aad (Aah (Bvj N))) (Aae rfl) Try.func110 rfl rfl (by kernel_rfl) (Aaf (l := [(8, sub At5 [1, 0, 1, 0, 1]), (30, sub At5 [1, 1])]) (by kernel_rfl) ⟨⟨_, rfl, Cjr N⟩, ⟨_, rfl, Cf3 N⟩, trivial⟩) (by decide) (by decide) (by decide) (fun R x C => Cwm @Abv @Ahx @Agq N R x C), Try.f110, Try.func110, rfl, by decide⟩
theorem Bqh (N : Nat) : Aca Try.prog (Cqs N) := trivial
theorem Cby (N : Nat) : Aa4 Try.prog 32 [] (sub Ase [1, 0, 1, 0, 1]) (Aaa Aon (Btx N)) :=
 Afc (dom := (Aao [16, 18])) mixed htt (Aad (Aah (Bqh N))) (Aae rfl) (by kernel_rfl) (Aaf (l := []) (by kernel_rfl) trivial) Btw (fun R x K => Cft @Af1 @Agf N R x K)
theorem Cbz (N : Nat) : Aa4 Try.prog 32 [] (sub Ase [1, 1]) (Aaa Aoo (Btz N)) :=
 Afc (dom := (Aao [16, 18])) mixed htt (Aad (Aah (Bqh N))) (Aae rfl) (by kernel_rfl) (Aaf (l := []) (by kernel_rfl) trivial) Bty (fun R x K => Cfs @Af1 @Agf N R x K)
theorem Cnu (N : Nat) : Abc Try.prog 111 (B31 N) :=
 ⟨Aa8 (fn := Try.f111) (c := Ase) (dom := (Aao [16, 18])) (rs := [.tmp 6]) mixed htt (Aad (Aah (Bqh N))) (Aae rfl) Try.func111 rfl rfl (by kernel_rfl) (Aaf (l := [(16, sub Ase [1, 0, 1, 0, 1]), (18, sub Ase [1, 1])]) (by kernel_rfl) ⟨⟨_, rfl, Cby N⟩, ⟨_, rfl, Cbz N⟩, trivial⟩) (by decide) (by decide) (by decide) (fun R x C => Csj @Af1 @Agf N R x C), Try.f111, Try.func111, rfl, by decide⟩
theorem B4v (N : Nat) : Aca Try.prog (Cqu N) := trivial
theorem Cf4 (N : Nat) : Ab7 Try.prog 14 [] (sub Au6 [1, 0, 0, 0]) (Aaa Anu (Bhd N N)) :=
 Abd (c := sub Au6 [1, 0, 0, 0]) (dom := (Aao [3])) mixed htt (Aad (Aah (B4v N))) (Aae rfl) (by kernel_rfl) (Aaf (l := []) (by kernel_rfl) trivial) Bww (B := (fun _ _ _ => none)) (Ab7.none _ _ _ _) (fun _ _ _ => rfl) (fun R k x K => Cjd @Ahh N R (fun a0 a1 => Ahh N k a0 a1 (fun a => K (.exit 0) (Aab A05 ((a, ()), (()))))) x K) N
theorem Cf5 (N : Nat) : Aa4 Try.prog 14 [] (sub Au6 [1, 0, 0]) (Aaa Anu (Bhd N N)) := (Cf4 N).frag
theorem Cnv (N : Nat) : Abc Try.prog 112 (B32 N) :=
 ⟨Aa8 (fn := Try.f112) (c := Au6) (dom := (Aao [3])) (rs := [.tmp 4]) mixed htt (Aad (Aah (B4v N))) (Aae rfl) Try.func112 rfl rfl (by kernel_rfl) (Aaf (l := [(3, sub Au6 [1, 0, 0])]) (by kernel_rfl) ⟨⟨_, rfl, Cf5 N⟩, trivial⟩) (by decide) (by decide) (by decide) (fun R x C => Csr @Ahh N R x C), Try.f112, Try.func112, rfl, by decide⟩
theorem Bxp (N : Nat) : Aca Try.prog (Ciq N) := ⟨B04 N, Bxo N, Cs0 N, Cnu N, Ba1 N, Cnv N, B4t N, trivial⟩
theorem B5t (N : Nat) : Ab7 Try.prog 114 [] (sub Arm [1, 1, 1, 1, 0, 1, 0, 0]) (Aaa Ak2 (A8t N N)) :=
 Abd (c := sub Arm [1, 1, 1, 1, 0, 1, 0, 0]) (dom := (Aao [11])) mixed htt (Aad (Aah (Bxp N))) (Aae rfl) (by kernel_rfl) (Aaf (l := []) (by kernel_rfl) trivial) Bmp (B := (fun _ _ _ => none)) (Ab7.none _ _ _ _) (fun _ _ _ => rfl) (fun R k x K => B74 @Ad7 @Ac3 @Aiu @Aie @Aa3 @Afk @Ac2 @Ae2 N R (fun a0 a1 a2 a3 a4 a5 a6 a7 a8 a9 a10 a11 => Ae2 N k a0 a1 a2 a3 a4 a5 a6 a7 a8 a9 a10 a11 (fun a => K .ret (Aab Avu ((a, ()), (())))) (K (.exit 0) (Aab Avv ((()), (()))))) x K) N
theorem B5u (N : Nat) : Aa4 Try.prog 114 [] (sub Arm [1, 1, 1, 1, 0, 1, 0]) (Aaa Ak2 (A8t N N)) := (B5t N).frag
theorem Cf6 (N : Nat) : Abc Try.prog 89 (Bwz N) :=
 ⟨Aa8 (fn := Try.f89) (c := Arm) (dom := (Aao [11])) (rs := [.tmp 2]) mixed htt (Aad (Aah (Bxp N))) (Aae rfl) Try.func89 rfl rfl (by kernel_rfl) (Aaf (l := [(11, sub Arm [1, 1, 1, 1, 0, 1, 0])]) (by kernel_rfl) ⟨⟨_, rfl, B5u N⟩, trivial⟩) (by decide) (by decide) (by decide) (fun R x C => Ci6 @Ad7 @Ac3 @Aiu @Aie @Aa3 @Afk @Ac2 @Ae2 N R x C), Try.f89, Try.func89, rfl, by decide⟩
theorem Cs1 (N : Nat) : Aca Try.prog (Cqw N) := ⟨Cnn N, Cnt N, Cf6 N, trivial⟩
theorem B06 (N : Nat) : Abc Try.prog 67 (Bow N) :=
 ⟨Aa8 (fn := Try.f67) (c := B3q) (dom := (Aao [])) (rs := [.tmp 2]) mixed htt (Aad (Aah (Cs1 N))) (Aae rfl) Try.func67 rfl rfl (by kernel_rfl) (Aaf (l := []) (by kernel_rfl) trivial) (by decide) (by decide) (by decide) (fun R x C => Csk @Am9 @Ana @Aks N R x C), Try.f67, Try.func67, rfl, by decide⟩
theorem B8k (N : Nat) : Aca Try.prog (Cvw N) := trivial
theorem Cjs (N : Nat) : Ab7 Try.prog 23 [] (sub Awv [1, 1, 0, 1, 0, 0]) (Aaa Apf (Bj8 N N)) :=
 Abd (c := sub Awv [1, 1, 0, 1, 0, 0]) (dom := (Aao [7])) mixed htt (Aad (Aah (B8k N))) (Aae rfl) (by kernel_rfl) (Aaf (l := []) (by kernel_rfl) trivial) Bzp (B := (fun _ _ _ => none)) (Ab7.none _ _ _ _) (fun _ _ _ => rfl) (fun R k x K => Cm0 @Aij N R (fun a0 a1 a2 a3 => Aij N k a0 a1 a2 a3 (fun a => K (.exit 0) (Aab A3n (((), ()), (a, ()))))) x K) N
theorem Cjt (N : Nat) : Aa4 Try.prog 23 [] (sub Awv [1, 1, 0, 1, 0]) (Aaa Apf (Bj8 N N)) := (Cjs N).frag
theorem Cs2 (N : Nat) : Abc Try.prog 90 (B7j N) :=
 ⟨Aa8 (fn := Try.f90) (c := Awv) (dom := (Aao [7])) (rs := [.tmp 2]) mixed htt (Aad (Aah (B8k N))) (Aae rfl) Try.func90 rfl rfl (by kernel_rfl) (Aaf (l := [(7, sub Awv [1, 1, 0, 1, 0])]) (by kernel_rfl) ⟨⟨_, rfl, Cjt N⟩, trivial⟩) (by decide) (by decide) (by decide) (fun R x C => Cwj @Aij N R x C), Try.f90, Try.func90, rfl, by decide⟩
theorem Cwv (N : Nat) : Aca Try.prog (B7l N) := trivial
theorem Bqi (N : Nat) : Abc Try.prog 60 (Bhh N) :=
 ⟨Aa8 (fn := Try.f60) (c := B7k) (dom := (Aao [])) (rs := [.tmp 2]) mixed htt (Aad (Aah (Cwv N))) (Aae rfl) Try.func60 rfl rfl (by kernel_rfl) (Aaf (l := []) (by kernel_rfl) trivial) (by decide) (by decide) (by decide) (fun R x C => Cwq N R x C), Try.f60, Try.func60, rfl, by decide⟩
theorem B4w (N : Nat) : Aca Try.prog (Cqy N) := ⟨Bqi N, Bdi N, trivial⟩
theorem Cf7 (N : Nat) : Ab7 Try.prog 43 [] (sub Au7 [1, 1, 0, 1, 0, 0]) (Aaa Anv (Bhl N N)) :=
 Abd (c := sub Au7 [1, 1, 0, 1, 0, 0]) (dom := (Aao [7])) mixed htt (Aad (Aah (B4w N))) (Aae rfl) (by kernel_rfl) (Aaf (l := []) (by kernel_rfl) trivial) Bw0 (B := (fun _ _ _ => none)) (Ab7.none _ _ _ _) (fun _ _ _ => rfl) (fun R k x K => Cjj @Ad3 @Ab2 @Ahi N R (fun a0 a1 a2 a3 a4 a5 a6 a7 a8 a9 => Ahi N k a0 a1 a2 a3 a4 a5 a6 a7 a8 a9 (fun a b d e f g => K (.exit 0) (Aab A07 (((), (), ()), (((), (), a, ()), ((), b, d, ()), e, f, g, ()))))) x K) N
theorem Cf8 (N : Nat) : Aa4 Try.prog 43 [] (sub Au7 [1, 1, 0, 1, 0]) (Aaa Anv (Bhl N N)) := (Cf7 N).frag
theorem Cnw (N : Nat) : Abc Try.prog 114 (B35 N) :=
 ⟨Aa8 (fn := Try.f114) (c := Au7) (dom := (Aao [7])) (rs := [.cell 4 63]) mixed htt (Aad (Aah (B4w N))) (Aae rfl) Try.func114 rfl rfl (by kernel_rfl) (Aaf (l := [(7, sub Au7 [1, 1, 0, 1, 0])]) (by kernel_rfl) ⟨⟨_, rfl, Cf8 N⟩, trivial⟩) (by decide) (by decide) (by decide) (fun R x C => Cr0 @Ad3 @Ab2 @Ahi N R x C), Try.f114, Try.func114, rfl, by decide⟩
theorem Cb0 (N : Nat) : Aca Try.prog (Can N) := ⟨Bqi N, Bdi N, trivial⟩
theorem Bnf (N : Nat) : Abc Try.prog 92 (Bbl N) :=
 ⟨Aa8 (fn := Try.f92) (c := Bqq) (dom := (Aao [])) (rs := [.tmp 6]) mixed htt (Aad (Aah (Cb0 N))) (Aae rfl) Try.func92 rfl rfl (by kernel_rfl) (Aaf (l := []) (by kernel_rfl) trivial) (by decide) (by decide) (by decide) (fun R x C => Ca7 @Ad3 @Ab2 N R x C), Try.f92, Try.func92, rfl, by decide⟩
theorem Bl8 (N : Nat) : Aca Try.prog (Cx1 N) := ⟨Ba1 N, B4q N, Cnw N, Bnf N, trivial⟩
theorem Cju (N : Nat) : Ab7 Try.prog 89 [] (sub Ajs [1, 1, 1, 0, 0, 0, 1, 1, 1, 0, 1, 0, 0]) (Aaa Al6 (Bkb N N)) :=
 Abd (c := sub Ajs [1, 1, 1, 0, 0, 0, 1, 1, 1, 0, 1, 0, 0]) (dom := (Aao [7, 25, 17])) mixed htt (Aad (Aah (Bl8 N))) (Aae rfl) (by kernel_rfl) (Aaf (l := []) (by kernel_rfl) trivial) Bzr (B := (fun _ _ _ => none)) (Ab7.none _ _ _ _) (fun _ _ _ => rfl) (fun R k x K => Cmr @Aa3 @Ac1 @Agv @Abb @Agm @Afr @Ae7 N R (fun a0 a1 a2 a3 a4 a5 a6 a7 a8 a9 a10 a11 a12 a13 => Afr N k a0 a1 a2 a3 a4 a5 a6 a7 a8 a9 a10 a11 a12 a13 (fun a b d e f g h i j m => K (.exit 4) (Aab A3o ((a, (), (), (), b, (), ()), (d, ((), (), e, ()), ((), f, g, ()), h, i, j, m, ()))))) x K) N
theorem Cjv (N : Nat) : Aa4 Try.prog 89 [] (sub Ajs [1, 1, 1, 0, 0, 0, 1, 1, 1, 0, 1, 0]) (Aaa Al6 (Bkb N N)) := (Cju N).frag
theorem Cnx (N : Nat) : Ab7 Try.prog 89 [] (sub Ajs [1, 1, 0, 1, 0, 0]) (Aaa Am2 (Boz N N)) :=
 Abd (c := sub Ajs [1, 1, 0, 1, 0, 0]) (dom := (Aao [7, 25, 17])) mixed htt (Aad (Aah (Bl8 N))) (Aae rfl) (by kernel_rfl) (Aaf (l := []) (by kernel_rfl) trivial) B33 (B := (fun _ _ _ => none)) (Ab7.none _ _ _ _) (fun _ _ _ => rfl) (fun R k x K => Crt @Aa3 @Ac1 @Agv @Abb @Agm @Afr @Ae7 N R (fun a0 a1 a2 a3 a4 a5 a6 a7 a8 => Agm N k a0 a1 a2 a3 a4 a5 a6 a7 a8 (fun a b d e f g => K (.exit 0) (Aab A66 ((a, (), (), (), ()), (b, ((), (), d, ()), e, f, g, ()))))) x K) N
theorem Cny (N : Nat) : Aa4 Try.prog 89 [] (sub Ajs [1, 1, 0, 1, 0]) (Aaa Am2 (Boz N N)) := (Cnx N).frag
theorem Cjw (N : Nat) : Ab7 Try.prog 89 [] (sub Ajs [1, 1, 1, 0, 0]) (Aaa Al7 (Bke N N)) :=
 Abd (c := sub Ajs [1, 1, 1, 0, 0]) (dom := (Aao [7, 25, 17])) mixed htt (Aad (Aah (Bl8 N))) (Aae rfl) (by kernel_rfl) (Aaf (l := [(25, sub Ajs [1, 1, 1, 0, 0, 0, 1, 1, 1, 0, 1, 0])]) (by kernel_rfl) ⟨⟨_, rfl, Cjv N⟩, trivial⟩) Bzt (B := (fun _ _ _ => none)) (Ab7.none _ _ _ _) (fun _ _ _ => rfl) (fun R k x K => Cm7 @Aa3 @Ac1 @Agv @Abb @Agm @Afr @Ae7 N R (fun a0 a1 a2 a3 a4 a5 => Ae7 N k a0 a1 a2 a3 a4 a5 (fun a b d e => K .ret (Aab A3p (((), ()), (a, ((), b, d, ()), e, ()))))) x K) N
theorem Cjx (N : Nat) : Aa4 Try.prog 89 [] (sub Ajs [1, 1, 1, 0]) (Aaa Al7 (Bke N N)) := (Cjw N).frag
theorem Cww (N : Nat) : Abc Try.prog 91 (Cc5 N) :=
 ⟨Aa8 (fn := Try.f91) (c := Ajs) (dom := (Aao [7, 25, 17])) (rs := [.cell 4 63]) mixed htt (Aad (Aah (Bl8 N))) (Aae rfl) Try.func91 rfl rfl (by kernel_rfl) (Aaf (l := [(7, sub Ajs [1, 1, 0, 1, 0]), (17, sub Ajs [1, 1, 1, 0])]) (by kernel_rfl) ⟨⟨_, rfl, Cny N⟩, ⟨_, rfl, Cjx N⟩, trivial⟩) (by decide) (by decide) (by decide) (fun R x C => Cyi @Aa3 @Ac1 @Agv @Abb @Agm @Afr @Ae7 N R x C), Try.f91, Try.func91, rfl, by decide⟩
theorem B8l (N : Nat) : Aca Try.prog (Bmr N) := trivial
theorem Ax5 (N : Nat) : Abc Try.prog 46 (At7 N) :=
 ⟨Aa8 (fn := Try.f46) (c := Bmq) (dom := (Aao [])) (rs := [.tmp 4]) mixed htt (Aad (Aah (B8l N))) (Aae rfl) Try.func46 rfl rfl (by kernel_rfl) (Aaf (l := []) (by kernel_rfl) trivial) (by decide) (by decide) (by decide) (fun R x C => B77 N R x C), Try.f46, Try.func46, rfl, by decide⟩
theorem Brb (N : Nat) : Aca Try.prog (Cap N) := ⟨Ax5 N, trivial⟩
theorem B2q (N : Nat) : Ab7 Try.prog 21 (List.replicate 32 true) (sub Apv [1, 0, 1, 0, 0]) (Aaa Akg (A51 N N)) :=
 Abd (c := sub Apv [1, 0, 1, 0, 0]) (dom := (Aao [5])) mixed htt (Aad (Aah (Brb N))) (Aae rfl) (by kernel_rfl) (Aaf (l := []) (by kernel_rfl) trivial) Bjd (B := (fun _ _ _ => none)) (Ab7.none _ _ _ _) (fun _ _ _ => rfl) (fun R k x K => B5k @Aam @Aex N R (fun a0 a1 a2 => Aex N k a0 a1 a2 (fun a => K (.exit 0) (Aab Auh (((), ()), (((), ()), a, ()))))) x K) N
theorem B2r (N : Nat) : Aa4 Try.prog 21 (List.replicate 32 true) (sub Apv [1, 0, 1, 0]) (Aaa Akg (A51 N N)) := (B2q N).frag
theorem Bng (N : Nat) : Abc Try.prog 48 (Bbo N) :=
 ⟨Aa8 (fn := Try.f48) (c := Apv) (dom := (Aao [5])) (rs := [.tmp 6]) mixed htt (Aad (Aah (Brb N))) (Aae rfl) Try.func48 rfl rfl (by kernel_rfl) (Aaf (l := [(5, sub Apv [1, 0, 1, 0])]) (by kernel_rfl) ⟨⟨_, rfl, B2r N⟩, trivial⟩) (by decide) (by decide) (by decide) (fun R x C => Ca0 @Aam @Aex N R x C), Try.f48, Try.func48, rfl, by decide⟩
theorem By8 (N : Nat) : Aca Try.prog (Cx3 N) := ⟨Cs2 N, Cww N, Bnf N, Ax5 N, Bqi N, Bng N, Bdi N, Ba1 N, trivial⟩
theorem Cjy (N : Nat) : Aa4 Try.prog 94 [] (sub Arb [1, 1, 1, 1, 0, 1, 0, 0, 1, 1, 0, 0, 1, 1, 1, 1]) (Aaa Aq2 (Bzw N)) :=
 Afc (dom := (Aao [26, 11])) mixed htt (Aad (Aah (By8 N))) (Aae rfl) (by kernel_rfl) (Aaf (l := []) (by kernel_rfl) trivial) Bzv (fun R x K => Cm3 @Ajo @Ak3 @Abb @Aam @Ad3 @Aau @Ab2 @Aa3 @Af5 @Agx N R x K)
theorem Cjz (N : Nat) : Ab7 Try.prog 94 [] (sub Arb [1, 1, 1, 1, 0, 1, 0, 0]) (Aaa Anb (Bki N N)) :=
 Abd (c := sub Arb [1, 1, 1, 1, 0, 1, 0, 0]) (dom := (Aao [26, 11])) mixed htt (Aad (Aah (By8 N))) (Aae rfl) (by kernel_rfl) (Aaf (l := [(26, sub Arb [1, 1, 1, 1, 0, 1, 0, 0, 1, 1, 0, 0, 1, 1, 1, 1])]) (by kernel_rfl) ⟨⟨_, rfl, Cjy N⟩, trivial⟩) Bzx (B := (fun _ _ _ => none)) (Ab7.none _ _ _ _) (fun _ _ _ => rfl) (fun R k x K => Cmp @Ajo @Ak3 @Abb @Aam @Ad3 @Aau @Ab2 @Aa3 @Af5 @Agx N R (fun a0 a1 a2 a3 a4 a5 a6 a7 a8 a9 a10 a11 => Agx N k a0 a1 a2 a3 a4 a5 a6 a7 a8 a9 a10 a11 (fun a b d e f g h => K (.exit 0) (Aab A3q (((), (), (), ()), (((), (), a, ()), ((), b, d, ()), ((), ()), e, f, g, h, ()))))) x K) N
theorem Cj0 (N : Nat) : Aa4 Try.prog 94 [] (sub Arb [1, 1, 1, 1, 0, 1, 0]) (Aaa Anb (Bki N N)) := (Cjz N).frag
theorem Cwx (N : Nat) : Abc Try.prog 68 (Cc7 N) :=
 ⟨Aa8 (fn := Try.f68) (c := Arb) (dom := (Aao [26, 11])) (rs := [.tmp 2, .cell 3 63]) mixed htt (Aad (Aah (By8 N))) (Aae rfl) Try.func68 rfl rfl (by kernel_rfl) (Aaf (l := [(11, sub Arb [1, 1, 1, 1, 0, 1, 0])]) (by kernel_rfl) ⟨⟨_, rfl, Cj0 N⟩, trivial⟩) (by decide) (by decide) (by decide) (fun R x C => Cym @Ajo @Ak3 @Abb @Aam @Ad3 @Aau @Ab2 @Aa3 @Af5 @Agx N R x C), Try.f68, Try.func68, rfl, by decide⟩
theorem Cwy (N : Nat) : Aca Try.prog (Cv1 N) := ⟨B06 N, Cwx N, trivial⟩
theorem Cs3 (N : Nat) : Abc Try.prog 45 (B7p N) :=
 ⟨Aa8 (fn := Try.f45) (c := B7f) (dom := (Aao [])) (rs := [.tmp 2, .cell 3 63, .tmp 4]) mixed htt (Aad (Aah (Cwy N))) (Aae rfl) Try.func45 rfl rfl (by kernel_rfl) (Aaf (l := []) (by kernel_rfl) trivial) (by decide) (by decide) (by decide) (fun R x C => Cwf @Agl @Aq3 N R x C), Try.f45, Try.func45, rfl, by decide⟩
theorem B8m (N : Nat) : Aca Try.prog (B7r N) := ⟨Ax5 N, trivial⟩
theorem B5v (N : Nat) : Abc Try.prog 47 (Bmt N) :=
 ⟨Aa8 (fn := Try.f47) (c := Bms) (dom := (Aao [])) (rs := [.tmp 4]) mixed htt (Aad (Aah (B8m N))) (Aae rfl) Try.func47 rfl rfl (by kernel_rfl) (Aaf (l := []) (by kernel_rfl) trivial) (by decide) (by decide) (by decide) (fun R x C => B8g @Aam N R x C), Try.f47, Try.func47, rfl, by decide⟩
theorem Bl9 (N : Nat) : Aca Try.prog (Cx5 N) := ⟨Cs3 N, Ax5 N, B5v N, Bng N, By7 N, trivial⟩
theorem Cj1 (N : Nat) : Ab7 Try.prog 111 [] (sub Ajr [1, 1, 1, 1, 1, 0, 1, 0, 0, 1, 1, 0, 0, 1, 1, 1, 1, 0, 0]) (Aaa Al8 (Bkl N N)) :=
 Abd (c := sub Ajr [1, 1, 1, 1, 1, 0, 1, 0, 0, 1, 1, 0, 0, 1, 1, 1, 1, 0, 0]) (dom := (Aao [27, 15, 41])) mixed htt (Aad (Aah (Bl9 N))) (Aae rfl) (by kernel_rfl) (Aaf (l := []) (by kernel_rfl) trivial) Bzz (B := (fun _ _ _ => none)) (Ab7.none _ _ _ _) (fun _ _ _ => rfl) (fun R k x K => Cmq @Ahs @Aam @Ach @Aau @Aeb @Afs @Ae8 @Ae9 N R (fun a0 a1 a2 a3 a4 a5 a6 a7 a8 a9 a10 a11 a12 a13 => Afs N k a0 a1 a2 a3 a4 a5 a6 a7 a8 a9 a10 a11 a12 a13 (fun a b d e f g h i j m n => K (.exit 2) (Aab A3r (((), (), (), a, b, d, ()), ((e, f, g, h, i, j, ()), m, ((), ()), n, ()))))) x K) N
theorem Cj2 (N : Nat) : Aa4 Try.prog 111 [] (sub Ajr [1, 1, 1, 1, 1, 0, 1, 0, 0, 1, 1, 0, 0, 1, 1, 1, 1, 0]) (Aaa Al8 (Bkl N N)) := (Cj1 N).frag
theorem Cj3 (N : Nat) : Ab7 Try.prog 111 [] (sub Ajr [1, 1, 1, 1, 1, 1, 1, 0, 1, 0, 0]) (Aaa Ama (Bkr N N)) :=
 Abd (c := sub Ajr [1, 1, 1, 1, 1, 1, 1, 0, 1, 0, 0]) (dom := (Aao [27, 15, 41])) mixed htt (Aad (Aah (Bl9 N))) (Aae rfl) (by kernel_rfl) (Aaf (l := []) (by kernel_rfl) trivial) Bz3 (B := (fun _ _ _ => none)) (Ab7.none _ _ _ _) (fun _ _ _ => rfl) (fun R k x K => Cmv @Ahs @Aam @Ach @Aau @Aeb @Afs @Ae8 @Ae9 N R (fun a0 a1 a2 a3 a4 => Ae9 N k a0 a1 a2 a3 a4 (fun a b => K (.exit 4) (Aab A3t (((), (), ()), (a, ((), ()), b, ()))))) x K) N
theorem Cj4 (N : Nat) : Aa4 Try.prog 111 [] (sub Ajr [1, 1, 1, 1, 1, 1, 1, 0, 1, 0]) (Aaa Ama (Bkr N N)) := (Cj3 N).frag
theorem Cj5 (N : Nat) : Ab7 Try.prog 111 [] (sub Ajr [1, 1, 1, 1, 1, 0, 1, 0, 0]) (Aaa Al9 (Bko N N)) :=
 Abd (c := sub Ajr [1, 1, 1, 1, 1, 0, 1, 0, 0]) (dom := (Aao [27, 15, 41])) mixed htt (Aad (Aah (Bl9 N))) (Aae rfl) (by kernel_rfl) (Aaf (l := [(27, sub Ajr [1, 1, 1, 1, 1, 0, 1, 0, 0, 1, 1, 0, 0, 1, 1, 1, 1, 0])]) (by kernel_rfl) ⟨⟨_, rfl, Cj2 N⟩, trivial⟩) Bz1 (B := (fun _ _ _ => none)) (Ab7.none _ _ _ _) (fun _ _ _ => rfl) (fun R k x K => Cm5 @Ahs @Aam @Ach @Aau @Aeb @Afs @Ae8 @Ae9 N R (fun a0 a1 a2 a3 a4 a5 a6 a7 a8 a9 a10 => Ae8 N k a0 a1 a2 a3 a4 a5 a6 a7 a8 a9 a10 (fun a b d e f g h i => K (.exit 0) (Aab A3s (((), (), (), ()), ((a, b, d, e, f, g, ()), h, ((), ()), i, ()))))) x K) N
theorem Cj6 (N : Nat) : Aa4 Try.prog 111 [] (sub Ajr [1, 1, 1, 1, 1, 0, 1, 0]) (Aaa Al9 (Bko N N)) := (Cj5 N).frag
theorem Cwz (N : Nat) : Abc Try.prog 16 (Cc8 N) :=
 ⟨Aa8 (fn := Try.f16) (c := Ajr) (dom := (Aao [27, 15, 41])) (rs := [.tmp 2, .tmp 3]) mixed htt (Aad (Aah (Bl9 N))) (Aae rfl) Try.func16 rfl rfl (by kernel_rfl) (Aaf (l := [(15, sub Ajr [1, 1, 1, 1, 1, 0, 1, 0]), (41, sub Ajr [1, 1, 1, 1, 1, 1, 1, 0, 1, 0])]) (by kernel_rfl) ⟨⟨_, rfl, Cj6 N⟩, ⟨_, rfl, Cj4 N⟩, trivial⟩) (by decide) (by decide) (by decide) (fun R x C => Cyl @Ahs @Aam @Ach @Aau @Aeb @Afs @Ae8 @Ae9 N R x C), Try.f16, Try.func16, rfl, by decide⟩
theorem A9y (N : Nat) : Aca Try.prog (Bt6 N) := trivial
theorem Bnh (N : Nat) : Ab7 Try.prog 26 [] (sub Aka [1, 1, 0, 1, 0, 0]) (Aaa Agr (Avb N N)) :=
 Abd (c := sub Aka [1, 1, 0, 1, 0, 0]) (dom := (Aao [9])) mixed htt (Aad (Aah (A9y N))) (Aae rfl) (by kernel_rfl) (Aaf (l := []) (by kernel_rfl) trivial) A5f (B := (fun _ _ _ => none)) (Ab7.none _ _ _ _) (fun _ _ _ => rfl) (fun R k x K => Bqe @Aco N R (fun a0 a1 a2 a3 => Aco N k a0 a1 a2 a3 (fun a => K .ret (Aab Apg ((a, ()), (())))) (K (.exit 0) (Aab Aph ((()), (()))))) x K) N
theorem Bni (N : Nat) : Aa4 Try.prog 26 [] (sub Aka [1, 1, 0, 1, 0]) (Aaa Agr (Avb N N)) := (Bnh N).frag
theorem Brp (N : Nat) : Abc Try.prog 77 (A8y N) :=
 ⟨Aa8 (fn := Try.f77) (c := Aka) (dom := (Aao [9])) (rs := [.tmp 4]) mixed htt (Aad (Aah (A9y N))) (Aae rfl) Try.func77 rfl rfl (by kernel_rfl) (Aaf (l := [(9, sub Aka [1, 1, 0, 1, 0])]) (by kernel_rfl) ⟨⟨_, rfl, Bni N⟩, trivial⟩) (by decide) (by decide) (by decide) (fun R x C => Bvi @Aco N R x C), Try.f77, Try.func77, rfl, by decide⟩
theorem B4x (N : Nat) : Aca Try.prog (Cq0 N) := ⟨Aua N, By7 N, Cnm N, Cwz N, Brp N, B06 N, trivial⟩
theorem Cb1 (N : Nat) : Aa4 Try.prog 62 [] (sub A44 [1, 1, 1, 1, 1]) (Aaa Aqp (Bt8 N)) :=
 Afc (dom := (Aao [18])) mixed htt (Aad (Aah (B4x N))) (Aae rfl) (by kernel_rfl) (Aaf (l := []) (by kernel_rfl) trivial) Bt7 (fun R x K => Cez @Aag @Aeb @Ai1 @Anm @Ad1 @Agl @Agg N R x K)
theorem B07 (N : Nat) : Abc Try.prog 62 (Bo5 N) :=
 ⟨Aa8 (fn := Try.f62) (c := A44) (dom := (Aao [18])) (rs := [.cell 2 34, .tmp 3, .tmp 4, .tmp 5]) mixed htt (Aad (Aah (B4x N))) (Aae rfl) Try.func62 rfl rfl (by kernel_rfl) (Aaf (l := [(18, sub A44 [1, 1, 1, 1, 1])]) (by kernel_rfl) ⟨⟨_, rfl, Cb1 N⟩, trivial⟩) (by decide) (by decide) (by decide) (fun R x C => Crx @Aag @Aeb @Ai1 @Anm @Ad1 @Agl @Agg N R x C), Try.f62, Try.func62, rfl, by decide⟩
theorem Cs4 (N : Nat) : Aca Try.prog (Cq2 N) := ⟨B07 N, trivial⟩
theorem Cnz (N : Nat) : Abc Try.prog 27 (B37 N) :=
 ⟨Aa8 (fn := Try.f27) (c := B3f) (dom := (Aao [])) (rs := [.cell 2 34, .tmp 3]) mixed htt (Aad (Aah (Cs4 N))) (Aae rfl) Try.func27 rfl rfl (by kernel_rfl) (Aaf (l := []) (by kernel_rfl) trivial) (by decide) (by decide) (by decide) (fun R x C => Cr1 @Aho N R x C), Try.f27, Try.func27, rfl, by decide⟩
theorem Bvk (N : Nat) : Aca Try.prog (Cee N) := trivial
theorem B5w (N : Nat) : Ab7 Try.prog 20 [] (sub Aqq [1, 1, 0, 1, 0, 0]) (Aaa Ak5 (A82 N N)) :=
 Abd (c := sub Aqq [1, 1, 0, 1, 0, 0]) (dom := (Aao [7])) mixed htt (Aad (Aah (Bvk N))) (Aae rfl) (by kernel_rfl) (Aaf (l := []) (by kernel_rfl) trivial) Bmu (B := (fun _ _ _ => none)) (Ab7.none _ _ _ _) (fun _ _ _ => rfl) (fun R k x K => B75 @Afe N R (fun a0 a1 a2 => Afe N k a0 a1 a2 (fun a => K (.exit 0) (Aab Avy ((a, ()), (()))))) x K) N
theorem B5x (N : Nat) : Aa4 Try.prog 20 [] (sub Aqq [1, 1, 0, 1, 0]) (Aaa Ak5 (A82 N N)) := (B5w N).frag
theorem A1q (N : Nat) : Abc Try.prog 43 (Aw2 N) :=
 ⟨Aa8 (fn := Try.f43) (c := Aqq) (dom := (Aao [7])) (rs := [.tmp 2]) mixed htt (Aad (Aah (Bvk N))) (Aae rfl) Try.func43 rfl rfl (by kernel_rfl) (Aaf (l := [(7, sub Aqq [1, 1, 0, 1, 0])]) (by kernel_rfl) ⟨⟨_, rfl, B5x N⟩, trivial⟩) (by decide) (by decide) (by decide) (fun R x C => Cfc @Afe N R x C), Try.f43, Try.func43, rfl, by decide⟩
theorem Cdh (N : Nat) : Aca Try.prog (Cx7 N) := trivial
theorem Cn0 (N : Nat) : Ab7 Try.prog 23 [] (sub A0i [1, 1, 0, 1, 0, 0]) (Aaa Aqe (Bpb N N)) :=
 Abd (c := sub A0i [1, 1, 0, 1, 0, 0]) (dom := (Aao [7])) mixed htt (Aad (Aah (Cdh N))) (Aae rfl) (by kernel_rfl) (Aaf (l := []) (by kernel_rfl) trivial) B38 (B := (fun _ _ _ => none)) (Ab7.none _ _ _ _) (fun _ _ _ => rfl) (fun R k x K => Csm @Ajt N R (fun a0 a1 a2 => Ajt N k a0 a1 a2 (fun a => K (.exit 0) (Aab A7b ((a, ()), (()))))) x K) N
theorem Cn1 (N : Nat) : Aa4 Try.prog 23 [] (sub A0i [1, 1, 0, 1, 0]) (Aaa Aqe (Bpb N N)) := (Cn0 N).frag
theorem Bvl (N : Nat) : Abc Try.prog 32 (Bl6 N) :=
 ⟨Aa8 (fn := Try.f32) (c := A0i) (dom := (Aao [7])) (rs := [.tmp 2]) mixed htt (Aad (Aah (Cdh N))) (Aae rfl) Try.func32 rfl rfl (by kernel_rfl) (Aaf (l := [(7, sub A0i [1, 1, 0, 1, 0])]) (by kernel_rfl) ⟨⟨_, rfl, Cn1 N⟩, trivial⟩) (by decide) (by decide) (by decide) (fun R x C => Cyp @Ajt N R x C), Try.f32, Try.func32, rfl, by decide⟩
theorem B5y (N : Nat) : Aca Try.prog (Bjg N) := trivial
theorem A4y (N : Nat) : Abc Try.prog 78 (Axq N) :=
 ⟨Aa8 (fn := Try.f78) (c := Bjf) (dom := (Aao [])) (rs := [.tmp 4]) mixed htt (Aad (Aah (B5y N))) (Aae rfl) Try.func78 rfl rfl (by kernel_rfl) (Aaf (l := []) (by kernel_rfl) trivial) (by decide) (by decide) (by decide) (fun R x C => B5q N R x C), Try.f78, Try.func78, rfl, by decide⟩
theorem B08 (N : Nat) : Aca Try.prog (Bz6 N) := ⟨A4y N, A1q N, trivial⟩
theorem Bcr (N : Nat) : Abc Try.prog 79 (A2a N) :=
 ⟨Aa8 (fn := Try.f79) (c := Bfz) (dom := (Aao [])) (rs := [.tmp 4]) mixed htt (Aad (Aah (B08 N))) (Aae rfl) Try.func79 rfl rfl (by kernel_rfl) (Aaf (l := []) (by kernel_rfl) trivial) (by decide) (by decide) (by decide) (fun R x C => B00 @Aat @Aa9 N R x C), Try.f79, Try.func79, rfl, by decide⟩
theorem Cn2 (N : Nat) : Aca Try.prog (Cl1 N) := ⟨A1q N, trivial⟩
theorem Bxq (N : Nat) : Abc Try.prog 41 (Bku N) :=
 ⟨Aa8 (fn := Try.f41) (c := Bz7) (dom := (Aao [])) (rs := [.tmp 2]) mixed htt (Aad (Aah (Cn2 N))) (Aae rfl) Try.func41 rfl rfl (by kernel_rfl) (Aaf (l := []) (by kernel_rfl) trivial) (by decide) (by decide) (by decide) (fun R x C => Cna @Aa9 N R x C), Try.f41, Try.func41, rfl, by decide⟩
theorem A6f (N : Nat) : Aca Try.prog (B5e N) := ⟨Bcr N, A4y N, Bxq N, trivial⟩
theorem Bv0 (N : Nat) : Ab7 Try.prog 50 (List.replicate 32 true) (sub Ai3 [1, 0, 1, 0, 1, 1, 1, 0, 1, 1, 0, 1, 0, 0]) (Aaa Ag8 (A0k N N)) :=
 Abd (c := sub Ai3 [1, 0, 1, 0, 1, 1, 1, 0, 1, 1, 0, 1, 0, 0]) (dom := (Aao [26, 19])) mixed htt (Aad (Aah (A6f N))) (Aae rfl) (by kernel_rfl) (Aaf (l := []) (by kernel_rfl) trivial) Bck (B := (fun _ _ _ => none)) (Ab7.none _ _ _ _) (fun _ _ _ => rfl) (fun R k x K => By5 @Aal @Aat @Ac4 @Ads @Abx N R (fun a0 a1 a2 a3 a4 a5 a6 a7 a8 a9 a10 => Abx N k a0 a1 a2 a3 a4 a5 a6 a7 a8 a9 a10 (fun a b d e f g h i j => K (.exit 1) (Aab Arn (((), (), ()), ((a, b, d, ()), (e, f, (), ()), (g, h, (), ()), i, j, ()))))) x K) N
theorem Bv1 (N : Nat) : Aa4 Try.prog 50 (List.replicate 32 true) (sub Ai3 [1, 0, 1, 0, 1, 1, 1, 0, 1, 1, 0, 1, 0]) (Aaa Ag8 (A0k N N)) := (Bv0 N).frag
theorem Bv2 (N : Nat) : Aa4 Try.prog 50 (List.replicate 32 true) (sub Ai3 [1, 1]) (Aaa Aju (Bcj N)) :=
 Afc (dom := (Aao [26, 19])) mixed htt (Aad (Aah (A6f N))) (Aae rfl) (by kernel_rfl) (Aaf (l := []) (by kernel_rfl) trivial) Bci (fun R x K => By6 @Aal @Aat @Ac4 @Ads @Abx N R x K)
theorem B2s (N : Nat) : Abc Try.prog 80 (Bjh N) :=
 ⟨Aa8 (fn := Try.f80) (c := Ai3) (dom := (Aao [26, 19])) (rs := [.cell 2 73]) mixed htt (Aad (Aah (A6f N))) (Aae rfl) Try.func80 rfl rfl (by kernel_rfl) (Aaf (l := [(19, sub Ai3 [1, 0, 1, 0, 1, 1, 1, 0, 1, 1, 0, 1, 0]), (26, sub Ai3 [1, 1])]) (by kernel_rfl) ⟨⟨_, rfl, Bv1 N⟩, ⟨_, rfl, Bv2 N⟩, trivial⟩) (by decide) (by decide) (by decide) (fun R x C => B5p @Aal @Aat @Ac4 @Ads @Abx N R x C), Try.f80, Try.func80, rfl, by decide⟩
theorem Bqj (N : Nat) : Aca Try.prog (Cq4 N) := ⟨A1q N, Bvl N, A4y N, Bcr N, B2s N, trivial⟩
theorem Cb2 (N : Nat) : Ab7 Try.prog 119 [] (sub Al1 [1, 1, 1, 1, 1, 1, 1, 1, 1, 1, 1, 0, 1, 0, 0]) (Aaa Alk (Bew N N)) :=
 Abd (c := sub Al1 [1, 1, 1, 1, 1, 1, 1, 1, 1, 1, 1, 0, 1, 0, 0]) (dom := (Aao [27, 37])) mixed htt (Aad (Aah (Bqj N))) (Aae rfl) (by kernel_rfl) (Aaf (l := []) (by kernel_rfl) trivial) Bub (B := (fun _ _ _ => none)) (Ab7.none _ _ _ _) (fun _ _ _ => rfl) (fun R k x K => Cff @Aa9 @Ac6 @Aat @Aal @Ael @Adu @Adv N R (fun a0 a1 a2 a3 a4 a5 a6 a7 a8 a9 a10 a11 a12 a13 a14 a15 a16 a17 => Adv N k a0 a1 a2 a3 a4 a5 a6 a7 a8 a9 a10 a11 a12 a13 a14 a15 a16 a17 (fun a b d e f g h i j m n o p q r s => K (.exit 2) (Aab Azn (((), (), a, (), ()), ((b, (), (), (), d, e, ()), (f, (), (), (), g, h, ()), (i, j, m, ()), n, o, p, q, r, s, ()))))) x K) N
theorem Cb3 (N : Nat) : Aa4 Try.prog 119 [] (sub Al1 [1, 1, 1, 1, 1, 1, 1, 1, 1, 1, 1, 0, 1, 0]) (Aaa Alk (Bew N N)) := (Cb2 N).frag
theorem Cb4 (N : Nat) : Ab7 Try.prog 119 [] (sub Al1 [1, 1, 1, 1, 1, 1, 1, 1, 1, 0, 1, 0, 0]) (Aaa Alj (Beu N N)) :=
 Abd (c := sub Al1 [1, 1, 1, 1, 1, 1, 1, 1, 1, 0, 1, 0, 0]) (dom := (Aao [27, 37])) mixed htt (Aad (Aah (Bqj N))) (Aae rfl) (by kernel_rfl) (Aaf (l := []) (by kernel_rfl) trivial) Bt9 (B := (fun _ _ _ => none)) (Ab7.none _ _ _ _) (fun _ _ _ => rfl) (fun R k x K => Ceu @Aa9 @Ac6 @Aat @Aal @Ael @Adu @Adv N R (fun a0 a1 a2 a3 a4 a5 a6 a7 a8 a9 a10 a11 a12 a13 a14 a15 a16 a17 => Adu N k a0 a1 a2 a3 a4 a5 a6 a7 a8 a9 a10 a11 a12 a13 a14 a15 a16 a17 (fun a b d e f g h i j m n o p q r s => K (.exit 0) (Aab Azm (((), (), a, (), ()), ((b, (), (), (), d, e, ()), (f, (), (), (), g, h, ()), (i, j, m, ()), n, o, p, q, r, s, ()))))) x K) N
theorem Cb5 (N : Nat) : Aa4 Try.prog 119 [] (sub Al1 [1, 1, 1, 1, 1, 1, 1, 1, 1, 0, 1, 0]) (Aaa Alj (Beu N N)) := (Cb4 N).frag
theorem B09 (N : Nat) : Abc Try.prog 63 (Bpd N) :=
 ⟨Aa8 (fn := Try.f63) (c := Al1) (dom := (Aao [27, 37])) (rs := [.cell 2 34, .tmp 3, .tmp 4, .tmp 5]) mixed htt (Aad (Aah (Bqj N))) (Aae rfl) Try.func63 rfl rfl (by kernel_rfl) (Aaf (l := [(27, sub Al1 [1, 1, 1, 1, 1, 1, 1, 1, 1, 0, 1, 0]), (37, sub Al1 [1, 1, 1, 1, 1, 1, 1, 1, 1, 1, 1, 0, 1, 0])]) (by kernel_rfl) ⟨⟨_, rfl, Cb5 N⟩, ⟨_, rfl, Cb3 N⟩, trivial⟩) (by decide) (by decide) (by decide) (fun R x C => Crv @Aa9 @Ac6 @Aat @Aal @Ael @Adu @Adv N R x C), Try.f63, Try.func63, rfl, by decide⟩
theorem Cn3 (N : Nat) : Aca Try.prog (Bz9 N) := trivial
theorem Bit (N : Nat) : Abc Try.prog 39 (Bap N) :=
 ⟨Aa8 (fn := Try.f39) (c := Bz8) (dom := (Aao [])) (rs := [.tmp 2]) mixed htt (Aad (Aah (Cn3 N))) (Aae rfl) Try.func39 rfl rfl (by kernel_rfl) (Aaf (l := []) (by kernel_rfl) trivial) (by decide) (by decide) (by decide) (fun R x C => Cnb N R x C), Try.f39, Try.func39, rfl, by decide⟩
theorem Cn4 (N : Nat) : Aca Try.prog (B0b N) := trivial
theorem Biu (N : Nat) : Abc Try.prog 40 (Baq N) :=
 ⟨Aa8 (fn := Try.f40) (c := B0a) (dom := (Aao [])) (rs := [.tmp 2]) mixed htt (Aad (Aah (Cn4 N))) (Aae rfl) Try.func40 rfl rfl (by kernel_rfl) (Aaf (l := []) (by kernel_rfl) trivial) (by decide) (by decide) (by decide) (fun R x C => Cnc N R x C), Try.f40, Try.func40, rfl, by decide⟩
theorem Cn5 (N : Nat) : Aca Try.prog (B0d N) := trivial
theorem Bxr (N : Nat) : Abc Try.prog 42 (Bky N) :=
 ⟨Aa8 (fn := Try.f42) (c := B0c) (dom := (Aao [])) (rs := [.tmp 2]) mixed htt (Aad (Aah (Cn5 N))) (Aae rfl) Try.func42 rfl rfl (by kernel_rfl) (Aaf (l := []) (by kernel_rfl) trivial) (by decide) (by decide) (by decide) (fun R x C => Cm1 N R x C), Try.f42, Try.func42, rfl, by decide⟩
theorem Cj7 (N : Nat) : Aca Try.prog (C16 N) := ⟨Bit N, Biu N, Bxq N, Bxr N, A1q N, trivial⟩
theorem Cn6 (N : Nat) : Aa4 Try.prog 98 [] (sub Bhm [1, 1, 1, 1, 1, 1, 1, 1, 1, 1, 1, 1, 1]) (Aaa Ave (B4b N)) :=
 Afc (dom := (Aao [36])) mixed htt (Aad (Aah (Cj7 N))) (Aae rfl) (by kernel_rfl) (Aaf (l := []) (by kernel_rfl) trivial) B4a (fun R x K => Csd @Abt @Abu @Ac4 @Abi @Aa9 @Akj N R x K)
theorem Cyr (N : Nat) : Abc Try.prog 13 (Cir N) :=
 ⟨Aa8 (fn := Try.f13) (c := Bhm) (dom := (Aao [36])) (rs := [.cell 4 24, .tmp 5, .tmp 6]) mixed htt (Aad (Aah (Cj7 N))) (Aae rfl) Try.func13 rfl rfl (by kernel_rfl) (Aaf (l := [(36, sub Bhm [1, 1, 1, 1, 1, 1, 1, 1, 1, 1, 1, 1, 1])]) (by kernel_rfl) ⟨⟨_, rfl, Cn6 N⟩, trivial⟩) (by decide) (by decide) (by decide) (fun R x C => C2e @Abt @Abu @Ac4 @Abi @Aa9 @Akj N R x C), Try.f13, Try.func13, rfl, by decide⟩
theorem B8n (N : Nat) : Aca Try.prog (Cv5 N) := ⟨Cyr N, trivial⟩
theorem Cj8 (N : Nat) : Ab7 Try.prog 40 [] (sub Aw6 [1, 1, 1, 1, 0, 0, 0]) (Aaa Apk (Bk1 N N)) :=
 Abd (c := sub Aw6 [1, 1, 1, 1, 0, 0, 0]) (dom := (Aao [9])) mixed htt (Aad (Aah (B8n N))) (Aae rfl) (by kernel_rfl) (Aaf (l := []) (by kernel_rfl) trivial) B0e (B := (fun _ _ _ => none)) (Ab7.none _ _ _ _) (fun _ _ _ => rfl) (fun R k x K => Cmz @Apw @Ahy N R (fun a0 a1 a2 a3 => Ahy N k a0 a1 a2 a3 (fun a b d => K .ret (Aab A32 (((), (), a, ()), (b, d, ())))) (fun a b d => K (.exit 0) (Aab A33 (((), (), a, ()), (b, d, ()))))) x K) N
theorem Cj9 (N : Nat) : Aa4 Try.prog 40 [] (sub Aw6 [1, 1, 1, 1, 0, 0]) (Aaa Apk (Bk1 N N)) := (Cj8 N).frag
theorem Cs5 (N : Nat) : Abc Try.prog 64 (B7s N) :=
 ⟨Aa8 (fn := Try.f64) (c := Aw6) (dom := (Aao [9])) (rs := [.tmp 2, .tmp 3, .tmp 4]) mixed htt (Aad (Aah (B8n N))) (Aae rfl) Try.func64 rfl rfl (by kernel_rfl) (Aaf (l := [(9, sub Aw6 [1, 1, 1, 1, 0, 0])]) (by kernel_rfl) ⟨⟨_, rfl, Cj9 N⟩, trivial⟩) (by decide) (by decide) (by decide) (fun R x C => Cwg @Apw @Ahy N R x C), Try.f64, Try.func64, rfl, by decide⟩
theorem Cys (N : Nat) : Aca Try.prog (Cda N) := trivial
theorem Biv (N : Nat) : Abc Try.prog 58 (Bcm N) :=
 ⟨Aa8 (fn := Try.f58) (c := Cc9) (dom := (Aao [])) (rs := [.tmp 2]) mixed htt (Aad (Aah (Cys N))) (Aae rfl) Try.func58 rfl rfl (by kernel_rfl) (Aaf (l := []) (by kernel_rfl) trivial) (by decide) (by decide) (by decide) (fun R x C => Cyk N R x C), Try.f58, Try.func58, rfl, by decide⟩
theorem Aqz (N : Nat) : Aca Try.prog (Ceg N) := ⟨Biv N, trivial⟩
theorem B2t (N : Nat) : Aa4 Try.prog 113 (List.replicate 32 true) (sub Ada [1, 1, 0, 1, 0, 0, 1, 0, 0, 1, 1, 1, 1, 1]) (Aaa Ag3 (Bjj N)) :=
 Afc (dom := (Aao [5, 38, 34, 30, 24, 17])) mixed htt (Aad (Aah (Aqz N))) (Aae rfl) (by kernel_rfl) (Aaf (l := []) (by kernel_rfl) trivial) Bji (fun R x K => B5n @Aaw @Abq @Abl @Abm @Abr @Abn @Aba N R x K)
theorem B2u (N : Nat) : Aa4 Try.prog 113 (List.replicate 32 true) (sub Ada [1, 1, 0, 1, 0, 0, 1, 0, 0, 1, 1, 1, 1]) (Aaa Ag4 (Bjl N)) :=
 Afc (dom := (Aao [5, 38, 34, 30, 24, 17])) mixed htt (Aad (Aah (Aqz N))) (Aae rfl) (by kernel_rfl) (Aaf (l := [(38, sub Ada [1, 1, 0, 1, 0, 0, 1, 0, 0, 1, 1, 1, 1, 1])]) (by kernel_rfl) ⟨⟨_, rfl, B2t N⟩, trivial⟩) Bjk (fun R x K => B5m @Aaw @Abq @Abl @Abm @Abr @Abn @Aba N R x K)
theorem B2v (N : Nat) : Aa4 Try.prog 113 (List.replicate 32 true) (sub Ada [1, 1, 0, 1, 0, 0, 1, 0, 0, 1, 1, 1]) (Aaa Ag5 (Bjn N)) :=
 Afc (dom := (Aao [5, 38, 34, 30, 24, 17])) mixed htt (Aad (Aah (Aqz N))) (Aae rfl) (by kernel_rfl) (Aaf (l := [(34, sub Ada [1, 1, 0, 1, 0, 0, 1, 0, 0, 1, 1, 1, 1])]) (by kernel_rfl) ⟨⟨_, rfl, B2u N⟩, trivial⟩) Bjm (fun R x K => B5j @Aaw @Abq @Abl @Abm @Abr @Abn @Aba N R x K)
theorem B2w (N : Nat) : Aa4 Try.prog 113 (List.replicate 32 true) (sub Ada [1, 1, 0, 1, 0, 0, 1, 0, 0, 1]) (Aaa Ag6 (Bjp N)) :=
 Afc (dom := (Aao [5, 38, 34, 30, 24, 17])) mixed htt (Aad (Aah (Aqz N))) (Aae rfl) (by kernel_rfl) (Aaf (l := [(30, sub Ada [1, 1, 0, 1, 0, 0, 1, 0, 0, 1, 1, 1])]) (by kernel_rfl) ⟨⟨_, rfl, B2v N⟩, trivial⟩) Bjo (fun R x K => B5o @Aaw @Abq @Abl @Abm @Abr @Abn @Aba N R x K)
theorem B2x (N : Nat) : Ab7 Try.prog 113 (List.replicate 32 true) (sub Ada [1, 1, 0, 1, 0, 0]) (Aaa Afx (A6c N N)) :=
 Abd (c := sub Ada [1, 1, 0, 1, 0, 0]) (dom := (Aao [5, 38, 34, 30, 24, 17])) mixed htt (Aad (Aah (Aqz N))) (Aae rfl) (by kernel_rfl) (Aaf (l := [(24, sub Ada [1, 1, 0, 1, 0, 0, 1, 0, 0, 1])]) (by kernel_rfl) ⟨⟨_, rfl, B2w N⟩, trivial⟩) Bjq (B := (fun _ _ _ => none)) (Ab7.none _ _ _ _) (fun _ _ _ => rfl) (fun R k x K => B5l @Aaw @Abq @Abl @Abm @Abr @Abn @Aba N R (fun a0 a1 a2 a3 a4 a5 a6 a7 a8 a9 a10 a11 a12 a13 a14 a15 => Aba N k a0 a1 a2 a3 a4 a5 a6 a7 a8 a9 a10 a11 a12 a13 a14 a15 (fun a b d e f g h i j m n o p => K (.exit 2) (Aab Aul (((), (), ()), (a, b, d, e, (f, (), (), (), g, h, ()), (i, (), (), (), j, m, ()), n, o, p, ()))))) x K) N
theorem B2y (N : Nat) : Aa4 Try.prog 113 (List.replicate 32 true) (sub Ada [1, 1, 0, 1, 0]) (Aaa Afx (A6c N N)) := (B2x N).frag
theorem B5z (N : Nat) : Ab7 Try.prog 113 (List.replicate 32 true) (sub Ada [1, 0, 1, 0, 0]) (Aaa Aga (A85 N N)) :=
 Abd (c := sub Ada [1, 0, 1, 0, 0]) (dom := (Aao [5, 38, 34, 30, 24, 17])) mixed htt (Aad (Aah (Aqz N))) (Aae rfl) (by kernel_rfl) (Aaf (l := []) (by kernel_rfl) trivial) Bmw (B := (fun _ _ _ => none)) (Ab7.none _ _ _ _) (fun _ _ _ => rfl) (fun R k x K => B73 @Aaw @Abq @Abl @Abm @Abr @Abn @Aba N R (fun a0 a1 a2 a3 a4 a5 a6 a7 a8 a9 a10 a11 a12 a13 a14 a15 => Abq N k a0 a1 a2 a3 a4 a5 a6 a7 a8 a9 a10 a11 a12 a13 a14 a15 (fun a b d e f g h i j m n o p q r => K (.exit 0) (Aab Avz ((a, b, (), (), (), ()), (d, e, f, g, (h, (), (), (), i, j, ()), (m, (), (), (), n, o, ()), p, q, r, ()))))) x K) N
theorem B50 (N : Nat) : Aa4 Try.prog 113 (List.replicate 32 true) (sub Ada [1, 0, 1, 0]) (Aaa Aga (A85 N N)) := (B5z N).frag
theorem Cb6 (N : Nat) : Abc Try.prog 65 (Buf N) :=
 ⟨Aa8 (fn := Try.f65) (c := Ada) (dom := (Aao [5, 38, 34, 30, 24, 17])) (rs := [.cell 8 34]) mixed htt (Aad (Aah (Aqz N))) (Aae rfl) Try.func65 rfl rfl (by kernel_rfl) (Aaf (l := [(5, sub Ada [1, 0, 1, 0]), (17, sub Ada [1, 1, 0, 1, 0])]) (by kernel_rfl) ⟨⟨_, rfl, B50 N⟩, ⟨_, rfl, B2y N⟩, trivial⟩) (by decide) (by decide) (by decide) (fun R x C => Cfk @Aaw @Abq @Abl @Abm @Abr @Abn @Aba N R x C), Try.f65, Try.func65, rfl, by decide⟩
theorem Bxs (N : Nat) : Aca Try.prog (Cit N) := trivial
theorem B51 (N : Nat) : Ab7 Try.prog 60 [] (sub Arp [1, 1, 1, 0, 1, 0, 0]) (Aaa Ak7 (A88 N N)) :=
 Abd (c := sub Arp [1, 1, 1, 0, 1, 0, 0]) (dom := (Aao [11])) mixed htt (Aad (Aah (Bxs N))) (Aae rfl) (by kernel_rfl) (Aaf (l := []) (by kernel_rfl) trivial) Bmy (B := (fun _ _ _ => none)) (Ab7.none _ _ _ _) (fun _ _ _ => rfl) (fun R k x K => B8e @Aff N R (fun a0 a1 a2 a3 a4 a5 a6 a7 => Aff N k a0 a1 a2 a3 a4 a5 a6 a7 (fun a => K (.exit 0) (Aab Av0 ((a, ()), (()))))) x K) N
theorem B52 (N : Nat) : Aa4 Try.prog 60 [] (sub Arp [1, 1, 1, 0, 1, 0]) (Aaa Ak7 (A88 N N)) := (B51 N).frag
theorem Cf9 (N : Nat) : Abc Try.prog 81 (Bw2 N) :=
 ⟨Aa8 (fn := Try.f81) (c := Arp) (dom := (Aao [11])) (rs := [.tmp 2]) mixed htt (Aad (Aah (Bxs N))) (Aae rfl) Try.func81 rfl rfl (by kernel_rfl) (Aaf (l := [(11, sub Arp [1, 1, 1, 0, 1, 0])]) (by kernel_rfl) ⟨⟨_, rfl, B52 N⟩, trivial⟩) (by decide) (by decide) (by decide) (fun R x C => Cje @Aff N R x C), Try.f81, Try.func81, rfl, by decide⟩
theorem B4y (N : Nat) : Aca Try.prog (Cq7 N) := trivial
theorem Cga (N : Nat) : Ab7 Try.prog 60 [] (sub Avg [1, 1, 0, 1, 0, 0]) (Aaa Anw (Bhu N N)) :=
 Abd (c := sub Avg [1, 1, 0, 1, 0, 0]) (dom := (Aao [7])) mixed htt (Aad (Aah (B4y N))) (Aae rfl) (by kernel_rfl) (Aaf (l := []) (by kernel_rfl) trivial) Bw3 (B := (fun _ _ _ => none)) (Ab7.none _ _ _ _) (fun _ _ _ => rfl) (fun R k x K => Cja @Agt N R (fun a0 a1 a2 => Agt N k a0 a1 a2 (fun a b => K .ret (Aab A1a ((a, b, ()), (())))) (fun a b => K (.exit 0) (Aab A1b ((a, b, ()), (()))))) x K) N
theorem Cgb (N : Nat) : Aa4 Try.prog 60 [] (sub Avg [1, 1, 0, 1, 0]) (Aaa Anw (Bhu N N)) := (Cga N).frag
theorem Cn7 (N : Nat) : Abc Try.prog 97 (B4c N) :=
 ⟨Aa8 (fn := Try.f97) (c := Avg) (dom := (Aao [7])) (rs := [.tmp 2, .tmp 3]) mixed htt (Aad (Aah (B4y N))) (Aae rfl) Try.func97 rfl rfl (by kernel_rfl) (Aaf (l := [(7, sub Avg [1, 1, 0, 1, 0])]) (by kernel_rfl) ⟨⟨_, rfl, Cgb N⟩, trivial⟩) (by decide) (by decide) (by decide) (fun R x C => Cr3 @Agt N R x C), Try.f97, Try.func97, rfl, by decide⟩
theorem C2i (N : Nat) : Aca Try.prog (Civ N) := trivial
theorem Bma (N : Nat) : Abc Try.prog 98 (Bhw N) :=
 ⟨Aa8 (fn := Try.f98) (c := Ciu) (dom := (Aao [])) (rs := [.tmp 6]) mixed htt (Aad (Aah (C2i N))) (Aae rfl) Try.func98 rfl rfl (by kernel_rfl) (Aaf (l := []) (by kernel_rfl) trivial) (by decide) (by decide) (by decide) (fun R x C => C2d N R x C), Try.f98, Try.func98, rfl, by decide⟩
theorem A5n (N : Nat) : Aca Try.prog (Cq9 N) := ⟨Cn7 N, Bma N, trivial⟩
theorem Cb7 (N : Nat) : Ab7 Try.prog 110 [] (sub Afj [1, 1, 0, 1, 0, 0, 1, 0, 0, 1, 1, 1, 0, 0]) (Aaa Ajb (Be2 N N)) :=
 Abd (c := sub Afj [1, 1, 0, 1, 0, 0, 1, 0, 0, 1, 1, 1, 0, 0]) (dom := (Aao [25, 5, 47, 35])) mixed htt (Aad (Aah (A5n N))) (Aae rfl) (by kernel_rfl) (Aaf (l := []) (by kernel_rfl) trivial) Bui (B := (fun _ _ _ => none)) (Ab7.none _ _ _ _) (fun _ _ _ => rfl) (fun R k x K => Cfi @Aec @Aay @Adh @Adn @Adi @Acw N R (fun a0 a1 a2 a3 a4 a5 a6 a7 a8 a9 => Adi N k a0 a1 a2 a3 a4 a5 a6 a7 a8 a9 (fun a => K .ret (Aab Azt ((a, ()), (())))) (fun a b d e f g h => K (.exit 6) (Aab Azu (((), a, ()), ((b, d, e, f, g, h, ()), ()))))) x K) N
theorem Cb8 (N : Nat) : Aa4 Try.prog 110 [] (sub Afj [1, 1, 0, 1, 0, 0, 1, 0, 0, 1, 1, 1, 0]) (Aaa Ajb (Be2 N N)) := (Cb7 N).frag
theorem Cb9 (N : Nat) : Ab7 Try.prog 110 [] (sub Afj [1, 0, 1, 0, 0, 1, 0, 0, 1, 1, 1, 1, 0, 0]) (Aaa Aja (Be0 N N)) :=
 Abd (c := sub Afj [1, 0, 1, 0, 0, 1, 0, 0, 1, 1, 1, 1, 0, 0]) (dom := (Aao [25, 5, 47, 35])) mixed htt (Aad (Aah (A5n N))) (Aae rfl) (by kernel_rfl) (Aaf (l := []) (by kernel_rfl) trivial) Bug (B := (fun _ _ _ => none)) (Ab7.none _ _ _ _) (fun _ _ _ => rfl) (fun R k x K => Cfh @Aec @Aay @Adh @Adn @Adi @Acw N R (fun a0 a1 a2 a3 a4 a5 a6 a7 a8 a9 a10 => Adh N k a0 a1 a2 a3 a4 a5 a6 a7 a8 a9 a10 (fun a => K .ret (Aab Azr ((a, ()), (())))) (fun a b d e f g h => K (.exit 2) (Aab Azs (((), a, ()), ((b, d, e, f, g, h, ()), ()))))) x K) N
theorem Cca (N : Nat) : Aa4 Try.prog 110 [] (sub Afj [1, 0, 1, 0, 0, 1, 0, 0, 1, 1, 1, 1, 0]) (Aaa Aja (Be0 N N)) := (Cb9 N).frag
theorem Ccb (N : Nat) : Ab7 Try.prog 110 [] (sub Afj [1, 1, 0, 1, 0, 0]) (Aaa Ajc (Be4 N N)) :=
 Abd (c := sub Afj [1, 1, 0, 1, 0, 0]) (dom := (Aao [25, 5, 47, 35])) mixed htt (Aad (Aah (A5n N))) (Aae rfl) (by kernel_rfl) (Aaf (l := [(47, sub Afj [1, 1, 0, 1, 0, 0, 1, 0, 0, 1, 1, 1, 0])]) (by kernel_rfl) ⟨⟨_, rfl, Cb8 N⟩, trivial⟩) Buk (B := (fun _ _ _ => none)) (Ab7.none _ _ _ _) (fun _ _ _ => rfl) (fun R k x K => Cfl @Aec @Aay @Adh @Adn @Adi @Acw N R (fun a0 a1 a2 a3 a4 a5 a6 => Acw N k a0 a1 a2 a3 a4 a5 a6 (fun a => K .ret (Aab Azv ((a, ()), (())))) (fun a b d e f g => K (.exit 4) (Aab Azw (((), ()), ((a, b, d, e, f, g, ()), ()))))) x K) N
theorem Ccc (N : Nat) : Aa4 Try.prog 110 [] (sub Afj [1, 1, 0, 1, 0]) (Aaa Ajc (Be4 N N)) := (Ccb N).frag
theorem Cgc (N : Nat) : Ab7 Try.prog 110 [] (sub Afj [1, 0, 1, 0, 0]) (Aaa Aj3 (Bhy N N)) :=
 Abd (c := sub Afj [1, 0, 1, 0, 0]) (dom := (Aao [25, 5, 47, 35])) mixed htt (Aad (Aah (A5n N))) (Aae rfl) (by kernel_rfl) (Aaf (l := [(25, sub Afj [1, 0, 1, 0, 0, 1, 0, 0, 1, 1, 1, 1, 0])]) (by kernel_rfl) ⟨⟨_, rfl, Cca N⟩, trivial⟩) Bw5 (B := (fun _ _ _ => none)) (Ab7.none _ _ _ _) (fun _ _ _ => rfl) (fun R k x K => Ci2 @Aec @Aay @Adh @Adn @Adi @Acw N R (fun a0 a1 a2 a3 a4 a5 a6 => Adn N k a0 a1 a2 a3 a4 a5 a6 (fun a => K .ret (Aab A1c ((a, ()), (())))) (fun a b d e f g => K (.exit 0) (Aab A1d (((), ()), ((a, b, d, e, f, g, ()), ()))))) x K) N
theorem Cgd (N : Nat) : Aa4 Try.prog 110 [] (sub Afj [1, 0, 1, 0]) (Aaa Aj3 (Bhy N N)) := (Cgc N).frag
theorem Cn8 (N : Nat) : Abc Try.prog 82 (B4d N) :=
 ⟨Aa8 (fn := Try.f82) (c := Afj) (dom := (Aao [25, 5, 47, 35])) (rs := [.tmp 2]) mixed htt (Aad (Aah (A5n N))) (Aae rfl) Try.func82 rfl rfl (by kernel_rfl) (Aaf (l := [(5, sub Afj [1, 0, 1, 0]), (35, sub Afj [1, 1, 0, 1, 0])]) (by kernel_rfl) ⟨⟨_, rfl, Cgd N⟩, ⟨_, rfl, Ccc N⟩, trivial⟩) (by decide) (by decide) (by decide) (fun R x C => Cry @Aec @Aay @Adh @Adn @Adi @Acw N R x C), Try.f82, Try.func82, rfl, by decide⟩
theorem Auw (N : Nat) : Aca Try.prog (Cix N) := ⟨Bma N, trivial⟩
theorem B53 (N : Nat) : Aa4 Try.prog 138 [] (sub Agc [1, 1, 1, 0, 1, 0, 1, 1, 1, 1, 1, 1, 1, 1, 1, 1, 1, 1, 1, 1, 1]) (Aaa Ail (Bm1 N)) :=
 Afc (dom := (Aao [68, 44, 36, 28, 82])) mixed htt (Aad (Aah (Auw N))) (Aae rfl) (by kernel_rfl) (Aaf (l := []) (by kernel_rfl) trivial) Bm0 (fun R x K => B78 @Aay @Abz @Acc @Acd @Aa1 @Aaz N R x K)
theorem B54 (N : Nat) : Aa4 Try.prog 138 [] (sub Agc [1, 1, 1, 0, 1, 0, 1, 1, 1, 1, 1, 1, 1]) (Aaa Aim (Bm3 N)) :=
 Afc (dom := (Aao [68, 44, 36, 28, 82])) mixed htt (Aad (Aah (Auw N))) (Aae rfl) (by kernel_rfl) (Aaf (l := [(68, sub Agc [1, 1, 1, 0, 1, 0, 1, 1, 1, 1, 1, 1, 1, 1, 1, 1, 1, 1, 1, 1, 1])]) (by kernel_rfl) ⟨⟨_, rfl, B53 N⟩, trivial⟩) Bm2 (fun R x K => B79 @Aay @Abz @Acc @Acd @Aa1 @Aaz N R x K)
theorem B55 (N : Nat) : Aa4 Try.prog 138 [] (sub Agc [1, 1, 1, 0, 1, 0, 1, 1, 1, 1, 1]) (Aaa Ain (Bm5 N)) :=
 Afc (dom := (Aao [68, 44, 36, 28, 82])) mixed htt (Aad (Aah (Auw N))) (Aae rfl) (by kernel_rfl) (Aaf (l := [(44, sub Agc [1, 1, 1, 0, 1, 0, 1, 1, 1, 1, 1, 1, 1])]) (by kernel_rfl) ⟨⟨_, rfl, B54 N⟩, trivial⟩) Bm4 (fun R x K => B8a @Aay @Abz @Acc @Acd @Aa1 @Aaz N R x K)
theorem B56 (N : Nat) : Aa4 Try.prog 138 [] (sub Agc [1, 1, 1, 0, 1, 0, 1, 1, 1]) (Aaa Aio (Bm7 N)) :=
 Afc (dom := (Aao [68, 44, 36, 28, 82])) mixed htt (Aad (Aah (Auw N))) (Aae rfl) (by kernel_rfl) (Aaf (l := [(36, sub Agc [1, 1, 1, 0, 1, 0, 1, 1, 1, 1, 1])]) (by kernel_rfl) ⟨⟨_, rfl, B55 N⟩, trivial⟩) Bm6 (fun R x K => B8b @Aay @Abz @Acc @Acd @Aa1 @Aaz N R x K)
theorem B57 (N : Nat) : Aa4 Try.prog 138 [] (sub Agc [1, 1, 1, 1]) (Aaa Aip (Bm9 N)) :=
 Afc (dom := (Aao [68, 44, 36, 28, 82])) mixed htt (Aad (Aah (Auw N))) (Aae rfl) (by kernel_rfl) (Aaf (l := []) (by kernel_rfl) trivial) Bm8 (fun R x K => B8c @Aay @Abz @Acc @Acd @Aa1 @Aaz N R x K)
theorem Cge (N : Nat) : Abc Try.prog 83 (Bw7 N) :=
 ⟨Aa8 (fn := Try.f83) (c := Agc) (dom := (Aao [68, 44, 36, 28, 82])) (rs := [.tmp 4]) mixed htt (Aad (Aah (Auw N))) (Aae rfl) Try.func83 rfl rfl (by kernel_rfl) (Aaf (l := [(28, sub Agc [1, 1, 1, 0, 1, 0, 1, 1, 1]), (82, sub Agc [1, 1, 1, 1])]) (by kernel_rfl) ⟨⟨_, rfl, B56 N⟩, ⟨_, rfl, B57 N⟩, trivial⟩) (by decide) (by decide) (by decide) (fun R x C => Ci5 @Aay @Abz @Acc @Acd @Aa1 @Aaz N R x C), Try.f83, Try.func83, rfl, by decide⟩
theorem Cn9 (N : Nat) : Aca Try.prog (B0h N) := trivial
theorem Bxt (N : Nat) : Abc Try.prog 99 (Bk3 N) :=
 ⟨Aa8 (fn := Try.f99) (c := B0g) (dom := (Aao [])) (rs := [.tmp 2]) mixed htt (Aad (Aah (Cn9 N))) (Aae rfl) Try.func99 rfl rfl (by kernel_rfl) (Aaf (l := []) (by kernel_rfl) trivial) (by decide) (by decide) (by decide) (fun R x C => Cnd N R x C), Try.f99, Try.func99, rfl, by decide⟩
theorem Bdm (N : Nat) : Aca Try.prog (Crb N) := ⟨Bxt N, trivial⟩
theorem Ccd (N : Nat) : Aa4 Try.prog 126 [] (sub Akt [1, 1, 0, 1, 0, 0, 1, 0, 0, 1, 1, 1, 1, 1]) (Aaa Ams (Bup N)) :=
 Afc (dom := (Aao [44, 20, 7])) mixed htt (Aad (Aah (Bdm N))) (Aae rfl) (by kernel_rfl) (Aaf (l := []) (by kernel_rfl) trivial) Buo (fun R x K => Ce0 @Abe @Adj @Ae0 @Aeo N R x K)
theorem Cce (N : Nat) : Aa4 Try.prog 126 [] (sub Akt [1, 1, 0, 1, 0, 0, 1, 0, 0, 1, 1, 1]) (Aaa Amt (Bur N)) :=
 Afc (dom := (Aao [44, 20, 7])) mixed htt (Aad (Aah (Bdm N))) (Aae rfl) (by kernel_rfl) (Aaf (l := [(44, sub Akt [1, 1, 0, 1, 0, 0, 1, 0, 0, 1, 1, 1, 1, 1])]) (by kernel_rfl) ⟨⟨_, rfl, Ccd N⟩, trivial⟩) Buq (fun R x K => Ce2 @Abe @Adj @Ae0 @Aeo N R x K)
theorem Cgf (N : Nat) : Ab7 Try.prog 126 [] (sub Akt [1, 1, 0, 1, 0, 0]) (Aaa Ak9 (Bh3 N N)) :=
 Abd (c := sub Akt [1, 1, 0, 1, 0, 0]) (dom := (Aao [44, 20, 7])) mixed htt (Aad (Aah (Bdm N))) (Aae rfl) (by kernel_rfl) (Aaf (l := [(20, sub Akt [1, 1, 0, 1, 0, 0, 1, 0, 0, 1, 1, 1])]) (by kernel_rfl) ⟨⟨_, rfl, Cce N⟩, trivial⟩) Bw8 (B := (fun _ _ _ => none)) (Ab7.none _ _ _ _) (fun _ _ _ => rfl) (fun R k x K => Ci4 @Abe @Adj @Ae0 @Aeo N R (fun a0 a1 a2 a3 a4 a5 a6 a7 a8 a9 => Aeo N k a0 a1 a2 a3 a4 a5 a6 a7 a8 a9 (fun a => K .ret (Aab A1f ((a, ()), (())))) (fun a b d e f g h i j => K (.exit 0) (Aab A1g (((), a, b, d, ()), ((e, f, g, h, i, j, ()), ()))))) x K) N
theorem Cgg (N : Nat) : Aa4 Try.prog 126 [] (sub Akt [1, 1, 0, 1, 0]) (Aaa Ak9 (Bh3 N N)) := (Cgf N).frag
theorem Coa (N : Nat) : Abc Try.prog 84 (B4e N) :=
 ⟨Aa8 (fn := Try.f84) (c := Akt) (dom := (Aao [44, 20, 7])) (rs := [.tmp 2]) mixed htt (Aad (Aah (Bdm N))) (Aae rfl) Try.func84 rfl rfl (by kernel_rfl) (Aaf (l := [(7, sub Akt [1, 1, 0, 1, 0])]) (by kernel_rfl) ⟨⟨_, rfl, Cgg N⟩, trivial⟩) (by decide) (by decide) (by decide) (fun R x C => Csf @Abe @Adj @Ae0 @Aeo N R x C), Try.f84, Try.func84, rfl, by decide⟩
theorem B4z (N : Nat) : Aca Try.prog (Crd N) := trivial
theorem Ccf (N : Nat) : Aa4 Try.prog 17 [] (sub A5j [1, 0, 1, 0, 1]) (Aaa Aqv (Buv N)) :=
 Afc (dom := (Aao [14])) mixed htt (Aad (Aah (B4z N))) (Aae rfl) (by kernel_rfl) (Aaf (l := []) (by kernel_rfl) trivial) Buu (fun R x K => Cfb @Af2 N R x K)
theorem B1a (N : Nat) : Abc Try.prog 33 (Bpp N) :=
 ⟨Aa8 (fn := Try.f33) (c := A5j) (dom := (Aao [14])) (rs := [.tmp 2]) mixed htt (Aad (Aah (B4z N))) (Aae rfl) Try.func33 rfl rfl (by kernel_rfl) (Aaf (l := [(14, sub A5j [1, 0, 1, 0, 1])]) (by kernel_rfl) ⟨⟨_, rfl, Ccf N⟩, trivial⟩) (by decide) (by decide) (by decide) (fun R x C => Cr2 @Af2 N R x C), Try.f33, Try.func33, rfl, by decide⟩
theorem A2m (N : Nat) : Aca Try.prog (Cmf N) := ⟨B1a N, trivial⟩
theorem B8o (N : Nat) : Aa4 Try.prog 121 [] (sub Afm [1, 1, 1, 1, 0, 1, 0, 0, 1, 0, 0, 1]) (Aaa Akm (Bq0 N)) :=
 Afc (dom := (Aao [7, 24, 17, 37])) mixed htt (Aad (Aah (A2m N))) (Aae rfl) (by kernel_rfl) (Aaf (l := []) (by kernel_rfl) trivial) Bqz (fun R x K => Caz @Ab9 @Adk @Ado @Acx @Acj N R x K)
theorem B8p (N : Nat) : Ab7 Try.prog 121 [] (sub Afm [1, 1, 1, 1, 1, 0, 1, 0, 0]) (Aaa Aid (Bb2 N N)) :=
 Abd (c := sub Afm [1, 1, 1, 1, 1, 0, 1, 0, 0]) (dom := (Aao [7, 24, 17, 37])) mixed htt (Aad (Aah (A2m N))) (Aae rfl) (by kernel_rfl) (Aaf (l := []) (by kernel_rfl) trivial) Bq3 (B := (fun _ _ _ => none)) (Ab7.none _ _ _ _) (fun _ _ _ => rfl) (fun R k x K => Cax @Ab9 @Adk @Ado @Acx @Acj N R (fun a0 a1 a2 a3 a4 a5 a6 a7 a8 a9 a10 => Acj N k a0 a1 a2 a3 a4 a5 a6 a7 a8 a9 a10 (fun a b d => K .ret (Aab Axy (((), a, ()), (((), (), ()), b, d, ())))) (fun a b d e => K (.exit 4) (Aab Axz (((), (), ()), (((), (), ()), ((), (), ()), a, b, d, e, ()))))) x K) N
theorem B8q (N : Nat) : Aa4 Try.prog 121 [] (sub Afm [1, 1, 1, 1, 1, 0, 1, 0]) (Aaa Aid (Bb2 N N)) := (B8p N).frag
theorem B8r (N : Nat) : Ab7 Try.prog 121 [] (sub Afm [1, 1, 1, 1, 0, 1, 0, 0]) (Aaa Aic (Bbz N N)) :=
 Abd (c := sub Afm [1, 1, 1, 1, 0, 1, 0, 0]) (dom := (Aao [7, 24, 17, 37])) mixed htt (Aad (Aah (A2m N))) (Aae rfl) (by kernel_rfl) (Aaf (l := [(24, sub Afm [1, 1, 1, 1, 0, 1, 0, 0, 1, 0, 0, 1])]) (by kernel_rfl) ⟨⟨_, rfl, B8o N⟩, trivial⟩) Bq1 (B := (fun _ _ _ => none)) (Ab7.none _ _ _ _) (fun _ _ _ => rfl) (fun R k x K => Ca4 @Ab9 @Adk @Ado @Acx @Acj N R (fun a0 a1 a2 a3 a4 a5 a6 a7 a8 a9 a10 a11 => Acx N k a0 a1 a2 a3 a4 a5 a6 a7 a8 a9 a10 a11 (fun a b d => K .ret (Aab Axw (((), a, ()), (((), (), ()), b, d, ())))) (fun a b d e f g h i j m => K (.exit 2) (Aab Axx (((), (), (), ()), ((a, b, d, e, f, g, ()), ((), (), ()), ((), (), ()), h, i, j, m, ()))))) x K) N
theorem B8s (N : Nat) : Aa4 Try.prog 121 [] (sub Afm [1, 1, 1, 1, 0, 1, 0]) (Aaa Aic (Bbz N N)) := (B8r N).frag
theorem Ccg (N : Nat) : Ab7 Try.prog 121 [] (sub Afm [1, 1, 0, 1, 0, 0]) (Aaa Ajd (Bfc N N)) :=
 Abd (c := sub Afm [1, 1, 0, 1, 0, 0]) (dom := (Aao [7, 24, 17, 37])) mixed htt (Aad (Aah (A2m N))) (Aae rfl) (by kernel_rfl) (Aaf (l := []) (by kernel_rfl) trivial) Bus (B := (fun _ _ _ => none)) (Ab7.none _ _ _ _) (fun _ _ _ => rfl) (fun R k x K => Cfj @Ab9 @Adk @Ado @Acx @Acj N R (fun a0 a1 a2 a3 a4 a5 a6 a7 a8 a9 a10 => Adk N k a0 a1 a2 a3 a4 a5 a6 a7 a8 a9 a10 (fun a b d e f g h i j m => K (.exit 0) (Aab Az1 (((), (), (), ()), ((a, b, d, e, f, g, ()), ((), (), ()), ((), (), ()), h, i, j, m, ()))))) x K) N
theorem Cch (N : Nat) : Aa4 Try.prog 121 [] (sub Afm [1, 1, 0, 1, 0]) (Aaa Ajd (Bfc N N)) := (Ccg N).frag
theorem Cka (N : Nat) : Abc Try.prog 85 (B0i N) :=
 ⟨Aa8 (fn := Try.f85) (c := Afm) (dom := (Aao [7, 24, 17, 37])) (rs := [.cell 2 111, .tmp 3]) mixed htt (Aad (Aah (A2m N))) (Aae rfl) Try.func85 rfl rfl (by kernel_rfl) (Aaf (l := [(7, sub Afm [1, 1, 0, 1, 0]), (17, sub Afm [1, 1, 1, 1, 0, 1, 0]), (37, sub Afm [1, 1, 1, 1, 1, 0, 1, 0])]) (by kernel_rfl) ⟨⟨_, rfl, Cch N⟩, ⟨_, rfl, B8s N⟩, ⟨_, rfl, B8q N⟩, trivial⟩) (by decide) (by decide) (by decide) (fun R x C => Cmw @Ab9 @Adk @Ado @Acx @Acj N R x C), Try.f85, Try.func85, rfl, by decide⟩
theorem Bdn (N : Nat) : Aca Try.prog (Crf N) := trivial
theorem Cci (N : Nat) : Aa4 Try.prog 55 [] (sub Am4 [1, 0, 1, 0, 1, 1, 1, 1, 1, 1, 1, 1, 1, 1, 1]) (Aaa Amu (Bux N)) :=
 Afc (dom := (Aao [60, 42, 20])) mixed htt (Aad (Aah (Bdn N))) (Aae rfl) (by kernel_rfl) (Aaf (l := []) (by kernel_rfl) trivial) Buw (fun R x K => Ce5 @Ae1 @Acy @Adl N R x K)
theorem Ccj (N : Nat) : Aa4 Try.prog 55 [] (sub Am4 [1, 0, 1, 0, 1, 1, 1]) (Aaa Amv (Buz N)) :=
 Afc (dom := (Aao [60, 42, 20])) mixed htt (Aad (Aah (Bdn N))) (Aae rfl) (by kernel_rfl) (Aaf (l := [(60, sub Am4 [1, 0, 1, 0, 1, 1, 1, 1, 1, 1, 1, 1, 1, 1, 1])]) (by kernel_rfl) ⟨⟨_, rfl, Cci N⟩, trivial⟩) Buy (fun R x K => Cfp @Ae1 @Acy @Adl N R x K)
theorem Cck (N : Nat) : Aa4 Try.prog 55 [] (sub Am4 [1, 0, 1, 0, 1]) (Aaa Amw (Bu1 N)) :=
 Afc (dom := (Aao [60, 42, 20])) mixed htt (Aad (Aah (Bdn N))) (Aae rfl) (by kernel_rfl) (Aaf (l := [(42, sub Am4 [1, 0, 1, 0, 1, 1, 1])]) (by kernel_rfl) ⟨⟨_, rfl, Ccj N⟩, trivial⟩) Bu0 (fun R x K => Ce6 @Ae1 @Acy @Adl N R x K)
theorem Cob (N : Nat) : Abc Try.prog 100 (B4f N) :=
 ⟨Aa8 (fn := Try.f100) (c := Am4) (dom := (Aao [60, 42, 20])) (rs := [.tmp 4]) mixed htt (Aad (Aah (Bdn N))) (Aae rfl) Try.func100 rfl rfl (by kernel_rfl) (Aaf (l := [(20, sub Am4 [1, 0, 1, 0, 1])]) (by kernel_rfl) ⟨⟨_, rfl, Cck N⟩, trivial⟩) (by decide) (by decide) (by decide) (fun R x C => Crz @Ae1 @Acy @Adl N R x C), Try.f100, Try.func100, rfl, by decide⟩
theorem Bqk (N : Nat) : Aca Try.prog (Crh N) := trivial
theorem Ccl (N : Nat) : Aa4 Try.prog 22 [] (sub Asi [1, 0, 1, 0, 1, 1, 1]) (Aaa Ao0 (Bu3 N)) :=
 Afc (dom := (Aao [32, 24])) mixed htt (Aad (Aah (Bqk N))) (Aae rfl) (by kernel_rfl) (Aaf (l := []) (by kernel_rfl) trivial) Bu2 (fun R x K => Ce9 @Afn @Adw N R x K)
theorem Ccm (N : Nat) : Aa4 Try.prog 22 [] (sub Asi [1, 0, 1, 0, 1]) (Aaa Ao1 (Bu5 N)) :=
 Afc (dom := (Aao [32, 24])) mixed htt (Aad (Aah (Bqk N))) (Aae rfl) (by kernel_rfl) (Aaf (l := [(32, sub Asi [1, 0, 1, 0, 1, 1, 1])]) (by kernel_rfl) ⟨⟨_, rfl, Ccl N⟩, trivial⟩) Bu4 (fun R x K => Cfq @Afn @Adw N R x K)
theorem Coc (N : Nat) : Abc Try.prog 101 (B4g N) :=
 ⟨Aa8 (fn := Try.f101) (c := Asi) (dom := (Aao [32, 24])) (rs := [.tmp 2]) mixed htt (Aad (Aah (Bqk N))) (Aae rfl) Try.func101 rfl rfl (by kernel_rfl) (Aaf (l := [(24, sub Asi [1, 0, 1, 0, 1])]) (by kernel_rfl) ⟨⟨_, rfl, Ccm N⟩, trivial⟩) (by decide) (by decide) (by decide) (fun R x C => Csl @Afn @Adw N R x C), Try.f101, Try.func101, rfl, by decide⟩
theorem B40 (N : Nat) : Aca Try.prog (Crj N) := ⟨Bma N, trivial⟩
theorem Cgh (N : Nat) : Aa4 Try.prog 35 [] (sub A5k [1, 0, 1, 0, 1]) (Aaa Arr (Bxb N)) :=
 Afc (dom := (Aao [8])) mixed htt (Aad (Aah (B40 N))) (Aae rfl) (by kernel_rfl) (Aaf (l := []) (by kernel_rfl) trivial) Bxa (fun R x K => Cjl @Aay @Aje N R x K)
theorem Cod (N : Nat) : Abc Try.prog 102 (B4h N) :=
 ⟨Aa8 (fn := Try.f102) (c := A5k) (dom := (Aao [8])) (rs := [.tmp 4]) mixed htt (Aad (Aah (B40 N))) (Aae rfl) Try.func102 rfl rfl (by kernel_rfl) (Aaf (l := [(8, sub A5k [1, 0, 1, 0, 1])]) (by kernel_rfl) ⟨⟨_, rfl, Cgh N⟩, trivial⟩) (by decide) (by decide) (by decide) (fun R x C => Cso @Aay @Aje N R x C), Try.f102, Try.func102, rfl, by decide⟩
theorem B41 (N : Nat) : Aca Try.prog (Crl N) := trivial
theorem Cgi (N : Nat) : Ab7 Try.prog 31 [] (sub Avh [1, 0, 0, 0]) (Aaa Anx (Bh9 N N)) :=
 Abd (c := sub Avh [1, 0, 0, 0]) (dom := (Aao [3])) mixed htt (Aad (Aah (B41 N))) (Aae rfl) (by kernel_rfl) (Aaf (l := []) (by kernel_rfl) trivial) Bxc (B := (fun _ _ _ => none)) (Ab7.none _ _ _ _) (fun _ _ _ => rfl) (fun R k x K => Cjc @Ahj N R (fun a0 a1 => Ahj N k a0 a1 (fun a b => K (.exit 0) (Aab A1h ((a, b, ()), (()))))) x K) N
theorem Cgj (N : Nat) : Aa4 Try.prog 31 [] (sub Avh [1, 0, 0]) (Aaa Anx (Bh9 N N)) := (Cgi N).frag
theorem Coe (N : Nat) : Abc Try.prog 103 (B4i N) :=
 ⟨Aa8 (fn := Try.f103) (c := Avh) (dom := (Aao [3])) (rs := [.tmp 4]) mixed htt (Aad (Aah (B41 N))) (Aae rfl) Try.func103 rfl rfl (by kernel_rfl) (Aaf (l := [(3, sub Avh [1, 0, 0])]) (by kernel_rfl) ⟨⟨_, rfl, Cgj N⟩, trivial⟩) (by decide) (by decide) (by decide) (fun R x C => Cr4 @Ahj N R x C), Try.f103, Try.func103, rfl, by decide⟩
theorem B8t (N : Nat) : Aca Try.prog (Cv7 N) := ⟨Cob N, Coc N, Bma N, Cod N, B1a N, Coe N, Bxt N, trivial⟩
theorem Ckb (N : Nat) : Ab7 Try.prog 96 [] (sub Axa [1, 1, 0, 1, 0, 0]) (Aaa Apl (Bla N N)) :=
 Abd (c := sub Axa [1, 1, 0, 1, 0, 0]) (dom := (Aao [7])) mixed htt (Aad (Aah (B8t N))) (Aae rfl) (by kernel_rfl) (Aaf (l := []) (by kernel_rfl) trivial) B0j (B := (fun _ _ _ => none)) (Ab7.none _ _ _ _) (fun _ _ _ => rfl) (fun R k x K => Cmu @Ai5 @Ahp @Aay @Ahq @Ab9 @Agn @Abe @Ahd N R (fun a0 a1 a2 a3 a4 a5 a6 a7 a8 a9 a10 => Ahd N k a0 a1 a2 a3 a4 a5 a6 a7 a8 a9 a10 (fun a => K .ret (Aab A4m ((a, ()), (())))) (K (.exit 0) (Aab A4n ((()), (()))))) x K) N
theorem Ckc (N : Nat) : Aa4 Try.prog 96 [] (sub Axa [1, 1, 0, 1, 0]) (Aaa Apl (Bla N N)) := (Ckb N).frag
theorem Cs6 (N : Nat) : Abc Try.prog 86 (B7y N) :=
 ⟨Aa8 (fn := Try.f86) (c := Axa) (dom := (Aao [7])) (rs := [.tmp 4]) mixed htt (Aad (Aah (B8t N))) (Aae rfl) Try.func86 rfl rfl (by kernel_rfl) (Aaf (l := [(7, sub Axa [1, 1, 0, 1, 0])]) (by kernel_rfl) ⟨⟨_, rfl, Ckc N⟩, trivial⟩) (by decide) (by decide) (by decide) (fun R x C => Cwd @Ai5 @Ahp @Aay @Ahq @Ab9 @Agn @Abe @Ahd N R x C), Try.f86, Try.func86, rfl, by decide⟩
theorem B42 (N : Nat) : Aca Try.prog (Crn N) := ⟨Cf9 N, Cn8 N, Cge N, Coa N, Cka N, Cs6 N, trivial⟩
theorem Ccn (N : Nat) : Ab7 Try.prog 50 [] (sub Avf [1, 1, 1, 0, 1, 0, 0]) (Aaa Amr (Be8 N N)) :=
 Abd (c := sub Avf [1, 1, 1, 0, 1, 0, 0]) (dom := (Aao [13])) mixed htt (Aad (Aah (B42 N))) (Aae rfl) (by kernel_rfl) (Aaf (l := []) (by kernel_rfl) trivial) Bum (B := (fun _ _ _ => none)) (Ab7.none _ _ _ _) (fun _ _ _ => rfl) (fun R k x K => Cey @Aib @Akl @Agu @Ajz @Aiq @Alx @Agy N R (fun a0 a1 a2 a3 a4 a5 a6 => Agy N k a0 a1 a2 a3 a4 a5 a6 (fun a => K .ret (Aab Azy ((a, ()), (())))) (fun a b d e f g => K (.exit 0) (Aab Azz (((), ()), ((a, b, d, e, f, g, ()), ()))))) x K) N
theorem Cco (N : Nat) : Aa4 Try.prog 50 [] (sub Avf [1, 1, 1, 0, 1, 0]) (Aaa Amr (Be8 N N)) := (Ccn N).frag
theorem B1b (N : Nat) : Abc Try.prog 66 (Bp4 N) :=
 ⟨Aa8 (fn := Try.f66) (c := Avf) (dom := (Aao [13])) (rs := [.tmp 2]) mixed htt (Aad (Aah (B42 N))) (Aae rfl) Try.func66 rfl rfl (by kernel_rfl) (Aaf (l := [(13, sub Avf [1, 1, 1, 0, 1, 0])]) (by kernel_rfl) ⟨⟨_, rfl, Cco N⟩, trivial⟩) (by decide) (by decide) (by decide) (fun R x C => Csc @Aib @Akl @Agu @Ajz @Aiq @Alx @Agy N R x C), Try.f66, Try.func66, rfl, by decide⟩
theorem Bvm (N : Nat) : Aca Try.prog (Ceq N) := ⟨Bit N, Biu N, trivial⟩
theorem B58 (N : Nat) : Ab7 Try.prog 59 (List.replicate 32 true) (sub Aqy [1, 1, 0, 1, 0, 0]) (Aaa Ala (A9w N N)) :=
 Abd (c := sub Aqy [1, 1, 0, 1, 0, 0]) (dom := (Aao [7])) mixed htt (Aad (Aah (Bvm N))) (Aae rfl) (by kernel_rfl) (Aaf (l := []) (by kernel_rfl) trivial) Bna (B := (fun _ _ _ => none)) (Ab7.none _ _ _ _) (fun _ _ _ => rfl) (fun R k x K => B8d @Abt @Abu @Aft N R (fun a0 a1 a2 a3 a4 a5 a6 => Aft N k a0 a1 a2 a3 a4 a5 a6 (fun a b d e f => K (.exit 0) (Aab Av1 (((), a, ()), (((), (), (), ()), b, d, e, f, ()))))) x K) N
theorem B59 (N : Nat) : Aa4 Try.prog 59 (List.replicate 32 true) (sub Aqy [1, 1, 0, 1, 0]) (Aaa Ala (A9w N N)) := (B58 N).frag
theorem Ccp (N : Nat) : Abc Try.prog 93 (Bu9 N) :=
 ⟨Aa8 (fn := Try.f93) (c := Aqy) (dom := (Aao [7])) (rs := []) mixed htt (Aad (Aah (Bvm N))) (Aae rfl) Try.func93 rfl rfl (by kernel_rfl) (Aaf (l := [(7, sub Aqy [1, 1, 0, 1, 0])]) (by kernel_rfl) ⟨⟨_, rfl, B59 N⟩, trivial⟩) (by decide) (by decide) (by decide) (fun R x C => Ce7 @Abt @Abu @Aft N R x C), Try.f93, Try.func93, rfl, by decide⟩
theorem B1c (N : Nat) : Aca Try.prog (Bf1 N) := trivial
theorem Bcs (N : Nat) : Abc Try.prog 70 (A2i N) :=
 ⟨Aa8 (fn := Try.f70) (c := Bf0) (dom := (Aao [])) (rs := [.tmp 6]) mixed htt (Aad (Aah (B1c N))) (Aae rfl) Try.func70 rfl rfl (by kernel_rfl) (Aaf (l := []) (by kernel_rfl) trivial) (by decide) (by decide) (by decide) (fun R x C => B01 N R x C), Try.f70, Try.func70, rfl, by decide⟩
theorem A0p (N : Nat) : Aca Try.prog (Cyc N) := ⟨Bxr N, Biv N, Ccp N, Bcs N, trivial⟩
theorem Ckd (N : Nat) : Ab7 Try.prog 130 [] (sub Ae5 [1, 1, 0, 1, 0, 0, 1, 0, 0, 1, 0, 1, 0, 1, 0, 0, 0]) (Aaa Aiw (Bld N N)) :=
 Abd (c := sub Ae5 [1, 1, 0, 1, 0, 0, 1, 0, 0, 1, 0, 1, 0, 1, 0, 0, 0]) (dom := (Aao [17, 28, 22, 7, 39, 33])) mixed htt (Aad (Aah (A0p N))) (Aae rfl) (by kernel_rfl) (Aaf (l := []) (by kernel_rfl) trivial) B0k (B := (fun _ _ _ => none)) (Ab7.none _ _ _ _) (fun _ _ _ => rfl) (fun R k x K => Cm2 @Abi @Aaw @Abp @Aap @Ade @Adf @Adq @Ad8 @Adg @Acz N R (fun a0 a1 a2 a3 a4 a5 a6 a7 a8 a9 a10 a11 a12 a13 => Ade N k a0 a1 a2 a3 a4 a5 a6 a7 a8 a9 a10 a11 a12 a13 (fun a b d e f g h i j m n o p q => K (.exit 2) (Aab A4o (((), (), a, (), b, ()), ((d, e, f, g, h, i, ()), ((), (), (), ()), (j, m, n, ()), o, p, q, ()))))) x K) N
theorem Cke (N : Nat) : Aa4 Try.prog 130 [] (sub Ae5 [1, 1, 0, 1, 0, 0, 1, 0, 0, 1, 0, 1, 0, 1, 0, 0]) (Aaa Aiw (Bld N N)) := (Ckd N).frag
theorem Ckf (N : Nat) : Aa4 Try.prog 130 [] (sub Ae5 [1, 1, 0, 1, 0, 0, 1, 0, 0, 1, 1, 1, 1]) (Aaa Aku (B0n N)) :=
 Afc (dom := (Aao [17, 28, 22, 7, 39, 33])) mixed htt (Aad (Aah (A0p N))) (Aae rfl) (by kernel_rfl) (Aaf (l := []) (by kernel_rfl) trivial) B0m (fun R x K => Cmt @Abi @Aaw @Abp @Aap @Ade @Adf @Adq @Ad8 @Adg @Acz N R x K)
theorem Ckg (N : Nat) : Ab7 Try.prog 130 [] (sub Ae5 [1, 1, 1, 1, 0, 0, 0, 1, 1, 0, 1, 0, 0]) (Aaa Aix (Blh N N)) :=
 Abd (c := sub Ae5 [1, 1, 1, 1, 0, 0, 0, 1, 1, 0, 1, 0, 0]) (dom := (Aao [17, 28, 22, 7, 39, 33])) mixed htt (Aad (Aah (A0p N))) (Aae rfl) (by kernel_rfl) (Aaf (l := []) (by kernel_rfl) trivial) B0t (B := (fun _ _ _ => none)) (Ab7.none _ _ _ _) (fun _ _ _ => rfl) (fun R k x K => Cmo @Abi @Aaw @Abp @Aap @Ade @Adf @Adq @Ad8 @Adg @Acz N R (fun a0 a1 a2 a3 a4 a5 a6 a7 a8 a9 a10 a11 => Adg N k a0 a1 a2 a3 a4 a5 a6 a7 a8 a9 a10 a11 (fun a b d e f g h i j m n => K (.exit 6) (Aab A4p (((), (), (), a, ()), ((b, d, e, f, g, h, ()), ((), (), (), ()), i, j, m, n, ()))))) x K) N
theorem Ckh (N : Nat) : Aa4 Try.prog 130 [] (sub Ae5 [1, 1, 1, 1, 0, 0, 0, 1, 1, 0, 1, 0]) (Aaa Aix (Blh N N)) := (Ckg N).frag
theorem Cki (N : Nat) : Aa4 Try.prog 130 [] (sub Ae5 [1, 1, 0, 1, 0, 0, 1, 0, 0, 1, 1]) (Aaa Akv (B0p N)) :=
 Afc (dom := (Aao [17, 28, 22, 7, 39, 33])) mixed htt (Aad (Aah (A0p N))) (Aae rfl) (by kernel_rfl) (Aaf (l := [(28, sub Ae5 [1, 1, 0, 1, 0, 0, 1, 0, 0, 1, 1, 1, 1])]) (by kernel_rfl) ⟨⟨_, rfl, Ckf N⟩, trivial⟩) B0o (fun R x K => Cms @Abi @Aaw @Abp @Aap @Ade @Adf @Adq @Ad8 @Adg @Acz N R x K)
theorem Cof (N : Nat) : Ab7 Try.prog 130 [] (sub Ae5 [1, 1, 0, 1, 0, 0]) (Aaa Aj4 (Bp7 N N)) :=
 Abd (c := sub Ae5 [1, 1, 0, 1, 0, 0]) (dom := (Aao [17, 28, 22, 7, 39, 33])) mixed htt (Aad (Aah (A0p N))) (Aae rfl) (by kernel_rfl) (Aaf (l := [(17, sub Ae5 [1, 1, 0, 1, 0, 0, 1, 0, 0, 1, 0, 1, 0, 1, 0, 0]), (22, sub Ae5 [1, 1, 0, 1, 0, 0, 1, 0, 0, 1, 1])]) (by kernel_rfl) ⟨⟨_, rfl, Cke N⟩, ⟨_, rfl, Cki N⟩, trivial⟩) B4k (B := (fun _ _ _ => none)) (Ab7.none _ _ _ _) (fun _ _ _ => rfl) (fun R k x K => Cr7 @Abi @Aaw @Abp @Aap @Ade @Adf @Adq @Ad8 @Adg @Acz N R (fun a0 a1 a2 a3 a4 a5 a6 a7 a8 a9 => Ad8 N k a0 a1 a2 a3 a4 a5 a6 a7 a8 a9 (fun a b d e f g h i j => K (.exit 0) (Aab A7q (((), (), ()), ((a, b, d, e, f, g, ()), ((), (), (), ()), h, i, j, ()))))) x K) N
theorem Cog (N : Nat) : Aa4 Try.prog 130 [] (sub Ae5 [1, 1, 0, 1, 0]) (Aaa Aj4 (Bp7 N N)) := (Cof N).frag
theorem Ckj (N : Nat) : Ab7 Try.prog 130 [] (sub Ae5 [1, 1, 1, 1, 0, 0]) (Aaa Aiy (Blk N N)) :=
 Abd (c := sub Ae5 [1, 1, 1, 1, 0, 0]) (dom := (Aao [17, 28, 22, 7, 39, 33])) mixed htt (Aad (Aah (A0p N))) (Aae rfl) (by kernel_rfl) (Aaf (l := [(39, sub Ae5 [1, 1, 1, 1, 0, 0, 0, 1, 1, 0, 1, 0])]) (by kernel_rfl) ⟨⟨_, rfl, Ckh N⟩, trivial⟩) B0v (B := (fun _ _ _ => none)) (Ab7.none _ _ _ _) (fun _ _ _ => rfl) (fun R k x K => Cm4 @Abi @Aaw @Abp @Aap @Ade @Adf @Adq @Ad8 @Adg @Acz N R (fun a0 a1 a2 a3 a4 a5 a6 a7 a8 => Acz N k a0 a1 a2 a3 a4 a5 a6 a7 a8 (fun a b d => K .ret (Aab A4q (((), ()), (((), (), (), ()), a, b, d, ()))))) x K) N
theorem Ckk (N : Nat) : Aa4 Try.prog 130 [] (sub Ae5 [1, 1, 1, 1, 0]) (Aaa Aiy (Blk N N)) := (Ckj N).frag
theorem Cw0 (N : Nat) : Abc Try.prog 69 (Cdc N) :=
 ⟨Aa8 (fn := Try.f69) (c := Ae5) (dom := (Aao [17, 28, 22, 7, 39, 33])) (rs := [.tmp 2]) mixed htt (Aad (Aah (A0p N))) (Aae rfl) Try.func69 rfl rfl (by kernel_rfl) (Aaf (l := [(7, sub Ae5 [1, 1, 0, 1, 0]), (33, sub Ae5 [1, 1, 1, 1, 0])]) (by kernel_rfl) ⟨⟨_, rfl, Cog N⟩, ⟨_, rfl, Ckk N⟩, trivial⟩) (by decide) (by decide) (by decide) (fun R x C => Cyh @Abi @Aaw @Abp @Aap @Ade @Adf @Adq @Ad8 @Adg @Acz N R x C), Try.f69, Try.func69, rfl, by decide⟩
theorem Cs7 (N : Nat) : Aca Try.prog (Crp N) := ⟨B1b N, Cw0 N, trivial⟩
theorem Coh (N : Nat) : Abc Try.prog 49 (B4m N) :=
 ⟨Aa8 (fn := Try.f49) (c := B4j) (dom := (Aao [])) (rs := [.tmp 2, .tmp 3]) mixed htt (Aad (Aah (Cs7 N))) (Aae rfl) Try.func49 rfl rfl (by kernel_rfl) (Aaf (l := []) (by kernel_rfl) trivial) (by decide) (by decide) (by decide) (fun R x C => Csi @Adc @Aq9 N R x C), Try.f49, Try.func49, rfl, by decide⟩
theorem Cdi (N : Nat) : Aca Try.prog (Cye N) := trivial
theorem Coi (N : Nat) : Ab7 Try.prog 23 [] (sub A0l [1, 1, 0, 1, 0, 0]) (Aaa Aqg (Bqb N N)) :=
 Abd (c := sub A0l [1, 1, 0, 1, 0, 0]) (dom := (Aao [7])) mixed htt (Aad (Aah (Cdi N))) (Aae rfl) (by kernel_rfl) (Aaf (l := []) (by kernel_rfl) trivial) B4n (B := (fun _ _ _ => none)) (Ab7.none _ _ _ _) (fun _ _ _ => rfl) (fun R k x K => Csn @Ai6 N R (fun a0 a1 a2 => Ai6 N k a0 a1 a2 (fun a => K (.exit 0) (Aab A7t (((), ()), (a, ()))))) x K) N
theorem Coj (N : Nat) : Aa4 Try.prog 23 [] (sub A0l [1, 1, 0, 1, 0]) (Aaa Aqg (Bqb N N)) := (Coi N).frag
theorem B8u (N : Nat) : Abc Try.prog 50 (By1 N) :=
 ⟨Aa8 (fn := Try.f50) (c := A0l) (dom := (Aao [7])) (rs := [.tmp 4]) mixed htt (Aad (Aah (Cdi N))) (Aae rfl) Try.func50 rfl rfl (by kernel_rfl) (Aaf (l := [(7, sub A0l [1, 1, 0, 1, 0])]) (by kernel_rfl) ⟨⟨_, rfl, Coj N⟩, trivial⟩) (by decide) (by decide) (by decide) (fun R x C => Cyo @Ai6 N R x C), Try.f50, Try.func50, rfl, by decide⟩
theorem Av4 (N : Nat) : Aca Try.prog (B2k N) := ⟨Biv N, Bcs N, Bit N, B8u N, Biu N, trivial⟩
theorem Bvn (N : Nat) : Aa4 Try.prog 80 (List.replicate 32 true) (sub Af3 [1, 1, 0, 1, 0, 0, 1, 0, 0, 1, 1, 1, 1, 1]) (Aaa Aht (Ba8 N)) :=
 Afc (dom := (Aao [24, 20, 7])) mixed htt (Aad (Aah (Av4 N))) (Aae rfl) (by kernel_rfl) (Aaf (l := []) (by kernel_rfl) trivial) Ba7 (fun R x K => Bvz @Aaw @Aap @Abt @Abj @Abu @Ab5 @Ab6 @Aby N R x K)
theorem Bvo (N : Nat) : Aa4 Try.prog 80 (List.replicate 32 true) (sub Af3 [1, 1, 0, 1, 0, 0, 1, 0, 0, 1, 1, 1, 1]) (Aaa Ahu (Bba N)) :=
 Afc (dom := (Aao [24, 20, 7])) mixed htt (Aad (Aah (Av4 N))) (Aae rfl) (by kernel_rfl) (Aaf (l := [(24, sub Af3 [1, 1, 0, 1, 0, 0, 1, 0, 0, 1, 1, 1, 1, 1])]) (by kernel_rfl) ⟨⟨_, rfl, Bvn N⟩, trivial⟩) Ba9 (fun R x K => Bvy @Aaw @Aap @Abt @Abj @Abu @Ab5 @Ab6 @Aby N R x K)
theorem Bv3 (N : Nat) : Ab7 Try.prog 80 (List.replicate 32 true) (sub Af3 [1, 1, 0, 1, 0, 0]) (Aaa Ago (A0o N N)) :=
 Abd (c := sub Af3 [1, 1, 0, 1, 0, 0]) (dom := (Aao [24, 20, 7])) mixed htt (Aad (Aah (Av4 N))) (Aae rfl) (by kernel_rfl) (Aaf (l := [(20, sub Af3 [1, 1, 0, 1, 0, 0, 1, 0, 0, 1, 1, 1, 1])]) (by kernel_rfl) ⟨⟨_, rfl, Bvo N⟩, trivial⟩) Bco (B := (fun _ _ _ => none)) (Ab7.none _ _ _ _) (fun _ _ _ => rfl) (fun R k x K => By4 @Aaw @Aap @Abt @Abj @Abu @Ab5 @Ab6 @Aby N R (fun a0 a1 a2 a3 a4 a5 a6 a7 a8 a9 a10 => Aby N k a0 a1 a2 a3 a4 a5 a6 a7 a8 a9 a10 (fun a b d e => K (.exit 0) (Aab Ars (((), ()), (((), (), (), ()), a, b, d, e, ()))))) x K) N
theorem Bv4 (N : Nat) : Aa4 Try.prog 80 (List.replicate 32 true) (sub Af3 [1, 1, 0, 1, 0]) (Aaa Ago (A0o N N)) := (Bv3 N).frag
theorem B1d (N : Nat) : Abc Try.prog 51 (Bij N) :=
 ⟨Aa8 (fn := Try.f51) (c := Af3) (dom := (Aao [24, 20, 7])) (rs := [.tmp 4]) mixed htt (Aad (Aah (Av4 N))) (Aae rfl) Try.func51 rfl rfl (by kernel_rfl) (Aaf (l := [(7, sub Af3 [1, 1, 0, 1, 0])]) (by kernel_rfl) ⟨⟨_, rfl, Bv4 N⟩, trivial⟩) (by decide) (by decide) (by decide) (fun R x C => B2m @Aaw @Aap @Abt @Abj @Abu @Ab5 @Ab6 @Aby N R x C), Try.f51, Try.func51, rfl, by decide⟩
theorem Biw (N : Nat) : Aca Try.prog (Cv9 N) := ⟨Coh N, B8u N, B1d N, Bvl N, trivial⟩
theorem Cgk (N : Nat) : Ab7 Try.prog 130 [] (sub Air [1, 1, 1, 1, 1, 1, 0, 1, 0, 0, 1, 0, 0, 1, 1, 1, 1, 0, 0]) (Aaa Alb (Bic N N)) :=
 Abd (c := sub Air [1, 1, 1, 1, 1, 1, 0, 1, 0, 0, 1, 0, 0, 1, 1, 1, 1, 0, 0]) (dom := (Aao [33, 17, 43])) mixed htt (Aad (Aah (Biw N))) (Aae rfl) (by kernel_rfl) (Aaf (l := []) (by kernel_rfl) trivial) Bxe (B := (fun _ _ _ => none)) (Ab7.none _ _ _ _) (fun _ _ _ => rfl) (fun R k x K => Ci1 @Afw @Abj @Acg @Ac6 @Afa @Aeu @Aev N R (fun a0 a1 a2 a3 a4 a5 a6 a7 a8 a9 a10 a11 a12 a13 a14 => Afa N k a0 a1 a2 a3 a4 a5 a6 a7 a8 a9 a10 a11 a12 a13 a14 (fun a b d e f g h i j m n => K (.exit 2) (Aab A1i (((), (), (), a, ()), ((b, d, e, f, g, h, ()), ((), (), (), ()), i, j, m, n, ()))))) x K) N
theorem Cgl (N : Nat) : Aa4 Try.prog 130 [] (sub Air [1, 1, 1, 1, 1, 1, 0, 1, 0, 0, 1, 0, 0, 1, 1, 1, 1, 0]) (Aaa Alb (Bic N N)) := (Cgk N).frag
theorem Cgm (N : Nat) : Ab7 Try.prog 130 [] (sub Air [1, 1, 1, 1, 1, 1, 1, 1, 0, 1, 0, 0]) (Aaa Ald (Bii N N)) :=
 Abd (c := sub Air [1, 1, 1, 1, 1, 1, 1, 1, 0, 1, 0, 0]) (dom := (Aao [33, 17, 43])) mixed htt (Aad (Aah (Biw N))) (Aae rfl) (by kernel_rfl) (Aaf (l := []) (by kernel_rfl) trivial) Bxi (B := (fun _ _ _ => none)) (Ab7.none _ _ _ _) (fun _ _ _ => rfl) (fun R k x K => Cji @Afw @Abj @Acg @Ac6 @Afa @Aeu @Aev N R (fun a0 a1 a2 a3 a4 a5 a6 a7 a8 a9 a10 => Aev N k a0 a1 a2 a3 a4 a5 a6 a7 a8 a9 a10 (fun a b d e f g h i j m => K (.exit 4) (Aab A1k (((), (), (), ()), ((a, b, d, e, f, g, ()), ((), (), (), ()), h, i, j, m, ()))))) x K) N
theorem Cgn (N : Nat) : Aa4 Try.prog 130 [] (sub Air [1, 1, 1, 1, 1, 1, 1, 1, 0, 1, 0]) (Aaa Ald (Bii N N)) := (Cgm N).frag
theorem Cgo (N : Nat) : Ab7 Try.prog 130 [] (sub Air [1, 1, 1, 1, 1, 1, 0, 1, 0, 0]) (Aaa Alc (Bif N N)) :=
 Abd (c := sub Air [1, 1, 1, 1, 1, 1, 0, 1, 0, 0]) (dom := (Aao [33, 17, 43])) mixed htt (Aad (Aah (Biw N))) (Aae rfl) (by kernel_rfl) (Aaf (l := [(33, sub Air [1, 1, 1, 1, 1, 1, 0, 1, 0, 0, 1, 0, 0, 1, 1, 1, 1, 0])]) (by kernel_rfl) ⟨⟨_, rfl, Cgl N⟩, trivial⟩) Bxg (B := (fun _ _ _ => none)) (Ab7.none _ _ _ _) (fun _ _ _ => rfl) (fun R k x K => Cjh @Afw @Abj @Acg @Ac6 @Afa @Aeu @Aev N R (fun a0 a1 a2 a3 a4 a5 a6 a7 a8 a9 a10 => Aeu N k a0 a1 a2 a3 a4 a5 a6 a7 a8 a9 a10 (fun a b d e f g h i j m => K (.exit 0) (Aab A1j (((), (), (), ()), ((a, b, d, e, f, g, ()), ((), (), (), ()), h, i, j, m, ()))))) x K) N
theorem Cgp (N : Nat) : Aa4 Try.prog 130 [] (sub Air [1, 1, 1, 1, 1, 1, 0, 1, 0]) (Aaa Alc (Bif N N)) := (Cgo N).frag
theorem Cs8 (N : Nat) : Abc Try.prog 17 (B7z N) :=
 ⟨Aa8 (fn := Try.f17) (c := Air) (dom := (Aao [33, 17, 43])) (rs := [.tmp 2, .tmp 3]) mixed htt (Aad (Aah (Biw N))) (Aae rfl) Try.func17 rfl rfl (by kernel_rfl) (Aaf (l := [(17, sub Air [1, 1, 1, 1, 1, 1, 0, 1, 0]), (43, sub Air [1, 1, 1, 1, 1, 1, 1, 1, 0, 1, 0])]) (by kernel_rfl) ⟨⟨_, rfl, Cgp N⟩, ⟨_, rfl, Cgn N⟩, trivial⟩) (by decide) (by decide) (by decide) (fun R x C => Cwl @Afw @Abj @Acg @Ac6 @Afa @Aeu @Aev N R x C), Try.f17, Try.func17, rfl, by decide⟩
theorem Bxu (N : Nat) : Aca Try.prog (Ci0 N) := trivial
theorem B8v (N : Nat) : Ab7 Try.prog 26 [] (sub Arv [1, 1, 0, 1, 0, 0]) (Aaa Aly (Bb8 N N)) :=
 Abd (c := sub Arv [1, 1, 0, 1, 0, 0]) (dom := (Aao [9])) mixed htt (Aad (Aah (Bxu N))) (Aae rfl) (by kernel_rfl) (Aaf (l := []) (by kernel_rfl) trivial) Bq5 (B := (fun _ _ _ => none)) (Ab7.none _ _ _ _) (fun _ _ _ => rfl) (fun R k x K => Ca6 @Agd N R (fun a0 a1 a2 => Agd N k a0 a1 a2 (fun a => K .ret (Aab Ax0 ((a, ()), (())))) (K (.exit 0) (Aab Ax1 ((()), (()))))) x K) N
theorem B8w (N : Nat) : Aa4 Try.prog 26 [] (sub Arv [1, 1, 0, 1, 0]) (Aaa Aly (Bb8 N N)) := (B8v N).frag
theorem Cgq (N : Nat) : Abc Try.prog 18 (Bxk N) :=
 ⟨Aa8 (fn := Try.f18) (c := Arv) (dom := (Aao [9])) (rs := [.tmp 4]) mixed htt (Aad (Aah (Bxu N))) (Aae rfl) Try.func18 rfl rfl (by kernel_rfl) (Aaf (l := [(9, sub Arv [1, 1, 0, 1, 0])]) (by kernel_rfl) ⟨⟨_, rfl, B8w N⟩, trivial⟩) (by decide) (by decide) (by decide) (fun R x C => Cjg @Agd N R x C), Try.f18, Try.func18, rfl, by decide⟩
theorem A2n (N : Nat) : Aca Try.prog (Cmj N) := ⟨B09 N, Cs5 N, Biv N, Cb6 N, B1b N, Cs8 N, Cgq N, trivial⟩
theorem B8x (N : Nat) : Aa4 Try.prog 149 [] (sub Afl [1, 1, 1, 1, 1, 1, 1, 1, 0, 1, 0, 0, 1, 0, 0, 1, 1]) (Aaa Akk (Bqw N)) :=
 Afc (dom := (Aao [19, 27, 46, 35])) mixed htt (Aad (Aah (A2n N))) (Aae rfl) (by kernel_rfl) (Aaf (l := []) (by kernel_rfl) trivial) Bqv (fun R x K => Caw @Acp @Ags @Aaw @Ac5 @Adc @Afq @Adx @Acu @Acv @Ac7 @Acf N R x K)
theorem B8y (N : Nat) : Ab7 Try.prog 149 [] (sub Afl [1, 1, 1, 1, 1, 1, 1, 1, 0, 1, 0, 0]) (Aaa Aia (Bbw N N)) :=
 Abd (c := sub Afl [1, 1, 1, 1, 1, 1, 1, 1, 0, 1, 0, 0]) (dom := (Aao [19, 27, 46, 35])) mixed htt (Aad (Aah (A2n N))) (Aae rfl) (by kernel_rfl) (Aaf (l := [(46, sub Afl [1, 1, 1, 1, 1, 1, 1, 1, 0, 1, 0, 0, 1, 0, 0, 1, 1])]) (by kernel_rfl) ⟨⟨_, rfl, B8x N⟩, trivial⟩) Bqx (B := (fun _ _ _ => none)) (Ab7.none _ _ _ _) (fun _ _ _ => rfl) (fun R k x K => Ca2 @Acp @Ags @Aaw @Ac5 @Adc @Afq @Adx @Acu @Acv @Ac7 @Acf N R (fun a0 a1 a2 a3 a4 a5 a6 a7 a8 a9 a10 a11 a12 a13 a14 a15 a16 a17 => Acf N k a0 a1 a2 a3 a4 a5 a6 a7 a8 a9 a10 a11 a12 a13 a14 a15 a16 a17 (fun a b d e f g h => K .ret (Aab Axu (((), a, ()), ((b, (), (), (), d, e, ()), f, g, h, ())))) (fun a b d e f g h i j m n o p q r s => K (.exit 4) (Aab Axv ((a, (), (), (), (), (), ()), ((b, (), (), (), d, e, ()), (f, (), (), (), g, h, ()), i, j, m, n, o, p, q, r, s, ()))))) x K) N
theorem B8z (N : Nat) : Aa4 Try.prog 149 [] (sub Afl [1, 1, 1, 1, 1, 1, 1, 1, 0, 1, 0]) (Aaa Aia (Bbw N N)) := (B8y N).frag
theorem B80 (N : Nat) : Ab7 Try.prog 149 [] (sub Afl [1, 1, 1, 1, 1, 1, 1, 0, 1, 0, 0]) (Aaa Ah9 (Bbt N N)) :=
 Abd (c := sub Afl [1, 1, 1, 1, 1, 1, 1, 0, 1, 0, 0]) (dom := (Aao [19, 27, 46, 35])) mixed htt (Aad (Aah (A2n N))) (Aae rfl) (by kernel_rfl) (Aaf (l := []) (by kernel_rfl) trivial) Bqt (B := (fun _ _ _ => none)) (Ab7.none _ _ _ _) (fun _ _ _ => rfl) (fun R k x K => Ca3 @Acp @Ags @Aaw @Ac5 @Adc @Afq @Adx @Acu @Acv @Ac7 @Acf N R (fun a0 a1 a2 a3 a4 a5 a6 a7 a8 a9 a10 a11 a12 a13 a14 a15 a16 a17 => Acv N k a0 a1 a2 a3 a4 a5 a6 a7 a8 a9 a10 a11 a12 a13 a14 a15 a16 a17 (fun a b d e f g h i j m n o p q r s t => K (.exit 2) (Aab Axt ((a, (), (), b, (), (), (), ()), ((d, (), (), (), e, f, ()), (g, (), (), (), h, i, ()), j, m, n, o, p, q, r, s, t, ()))))) x K) N
theorem B81 (N : Nat) : Aa4 Try.prog 149 [] (sub Afl [1, 1, 1, 1, 1, 1, 1, 0, 1, 0]) (Aaa Ah9 (Bbt N N)) := (B80 N).frag
theorem B82 (N : Nat) : Ab7 Try.prog 149 [] (sub Afl [1, 1, 1, 1, 1, 1, 0, 1, 0, 0]) (Aaa Ah8 (Bbq N N)) :=
 Abd (c := sub Afl [1, 1, 1, 1, 1, 1, 0, 1, 0, 0]) (dom := (Aao [19, 27, 46, 35])) mixed htt (Aad (Aah (A2n N))) (Aae rfl) (by kernel_rfl) (Aaf (l := []) (by kernel_rfl) trivial) Bqr (B := (fun _ _ _ => none)) (Ab7.none _ _ _ _) (fun _ _ _ => rfl) (fun R k x K => Cav @Acp @Ags @Aaw @Ac5 @Adc @Afq @Adx @Acu @Acv @Ac7 @Acf N R (fun a0 a1 a2 a3 a4 a5 a6 a7 a8 a9 a10 a11 a12 a13 a14 a15 a16 a17 => Acu N k a0 a1 a2 a3 a4 a5 a6 a7 a8 a9 a10 a11 a12 a13 a14 a15 a16 a17 (fun a b d e f g h i j m n o p q r s t => K (.exit 0) (Aab Axs ((a, (), (), b, (), (), (), ()), ((d, (), (), (), e, f, ()), (g, (), (), (), h, i, ()), j, m, n, o, p, q, r, s, t, ()))))) x K) N
theorem B83 (N : Nat) : Aa4 Try.prog 149 [] (sub Afl [1, 1, 1, 1, 1, 1, 0, 1, 0]) (Aaa Ah8 (Bbq N N)) := (B82 N).frag
theorem Bxv (N : Nat) : Abc Try.prog 28 (Blo N) :=
 ⟨Aa8 (fn := Try.f28) (c := Afl) (dom := (Aao [19, 27, 46, 35])) (rs := [.cell 2 34, .tmp 3]) mixed htt (Aad (Aah (A2n N))) (Aae rfl) Try.func28 rfl rfl (by kernel_rfl) (Aaf (l := [(19, sub Afl [1, 1, 1, 1, 1, 1, 0, 1, 0]), (27, sub Afl [1, 1, 1, 1, 1, 1, 1, 0, 1, 0]), (35, sub Afl [1, 1, 1, 1, 1, 1, 1, 1, 0, 1, 0])]) (by kernel_rfl) ⟨⟨_, rfl, B83 N⟩, ⟨_, rfl, B81 N⟩, ⟨_, rfl, B8z N⟩, trivial⟩) (by decide) (by decide) (by decide) (fun R x C => Cm6 @Acp @Ags @Aaw @Ac5 @Adc @Afq @Adx @Acu @Acv @Ac7 @Acf N R x C), Try.f28, Try.func28, rfl, by decide⟩
theorem Cyt (N : Nat) : Aca Try.prog (Cyg N) := ⟨B07 N, trivial⟩
theorem Cw1 (N : Nat) : Abc Try.prog 29 (Cdf N) :=
 ⟨Aa8 (fn := Try.f29) (c := Cdd) (dom := (Aao [])) (rs := [.tmp 2, .tmp 3, .tmp 4]) mixed htt (Aad (Aah (Cyt N))) (Aae rfl) Try.func29 rfl rfl (by kernel_rfl) (Aaf (l := []) (by kernel_rfl) trivial) (by decide) (by decide) (by decide) (fun R x C => Cyj @Aho N R x C), Try.f29, Try.func29, rfl, by decide⟩
theorem Cw2 (N : Nat) : Aca Try.prog (Cwb N) := ⟨Bxv N, B09 N, trivial⟩
theorem Cs9 (N : Nat) : Abc Try.prog 30 (B72 N) :=
 ⟨Aa8 (fn := Try.f30) (c := B70) (dom := (Aao [])) (rs := [.tmp 2, .tmp 3, .tmp 4]) mixed htt (Aad (Aah (Cw2 N))) (Aae rfl) Try.func30 rfl rfl (by kernel_rfl) (Aaf (l := []) (by kernel_rfl) trivial) (by decide) (by decide) (by decide) (fun R x C => Cwh @Agz @Acp N R x C), Try.f30, Try.func30, rfl, by decide⟩
theorem B1e (N : Nat) : Aca Try.prog (Cml N) := trivial
theorem Ccq (N : Nat) : Ab7 Try.prog 26 [] (sub Atk [1, 1, 0, 1, 0, 0]) (Aaa Amx (Bfo N N)) :=
 Abd (c := sub Atk [1, 1, 0, 1, 0, 0]) (dom := (Aao [9])) mixed htt (Aad (Aah (B1e N))) (Aae rfl) (by kernel_rfl) (Aaf (l := []) (by kernel_rfl) trivial) Bve (B := (fun _ _ _ => none)) (Ab7.none _ _ _ _) (fun _ _ _ => rfl) (fun R k x K => Ce8 @Ag0 N R (fun a0 a1 a2 => Ag0 N k a0 a1 a2 (fun a => K .ret (Aab Az7 ((a, ()), (())))) (K (.exit 0) (Aab Az8 ((()), (()))))) x K) N
theorem Ccr (N : Nat) : Aa4 Try.prog 26 [] (sub Atk [1, 1, 0, 1, 0]) (Aaa Amx (Bfo N N)) := (Ccq N).frag
theorem Ckl (N : Nat) : Abc Try.prog 26 (B0x N) :=
 ⟨Aa8 (fn := Try.f26) (c := Atk) (dom := (Aao [9])) (rs := [.tmp 4]) mixed htt (Aad (Aah (B1e N))) (Aae rfl) Try.func26 rfl rfl (by kernel_rfl) (Aaf (l := [(9, sub Atk [1, 1, 0, 1, 0])]) (by kernel_rfl) ⟨⟨_, rfl, Ccr N⟩, trivial⟩) (by decide) (by decide) (by decide) (fun R x C => Cm9 @Ag0 N R x C), Try.f26, Try.func26, rfl, by decide⟩
theorem B43 (N : Nat) : Aca Try.prog (Crr N) := trivial
theorem Cgr (N : Nat) : Ab7 Try.prog 26 [] (sub Avj [1, 1, 0, 1, 0, 0]) (Aaa An0 (Bip N N)) :=
 Abd (c := sub Avj [1, 1, 0, 1, 0, 0]) (dom := (Aao [9])) mixed htt (Aad (Aah (B43 N))) (Aae rfl) (by kernel_rfl) (Aaf (l := []) (by kernel_rfl) trivial) Bxl (B := (fun _ _ _ => none)) (Ab7.none _ _ _ _) (fun _ _ _ => rfl) (fun R k x K => Cjb @Ahk N R (fun a0 a1 a2 => Ahk N k a0 a1 a2 (fun a => K .ret (Aab A1o ((a, ()), (())))) (K (.exit 0) (Aab A1p ((()), (()))))) x K) N
theorem Cgs (N : Nat) : Aa4 Try.prog 26 [] (sub Avj [1, 1, 0, 1, 0]) (Aaa An0 (Bip N N)) := (Cgr N).frag
theorem Cok (N : Nat) : Abc Try.prog 61 (B4p N) :=
 ⟨Aa8 (fn := Try.f61) (c := Avj) (dom := (Aao [9])) (rs := [.tmp 4]) mixed htt (Aad (Aah (B43 N))) (Aae rfl) Try.func61 rfl rfl (by kernel_rfl) (Aaf (l := [(9, sub Avj [1, 1, 0, 1, 0])]) (by kernel_rfl) ⟨⟨_, rfl, Cgs N⟩, trivial⟩) (by decide) (by decide) (by decide) (fun R x C => Css @Ahk N R x C), Try.f61, Try.func61, rfl, by decide⟩
theorem Blv (N : Nat) : Aca Try.prog (Cmn N) := ⟨Ckl N, Cok N, trivial⟩
theorem B84 (N : Nat) : Ab7 Try.prog 118 [] (sub Akw [1, 1, 1, 0, 1, 0, 0]) (Aaa Ako (Bcb N N)) :=
 Abd (c := sub Akw [1, 1, 1, 0, 1, 0, 0]) (dom := (Aao [9, 19])) mixed htt (Aad (Aah (Blv N))) (Aae rfl) (by kernel_rfl) (Aaf (l := []) (by kernel_rfl) trivial) Bq7 (B := (fun _ _ _ => none)) (Ab7.none _ _ _ _) (fun _ _ _ => rfl) (fun R k x K => Cay @Ahe @Ag9 @Afo @Aet N R (fun a0 a1 a2 a3 a4 a5 a6 a7 a8 a9 a10 a11 a12 => Aet N k a0 a1 a2 a3 a4 a5 a6 a7 a8 a9 a10 a11 a12 (fun a => K .ret (Aab Ax2 ((a, ()), (())))) (fun a b d e f g h i j m n o => K (.exit 2) (Aab Ax3 (((), (), ()), ((a, b, d, e, f, g, ()), (h, i, j, m, n, o, ()), ()))))) x K) N
theorem B85 (N : Nat) : Aa4 Try.prog 118 [] (sub Akw [1, 1, 1, 0, 1, 0]) (Aaa Ako (Bcb N N)) := (B84 N).frag
theorem Ccs (N : Nat) : Ab7 Try.prog 118 [] (sub Akw [1, 1, 0, 1, 0, 0]) (Aaa Alm (Bfr N N)) :=
 Abd (c := sub Akw [1, 1, 0, 1, 0, 0]) (dom := (Aao [9, 19])) mixed htt (Aad (Aah (Blv N))) (Aae rfl) (by kernel_rfl) (Aaf (l := []) (by kernel_rfl) trivial) Bvg (B := (fun _ _ _ => none)) (Ab7.none _ _ _ _) (fun _ _ _ => rfl) (fun R k x K => Cex @Ahe @Ag9 @Afo @Aet N R (fun a0 a1 a2 a3 a4 a5 a6 a7 a8 a9 a10 a11 a12 => Afo N k a0 a1 a2 a3 a4 a5 a6 a7 a8 a9 a10 a11 a12 (fun a => K .ret (Aab Az9 ((a, ()), (())))) (fun a b d e f g h i j m n o => K (.exit 0) (Aab A0a (((), (), ()), ((a, b, d, e, f, g, ()), (h, i, j, m, n, o, ()), ()))))) x K) N
theorem Cct (N : Nat) : Aa4 Try.prog 118 [] (sub Akw [1, 1, 0, 1, 0]) (Aaa Alm (Bfr N N)) := (Ccs N).frag
theorem Ckm (N : Nat) : Abc Try.prog 25 (B0z N) :=
 ⟨Aa8 (fn := Try.f25) (c := Akw) (dom := (Aao [9, 19])) (rs := [.tmp 4]) mixed htt (Aad (Aah (Blv N))) (Aae rfl) Try.func25 rfl rfl (by kernel_rfl) (Aaf (l := [(9, sub Akw [1, 1, 0, 1, 0]), (19, sub Akw [1, 1, 1, 0, 1, 0])]) (by kernel_rfl) ⟨⟨_, rfl, Cct N⟩, ⟨_, rfl, B85 N⟩, trivial⟩) (by decide) (by decide) (by decide) (fun R x C => Cmx @Ahe @Ag9 @Afo @Aet N R x C), Try.f25, Try.func25, rfl, by decide⟩
theorem Ccu (N : Nat) : Aca Try.prog (Cau N) := ⟨Cne N, Cnz N, Bxv N, Cw1 N, Cs9 N, Ckm N, By7 N, Bvl N, trivial⟩
theorem B86 (N : Nat) : Abc Try.prog 8 (Bq9 N) :=
 ⟨Aa8 (fn := Try.f8) (c := Bqp) (dom := (Aao [])) (rs := [.tmp 2]) mixed htt (Aad (Aah (Ccu N))) (Aae rfl) Try.func8 rfl rfl (by kernel_rfl) (Aaf (l := []) (by kernel_rfl) trivial) (by decide) (by decide) (by decide) (fun R x C => Ca5 @Am8 @Ao8 @Agz @Asl @App @Alf @Aeb @Ac6 N R x C), Try.f8, Try.func8, rfl, by decide⟩
end
end Q

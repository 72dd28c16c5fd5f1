/- Part O of the proof. -/
import Derived.Test.YtamaoomcbegaiaaGreatE1
import Derived.Test.YtamaoomcbegaiaaGreatE2
import Derived.Test.YtamaoomcbegaiaaGreatE3
import Derived.Test.YtamaoomcbegaiaaGreatE4
import Derived.Test.YtamaoomcbegaiaaGreatSh
import Derived.WalkKit
import Derived.Laws.Externs
import Derived.Test.YtamaoomcbegaiaaGreatAW
open Go Go.AX Go.Proofs
namespace Q
noncomputable section
set_option maxRecDepth 100000
set_option linter.unusedVariables false
theorem htt:Aod Tryz.prog tt:=C6b (l:=types) (by kernel_rfl)
theorem mixed:Tryz.prog.follows .mixedOrders=true:=by kernel_rfl
theorem Bsl(N:Nat):Aa8 Tryz.prog (Ceq N):=trivial
theorem B4h(N:Nat):Aet Tryz.prog 54 [] (sub Ap1 [1,1,0,1,0,0]) (Aaa Akk (A5b N N)) :=
 Adq (c:=sub Ap1 [1,1,0,1,0,0]) (dom:=(Aan [7])) mixed htt (Aad (Aai (Bsl N))) (Aaf rfl) (by kernel_rfl) (Aag (l:=[]) (by kernel_rfl) trivial) Bj7 (B:=(fun _ _ _=>none)) (Aet.none _ _ _ _) (fun _ _ _=>rfl) (fun R k x K=>B67 @Aex N R (fun a0 a1 a2 a3 a4 a5 a6 a7 a8=>Aex N k a0 a1 a2 a3 a4 a5 a6 a7 a8 (fun a b d e f g h i=>K (.exit 0) (Aab At9 ((a,(),b,()),((d,e,f,g,h,i,()),()))))) x K) N
theorem B4i(N:Nat):Aba Tryz.prog 54 [] (sub Ap1 [1,1,0,1,0]) (Aaa Akk (A5b N N)):=(B4h N).frag
theorem Cci(N:Nat):Aaz Tryz.prog 5 (Brp N) :=
 ⟨Aat (fn:=Tryz.f5) (c:=Ap1) (dom:=(Aan [7])) (rs:=[.tmp 4]) mixed htt (Aad (Aai (Bsl N))) (Aaf rfl) Tryz.func5 rfl rfl (by kernel_rfl) (Aag (l:=[(7,sub Ap1 [1,1,0,1,0])]) (by kernel_rfl) ⟨⟨_,rfl,B4i N⟩,trivial⟩) (by decide) (by decide) (by decide) (fun R x C=>Cfc @Aex N R x C),Tryz.f5,Tryz.func5,rfl,by decide⟩
theorem B52(N:Nat):Aa8 Tryz.prog (Cwa N):=trivial
theorem Cfl(N:Nat):Aet Tryz.prog 50 [] (sub Au2 [1,1,1,0,1,0,0]) (Aaa Amb (Bd4 N N)) :=
 Adq (c:=sub Au2 [1,1,1,0,1,0,0]) (dom:=(Aan [11])) mixed htt (Aad (Aai (B52 N))) (Aaf rfl) (by kernel_rfl) (Aag (l:=[]) (by kernel_rfl) trivial) Bub (B:=(fun _ _ _=>none)) (Aet.none _ _ _ _) (fun _ _ _=>rfl) (fun R k x K=>Ckt @Afz N R (fun a0 a1 a2 a3=>Afz N k a0 a1 a2 a3 (fun a=>K (.exit 0) (Aab Aye ((a,()),(()))))) x K) N
theorem Cfm(N:Nat):Aba Tryz.prog 50 [] (sub Au2 [1,1,1,0,1,0]) (Aaa Amb (Bd4 N N)):=(Cfl N).frag
theorem Ctp(N:Nat):Aaz Tryz.prog 41 (B40 N) :=
 ⟨Aat (fn:=Tryz.f41) (c:=Au2) (dom:=(Aan [11])) (rs:=[.tmp 2]) mixed htt (Aad (Aai (B52 N))) (Aaf rfl) Tryz.func41 rfl rfl (by kernel_rfl) (Aag (l:=[(11,sub Au2 [1,1,1,0,1,0])]) (by kernel_rfl) ⟨⟨_,rfl,Cfm N⟩,trivial⟩) (by decide) (by decide) (by decide) (fun R x C=>Cyi @Afz N R x C),Tryz.f41,Tryz.func41,rfl,by decide⟩
theorem Bt6:(Tryz.prog.info? 167).map (·.size)=some 2:=by kernel_rfl
theorem Cid:liesAt Tryz.prog Tryz.prog.depth 167 (2/Tryz.prog.cellsOf 167) 0 167 1=true:=by kernel_rfl
set_option maxHeartbeats 1000000 in
theorem Bli(b:Nat)(w:World)(h0:w.cell? ⟨b,0,none⟩=some (.pointer (some ⟨b,0,none⟩))) :
  Calls Tryz.prog 172 #[.pointer (some ⟨b,0,none⟩)] w fun e w'=>e = .returned (.tuple #[])∧w'=w:=by
 obtain⟨j,hj,_⟩:=Option.map_eq_some_iff.1 Bt6
 go_enter Tryz.func172,Tryz.ntmps172
 go_wp2
 rw[Lib.run_neq_ptr_same w _ Tryz.underlying164 hj]
 go_wp2
 go_end0
 exact⟨rfl,rfl⟩
set_option maxHeartbeats 1000000 in
theorem Bg9(b:Nat)(w:World)(h0:w.cell? ⟨b,0,none⟩=some (.pointer none))(hsh:w.shape? b=some (167,2))(hfz:w.frozen? ⟨b,0,none⟩=false) :
  Calls Tryz.prog 172 #[.pointer (some ⟨b,0,none⟩)] w fun e w'=>e = .returned (.tuple #[])∧w'=w.setCell ⟨b,0,none⟩ (.pointer (some ⟨b,0,none⟩)):=by
 obtain⟨j,hj,hjs⟩:=Option.map_eq_some_iff.1 Bt6
 go_enter Tryz.func172,Tryz.ntmps172
 go_wp2
 rw[Lib.run_to_unsafe w ⟨b,0,none⟩ Tryz.underlying164 Tryz.underlying229 hj (by rw[hjs];decide) hsh (Nat.zero_lt_succ 1)]
 simp only[Result.andThen]
 rw[Oper.upon_value]
 go_wp2
 rw[run_callFunc_extern Tryz.func224 (by kernel_rfl) (by kernel_rfl) (by kernel_rfl) (e:=Extern.AbiNoEscape.same) (by kernel_rfl)]
 rw[Lib.run_noEscape]
 simp only[Result.andThen]
 rw[Oper.upon_value]
 go_wp2
 rw[Lib.run_from_unsafe w ⟨b,0,none⟩ Tryz.underlying229 Tryz.underlying164 hj hsh Cid]
 simp only[Result.andThen]
 rw[Oper.upon_value]
 go_wp2
 go_end0
 exact⟨rfl,rfl⟩
theorem A2e(N:Nat):Aaz Tryz.prog 172 (Att N) :=
 ⟨C04 Bli Bg9,Tryz.f172,Tryz.func172,rfl,by decide⟩
theorem Box(N:Nat):Aa8 Tryz.prog (A2l N):=⟨A2e N,trivial⟩
theorem Bmn(N:Nat):Aaz Tryz.prog 117 (A2k N) :=
 ⟨Aat (fn:=Tryz.f117) (c:=Aqc) (dom:=(Aan [])) (rs:=[.tmp 4]) mixed htt (Aad (Aai (Box N))) (Aaf rfl) Tryz.func117 rfl rfl (by kernel_rfl) (Aag (l:=[]) (by kernel_rfl) trivial) (by decide) (by decide) (by decide) (fun R x C=>Bow N R x C),Tryz.f117,Tryz.func117,rfl,by decide⟩
theorem B4j(N:Nat):Aaz Tryz.prog 118 (Axe N) :=
 ⟨C03 Tryz.strings_IndexByte,Tryz.f118,Tryz.func118,rfl,by decide⟩
theorem Bjl(N:Nat):Aa8 Tryz.prog (Ayg N):=⟨A2e N,trivial⟩
theorem Bgu(N:Nat):Aaz Tryz.prog 117 (Ayf N) :=
 ⟨Aat (fn:=Tryz.f117) (c:=Aqc) (dom:=(Aan [])) (rs:=[.tmp 4]) mixed htt (Aad (Aai (Bjl N))) (Aaf rfl) Tryz.func117 rfl rfl (by kernel_rfl) (Aag (l:=[]) (by kernel_rfl) trivial) (by decide) (by decide) (by decide) (fun R x C=>Bjk N R x C),Tryz.f117,Tryz.func117,rfl,by decide⟩
theorem Bs4(N:Nat):Aaz Tryz.prog 119 (Ark N) :=
 ⟨Dav Tryz.lays169 Tryz.Builder_Extra_169,Tryz.f119,Tryz.func119,rfl,by decide⟩
theorem Chn(N:Nat):Aa8 Tryz.prog (C48 N):=⟨Ayc rfl (Bmn N) (Bgu N),B4j N,Bs4 N,trivial⟩
theorem Ctq(N:Nat):Aet Tryz.prog 41 [] (sub A0e [1,1,1,0,1,0,0]) (Aaa Aqr (Bpi N N)) :=
 Adq (c:=sub A0e [1,1,1,0,1,0,0]) (dom:=(Aan [9])) mixed htt (Aad (Aai (Chn N))) (Aaf rfl) (by kernel_rfl) (Aag (l:=[]) (by kernel_rfl) trivial) B41 (B:=(fun _ _ _=>none)) (Aet.none _ _ _ _) (fun _ _ _=>rfl) (fun R k x K=>Cyl @Acv @Aa3 @Ai3 N R (fun a0 a1 a2 a3=>Ai3 N k a0 a1 a2 a3 (fun a b=>K .ret (Aab A6i ((a,b,()),(())))) (fun a b=>K (.exit 0) (Aab A6j ((a,(),()),(((),(),()),b,()))))) x K) N
theorem Ctr(N:Nat):Aba Tryz.prog 41 [] (sub A0e [1,1,1,0,1,0]) (Aaa Aqr (Bpi N N)):=(Ctq N).frag
theorem Ccj(N:Nat):Aaz Tryz.prog 83 (B0w N) :=
 ⟨Aat (fn:=Tryz.f83) (c:=A0e) (dom:=(Aan [9])) (rs:=[.tmp 2,.tmp 3]) mixed htt (Aad (Aai (Chn N))) (Aaf rfl) Tryz.func83 rfl rfl (by kernel_rfl) (Aag (l:=[(9,sub A0e [1,1,1,0,1,0])]) (by kernel_rfl) ⟨⟨_,rfl,Ctr N⟩,trivial⟩) (by decide) (by decide) (by decide) (fun R x C=>C5g @Acv @Aa3 @Ai3 N R x C),Tryz.f83,Tryz.func83,rfl,by decide⟩
theorem Cyu(N:Nat):Aa8 Tryz.prog (B44 N):=trivial
theorem Bmo(N:Nat):Aaz Tryz.prog 44 (Bdm N) :=
 ⟨Aat (fn:=Tryz.f44) (c:=B43) (dom:=(Aan [])) (rs:=[.cell 0 75]) mixed htt (Aad (Aai (Cyu N))) (Aaf rfl) Tryz.func44 rfl rfl (by kernel_rfl) (Aag (l:=[]) (by kernel_rfl) trivial) (by decide) (by decide) (by decide) (fun R x C=>Cye N R x C),Tryz.f44,Tryz.func44,rfl,by decide⟩
theorem C88(N:Nat):Aa8 Tryz.prog (Cn8 N):=trivial
theorem Bna(N:Nat):Aaz Tryz.prog 121 (Bhf N) :=
 ⟨Aat (fn:=Tryz.f121) (c:=Cn7) (dom:=(Aan [])) (rs:=[.tmp 6]) mixed htt (Aad (Aai (C88 N))) (Aaf rfl) Tryz.func121 rfl rfl (by kernel_rfl) (Aag (l:=[]) (by kernel_rfl) trivial) (by decide) (by decide) (by decide) (fun R x C=>C85 N R x C),Tryz.f121,Tryz.func121,rfl,by decide⟩
theorem C34(N:Nat):Aa8 Tryz.prog (C2e N):=⟨Bna N,trivial⟩
theorem B53(N:Nat):Aaz Tryz.prog 120 (Buf N) :=
 ⟨Aat (fn:=Tryz.f120) (c:=B9s) (dom:=(Aan [])) (rs:=[.tmp 2]) mixed htt (Aad (Aai (C34 N))) (Aaf rfl) Tryz.func120 rfl rfl (by kernel_rfl) (Aag (l:=[]) (by kernel_rfl) trivial) (by decide) (by decide) (by decide) (fun R x C=>C31 @Ab6 N R x C),Tryz.f120,Tryz.func120,rfl,by decide⟩
theorem Bz3(N:Nat):Aa8 Tryz.prog (Coa N):=⟨Bna N,B53 N,trivial⟩
theorem B7k(N:Nat):Aba Tryz.prog 102 [] (sub Ayh [1,1,1]) (Aaa Aof (Bnp N)) :=
 Aei (dom:=(Aan [42])) mixed htt (Aad (Aai (Bz3 N))) (Aaf rfl) (by kernel_rfl) (Aag (l:=[]) (by kernel_rfl) trivial) Bno (fun R x K=>Cb3 @Ab6 @Agu @Ac2 N R x K)
theorem Ckx(N:Nat):Aaz Tryz.prog 84 (Bx7 N) :=
 ⟨Aat (fn:=Tryz.f84) (c:=Ayh) (dom:=(Aan [42])) (rs:=[.tmp 6]) mixed htt (Aad (Aai (Bz3 N))) (Aaf rfl) Tryz.func84 rfl rfl (by kernel_rfl) (Aag (l:=[(42,sub Ayh [1,1,1])]) (by kernel_rfl) ⟨⟨_,rfl,B7k N⟩,trivial⟩) (by decide) (by decide) (by decide) (fun R x C=>Cpk @Ab6 @Agu @Ac2 N R x C),Tryz.f84,Tryz.func84,rfl,by decide⟩
theorem B2r(N:Nat):Aa8 Tryz.prog (Csm N):=trivial
theorem Cfn(N:Nat):Aet Tryz.prog 74 [] (sub Asj [1,1,1,0,1,0,0]) (Aaa Amd (Beb N N)) :=
 Adq (c:=sub Asj [1,1,1,0,1,0,0]) (dom:=(Aan [9])) mixed htt (Aad (Aai (B2r N))) (Aaf rfl) (by kernel_rfl) (Aag (l:=[]) (by kernel_rfl) trivial) Bui (B:=(fun _ _ _=>none)) (Aet.none _ _ _ _) (fun _ _ _=>rfl) (fun R k x K=>Ckf @Age N R (fun a0 a1 a2 a3 a4 a5 a6 a7 a8 a9 a10 a11 a12=>Age N k a0 a1 a2 a3 a4 a5 a6 a7 a8 a9 a10 a11 a12 (fun a b d=>K .ret (Aab Ayl (((),(),a,()),(b,d,())))) (fun a b d e f g h i j m=>K (.exit 0) (Aab Aym (((),(),(),a,b,()),((d,e,f,g,h,i,()),j,m,()))))) x K) N
theorem Cfo(N:Nat):Aba Tryz.prog 74 [] (sub Asj [1,1,1,0,1,0]) (Aaa Amd (Beb N N)):=(Cfn N).frag
theorem Bz4(N:Nat):Aaz Tryz.prog 85 (Blm N) :=
 ⟨Aat (fn:=Tryz.f85) (c:=Asj) (dom:=(Aan [9])) (rs:=[.tmp 2,.tmp 3,.tmp 4]) mixed htt (Aad (Aai (B2r N))) (Aaf rfl) Tryz.func85 rfl rfl (by kernel_rfl) (Aag (l:=[(9,sub Asj [1,1,1,0,1,0])]) (by kernel_rfl) ⟨⟨_,rfl,Cfo N⟩,trivial⟩) (by decide) (by decide) (by decide) (fun R x C=>Ctl @Age N R x C),Tryz.f85,Tryz.func85,rfl,by decide⟩
theorem Cck(N:Nat):Aa8 Tryz.prog (C2g N):=trivial
theorem Cky(N:Nat):Aba Tryz.prog 39 [] (sub A76 [1,0,1,0,1]) (Aaa Arl (Bx9 N)) :=
 Aei (dom:=(Aan [12])) mixed htt (Aad (Aai (Cck N))) (Aaf rfl) (by kernel_rfl) (Aag (l:=[]) (by kernel_rfl) trivial) Bx8 (fun R x K=>Cpl @Agk N R x K)
theorem Bre(N:Nat):Aaz Tryz.prog 75 (Bhk N) :=
 ⟨Aat (fn:=Tryz.f75) (c:=A76) (dom:=(Aan [12])) (rs:=[.tmp 4]) mixed htt (Aad (Aai (Cck N))) (Aaf rfl) Tryz.func75 rfl rfl (by kernel_rfl) (Aag (l:=[(12,sub A76 [1,0,1,0,1])]) (by kernel_rfl) ⟨⟨_,rfl,Cky N⟩,trivial⟩) (by decide) (by decide) (by decide) (fun R x C=>C3p @Agk N R x C),Tryz.f75,Tryz.func75,rfl,by decide⟩
theorem Bdt(N:Nat):Aa8 Tryz.prog (Cwf N):=⟨Bre N,trivial⟩
theorem Cfp(N:Nat):Aet Tryz.prog 132 [] (sub Ai5 [1,0,1,0,0,1,0,0,1,0,1,0,1,0,0,1,0,0]) (Aaa Akd (Bed N N)) :=
 Adq (c:=sub Ai5 [1,0,1,0,0,1,0,0,1,0,1,0,1,0,0,1,0,0]) (dom:=(Aan [17,44,5])) mixed htt (Aad (Aai (Bdt N))) (Aaf rfl) (by kernel_rfl) (Aag (l:=[]) (by kernel_rfl) trivial) Buk (B:=(fun _ _ _=>none)) (Aet.none _ _ _ _) (fun _ _ _=>rfl) (fun R k x K=>Cj5 @Acg @Ad0 @Acu @Adu N R (fun a0 a1 a2 a3=>Ad0 N k a0 a1 a2 a3 (fun a=>K .ret (Aab Ayn ((a,()),(())))) (fun a b=>K (.exit 3) (Aab Ayo ((a,b,()),(()))))) x K) N
theorem Cfq(N:Nat):Aba Tryz.prog 132 [] (sub Ai5 [1,0,1,0,0,1,0,0,1,0,1,0,1,0,0,1,0]) (Aaa Akd (Bed N N)):=(Cfp N).frag
theorem Cfr(N:Nat):Aba Tryz.prog 132 [] (sub Ai5 [1,0,1,0,0,1,0,0,1,1]) (Aaa Ame (Bup N)) :=
 Aei (dom:=(Aan [17,44,5])) mixed htt (Aad (Aai (Bdt N))) (Aaf rfl) (by kernel_rfl) (Aag (l:=[]) (by kernel_rfl) trivial) Buo (fun R x K=>Ckp @Acg @Ad0 @Acu @Adu N R x K)
theorem Ckz(N:Nat):Aet Tryz.prog 132 [] (sub Ai5 [1,0,1,0,0]) (Aaa Ak6 (Bhn N N)) :=
 Adq (c:=sub Ai5 [1,0,1,0,0]) (dom:=(Aan [17,44,5])) mixed htt (Aad (Aai (Bdt N))) (Aaf rfl) (by kernel_rfl) (Aag (l:=[(17,sub Ai5 [1,0,1,0,0,1,0,0,1,0,1,0,1,0,0,1,0]),(44,sub Ai5 [1,0,1,0,0,1,0,0,1,1])]) (by kernel_rfl) ⟨⟨_,rfl,Cfq N⟩,⟨_,rfl,Cfr N⟩,trivial⟩) Bya (B:=(fun _ _ _=>none)) (Aet.none _ _ _ _) (fun _ _ _=>rfl) (fun R k x K=>Cpp @Acg @Ad0 @Acu @Adu N R (fun a0 a1=>Adu N k a0 a1 (fun a=>K .ret (Aab A0o ((a,()),(())))) (fun a=>K (.exit 0) (Aab A0p ((a,()),(()))))) x K) N
theorem Ck0(N:Nat):Aba Tryz.prog 132 [] (sub Ai5 [1,0,1,0]) (Aaa Ak6 (Bhn N N)):=(Ckz N).frag
theorem Cts(N:Nat):Aaz Tryz.prog 86 (B45 N) :=
 ⟨Aat (fn:=Tryz.f86) (c:=Ai5) (dom:=(Aan [17,44,5])) (rs:=[.tmp 2]) mixed htt (Aad (Aai (Bdt N))) (Aaf rfl) Tryz.func86 rfl rfl (by kernel_rfl) (Aag (l:=[(5,sub Ai5 [1,0,1,0])]) (by kernel_rfl) ⟨⟨_,rfl,Ck0 N⟩,trivial⟩) (by decide) (by decide) (by decide) (fun R x C=>Cyo @Acg @Ad0 @Acu @Adu N R x C),Tryz.f86,Tryz.func86,rfl,by decide⟩
theorem Cqd(N:Nat):Aa8 Tryz.prog (Cod N):=⟨B53 N,trivial⟩
theorem Ck1(N:Nat):Aaz Tryz.prog 123 (Byd N) :=
 ⟨Aat (fn:=Tryz.f123) (c:=Byc) (dom:=(Aan [])) (rs:=[.tmp 2]) mixed htt (Aad (Aai (Cqd N))) (Aaf rfl) Tryz.func123 rfl rfl (by kernel_rfl) (Aag (l:=[]) (by kernel_rfl) trivial) (by decide) (by decide) (by decide) (fun R x C=>Cpm @Agu N R x C),Tryz.f123,Tryz.func123,rfl,by decide⟩
theorem A4v(N:Nat):Aa8 Tryz.prog (Bpn N):=⟨Ck1 N,trivial⟩
theorem Bj4(N:Nat):Aet Tryz.prog 19 [] (sub Ai6 [1,0,1,0,0]) (Aaa Afj (Aso N N)) :=
 Adq (c:=sub Ai6 [1,0,1,0,0]) (dom:=(Aan [5])) mixed htt (Aad (Aai (A4v N))) (Aaf rfl) (by kernel_rfl) (Aag (l:=[]) (by kernel_rfl) trivial) A11 (B:=(fun _ _ _=>none)) (Aet.none _ _ _ _) (fun _ _ _=>rfl) (fun R k x K=>Bmm @Ahw @Ab8 N R (fun a0 a1 a2=>Ab8 N k a0 a1 a2 (fun a=>K .ret (Aab Ann ((a,()),(())))) (K (.exit 0) (Aab Ano ((()),(()))))) x K) N
theorem Bj5(N:Nat):Aba Tryz.prog 19 [] (sub Ai6 [1,0,1,0]) (Aaa Afj (Aso N N)):=(Bj4 N).frag
theorem Boy(N:Nat):Aaz Tryz.prog 174 (A4h N) :=
 ⟨Aat (fn:=Tryz.f174) (c:=Ai6) (dom:=(Aan [5])) (rs:=[.tmp 4]) mixed htt (Aad (Aai (A4v N))) (Aaf rfl) Tryz.func174 rfl rfl (by kernel_rfl) (Aag (l:=[(5,sub Ai6 [1,0,1,0])]) (by kernel_rfl) ⟨⟨_,rfl,Bj5 N⟩,trivial⟩) (by decide) (by decide) (by decide) (fun R x C=>Brd @Ahw @Ab8 N R x C),Tryz.f174,Tryz.func174,rfl,by decide⟩
theorem Bj6(N:Nat):Aa8 Tryz.prog (Bj2 N):=⟨Boy N,trivial⟩
theorem Bjm(N:Nat):Aaz Tryz.prog 122 (A0l N) :=
 ⟨Aat (fn:=Tryz.f122) (c:=A0k) (dom:=(Aan [])) (rs:=[.tmp 4]) mixed htt (Aad (Aai (Bj6 N))) (Aaf rfl) Tryz.func122 rfl rfl (by kernel_rfl) (Aag (l:=[]) (by kernel_rfl) trivial) (by decide) (by decide) (by decide) (fun R x C=>Bj3 @Aev N R x C),Tryz.f122,Tryz.func122,rfl,by decide⟩
theorem Brf(N:Nat):Aa8 Tryz.prog (Cwj N):=⟨Ccj N,Bjm N,Bna N,trivial⟩
theorem Cfs(N:Nat):Aet Tryz.prog 78 [] (sub Aln [1,1,1,0,1,0,0]) (Aaa Alh (Beg N N)) :=
 Adq (c:=sub Aln [1,1,1,0,1,0,0]) (dom:=(Aan [5,27])) mixed htt (Aad (Aai (Brf N))) (Aaf rfl) (by kernel_rfl) (Aag (l:=[]) (by kernel_rfl) trivial) Buq (B:=(fun _ _ _=>none)) (Aet.none _ _ _ _) (fun _ _ _=>rfl) (fun R k x K=>Cj3 @Aed @Abv @Ab6 @Afc @Ael N R (fun a0 a1 a2 a3 a4 a5 a6 a7 a8 a9=>Ael N k a0 a1 a2 a3 a4 a5 a6 a7 a8 a9 (fun a=>K .ret (Aab Ays ((a,()),(())))) (K (.exit 2) (Aab Ayt ((()),(()))))) x K) N
theorem Cft(N:Nat):Aba Tryz.prog 78 [] (sub Aln [1,1,1,0,1,0]) (Aaa Alh (Beg N N)):=(Cfs N).frag
theorem Ck2(N:Nat):Aet Tryz.prog 78 [] (sub Aln [1,0,1,0,0]) (Aaa Al2 (Bhs N N)) :=
 Adq (c:=sub Aln [1,0,1,0,0]) (dom:=(Aan [5,27])) mixed htt (Aad (Aai (Brf N))) (Aaf rfl) (by kernel_rfl) (Aag (l:=[]) (by kernel_rfl) trivial) Bye (B:=(fun _ _ _=>none)) (Aet.none _ _ _ _) (fun _ _ _=>rfl) (fun R k x K=>Cpx @Aed @Abv @Ab6 @Afc @Ael N R (fun a0 a1 a2 a3 a4 a5 a6 a7 a8=>Afc N k a0 a1 a2 a3 a4 a5 a6 a7 a8 (fun a=>K .ret (Aab A0r ((a,()),(())))) (fun a b d e f g=>K (.exit 0) (Aab A0s (((),()),((a,b,d,e,f,g,()),()))))) x K) N
theorem Ck3(N:Nat):Aba Tryz.prog 78 [] (sub Aln [1,0,1,0]) (Aaa Al2 (Bhs N N)):=(Ck2 N).frag
theorem Ctt(N:Nat):Aaz Tryz.prog 87 (B46 N) :=
 ⟨Aat (fn:=Tryz.f87) (c:=Aln) (dom:=(Aan [5,27])) (rs:=[.tmp 2]) mixed htt (Aad (Aai (Brf N))) (Aaf rfl) Tryz.func87 rfl rfl (by kernel_rfl) (Aag (l:=[(5,sub Aln [1,0,1,0]),(27,sub Aln [1,1,1,0,1,0])]) (by kernel_rfl) ⟨⟨_,rfl,Ck3 N⟩,⟨_,rfl,Cft N⟩,trivial⟩) (by decide) (by decide) (by decide) (fun R x C=>Cx6 @Aed @Abv @Ab6 @Afc @Ael N R x C),Tryz.f87,Tryz.func87,rfl,by decide⟩
theorem B54(N:Nat):Aa8 Tryz.prog (Cwl N):=trivial
theorem Cfu(N:Nat):Aba Tryz.prog 17 [] (sub A4j [1,0,1,0,1]) (Aaa Aqv (But N)) :=
 Aei (dom:=(Aan [14])) mixed htt (Aad (Aai (B54 N))) (Aaf rfl) (by kernel_rfl) (Aag (l:=[]) (by kernel_rfl) trivial) Bus (fun R x K=>Cj9 @Afk N R x K)
theorem Bmp(N:Nat):Aaz Tryz.prog 46 (Bdn N) :=
 ⟨Aat (fn:=Tryz.f46) (c:=A4j) (dom:=(Aan [14])) (rs:=[.tmp 2]) mixed htt (Aad (Aai (B54 N))) (Aaf rfl) Tryz.func46 rfl rfl (by kernel_rfl) (Aag (l:=[(14,sub A4j [1,0,1,0,1])]) (by kernel_rfl) ⟨⟨_,rfl,Cfu N⟩,trivial⟩) (by decide) (by decide) (by decide) (fun R x C=>Cx2 @Afk N R x C),Tryz.f46,Tryz.func46,rfl,by decide⟩
theorem Bdu(N:Nat):Aa8 Tryz.prog (Cwn N):=⟨Ccj N,Bmo N,Ckx N,Bz4 N,Cts N,Ctt N,Bmp N,trivial⟩
theorem Cfv(N:Nat):Aba Tryz.prog 111 [] (sub Ai4 [1,1,1,1,1,1,1,0,1,0,0,1,1,0,0,1,1]) (Aaa Amf (Buv N)) :=
 Aei (dom:=(Aan [13,40,33])) mixed htt (Aad (Aai (Bdu N))) (Aaf rfl) (by kernel_rfl) (Aag (l:=[]) (by kernel_rfl) trivial) Buu (fun R x K=>Ckm @Aed @Ab2 @Ae4 @Ac5 @Af2 @Af3 @Aby @Aea @Aem @Ad1 N R x K)
theorem Cfw(N:Nat):Aet Tryz.prog 111 [] (sub Ai4 [1,1,1,1,1,1,1,0,1,0,0]) (Aaa Ake (Bel N N)) :=
 Adq (c:=sub Ai4 [1,1,1,1,1,1,1,0,1,0,0]) (dom:=(Aan [13,40,33])) mixed htt (Aad (Aai (Bdu N))) (Aaf rfl) (by kernel_rfl) (Aag (l:=[(40,sub Ai4 [1,1,1,1,1,1,1,0,1,0,0,1,1,0,0,1,1])]) (by kernel_rfl) ⟨⟨_,rfl,Cfv N⟩,trivial⟩) Buw (B:=(fun _ _ _=>none)) (Aet.none _ _ _ _) (fun _ _ _=>rfl) (fun R k x K=>Ckd @Aed @Ab2 @Ae4 @Ac5 @Af2 @Af3 @Aby @Aea @Aem @Ad1 N R (fun a0 a1 a2 a3 a4 a5=>Ad1 N k a0 a1 a2 a3 a4 a5 (fun a=>K .ret (Aab Ayu ((a,()),(())))) (K (.exit 2) (Aab Ayv ((()),(()))))) x K) N
theorem Cfx(N:Nat):Aba Tryz.prog 111 [] (sub Ai4 [1,1,1,1,1,1,1,0,1,0]) (Aaa Ake (Bel N N)):=(Cfw N).frag
theorem Cfy(N:Nat):Aet Tryz.prog 111 [] (sub Ai4 [1,1,1,0,1,0,0]) (Aaa Akc (Bd7 N N)) :=
 Adq (c:=sub Ai4 [1,1,1,0,1,0,0]) (dom:=(Aan [13,40,33])) mixed htt (Aad (Aai (Bdu N))) (Aaf rfl) (by kernel_rfl) (Aag (l:=[]) (by kernel_rfl) trivial) Bug (B:=(fun _ _ _=>none)) (Aet.none _ _ _ _) (fun _ _ _=>rfl) (fun R k x K=>Cjq @Aed @Ab2 @Ae4 @Ac5 @Af2 @Af3 @Aby @Aea @Aem @Ad1 N R (fun a0 a1 a2 a3 a4 a5 a6 a7 a8 a9=>Aea N k a0 a1 a2 a3 a4 a5 a6 a7 a8 a9 (fun a=>K .ret (Aab Ayj ((a,()),(())))) (fun a b d e f g=>K (.exit 0) (Aab Ayk (((),()),((a,b,d,e,f,g,()),()))))) x K) N
theorem Cfz(N:Nat):Aba Tryz.prog 111 [] (sub Ai4 [1,1,1,0,1,0]) (Aaa Akc (Bd7 N N)):=(Cfy N).frag
theorem Ctu(N:Nat):Aaz Tryz.prog 42 (B48 N) :=
 ⟨Aat (fn:=Tryz.f42) (c:=Ai4) (dom:=(Aan [13,40,33])) (rs:=[.tmp 2]) mixed htt (Aad (Aai (Bdu N))) (Aaf rfl) Tryz.func42 rfl rfl (by kernel_rfl) (Aag (l:=[(13,sub Ai4 [1,1,1,0,1,0]),(33,sub Ai4 [1,1,1,1,1,1,1,0,1,0])]) (by kernel_rfl) ⟨⟨_,rfl,Cfz N⟩,⟨_,rfl,Cfx N⟩,trivial⟩) (by decide) (by decide) (by decide) (fun R x C=>Cx5 @Aed @Ab2 @Ae4 @Ac5 @Af2 @Af3 @Aby @Aea @Aem @Ad1 N R x C),Tryz.f42,Tryz.func42,rfl,by decide⟩
theorem Bxg(N:Nat):Aa8 Tryz.prog (C2i N):=⟨Bna N,trivial⟩
theorem Cqe(N:Nat):Aba Tryz.prog 55 [] (sub Atx [1,0,1,0,1]) (Aaa Aq9 (B1w N)) :=
 Aei (dom:=(Aan [8,30])) mixed htt (Aad (Aai (Bxg N))) (Aaf rfl) (by kernel_rfl) (Aag (l:=[]) (by kernel_rfl) trivial) B1v (fun R x K=>Cti @Ab6 @Ahj @Af8 N R x K)
theorem Ck4(N:Nat):Aba Tryz.prog 55 [] (sub Atx [1,1]) (Aaa Aqe (Byh N)) :=
 Aei (dom:=(Aan [8,30])) mixed htt (Aad (Aai (Bxg N))) (Aaf rfl) (by kernel_rfl) (Aag (l:=[]) (by kernel_rfl) trivial) Byg (fun R x K=>Cp8 @Ab6 @Ahj @Af8 N R x K)
theorem Cyv(N:Nat):Aaz Tryz.prog 88 (B9t N) :=
 ⟨Aat (fn:=Tryz.f88) (c:=Atx) (dom:=(Aan [8,30])) (rs:=[.tmp 8]) mixed htt (Aad (Aai (Bxg N))) (Aaf rfl) Tryz.func88 rfl rfl (by kernel_rfl) (Aag (l:=[(8,sub Atx [1,0,1,0,1]),(30,sub Atx [1,1])]) (by kernel_rfl) ⟨⟨_,rfl,Cqe N⟩,⟨_,rfl,Ck4 N⟩,trivial⟩) (by decide) (by decide) (by decide) (fun R x C=>C3l @Ab6 @Ahj @Af8 N R x C),Tryz.f88,Tryz.func88,rfl,by decide⟩
theorem Brg(N:Nat):Aa8 Tryz.prog (Cwp N):=trivial
theorem Cf0(N:Nat):Aba Tryz.prog 32 [] (sub Ar7 [1,0,1,0,1]) (Aaa Aoi (Bu2 N)) :=
 Aei (dom:=(Aan [16,18])) mixed htt (Aad (Aai (Brg N))) (Aaf rfl) (by kernel_rfl) (Aag (l:=[]) (by kernel_rfl) trivial) Bu1 (fun R x K=>Cj8 @Afl @Af0 N R x K)
theorem Cf1(N:Nat):Aba Tryz.prog 32 [] (sub Ar7 [1,1]) (Aaa Aoj (Bu4 N)) :=
 Aei (dom:=(Aan [16,18])) mixed htt (Aad (Aai (Brg N))) (Aaf rfl) (by kernel_rfl) (Aag (l:=[]) (by kernel_rfl) trivial) Bu3 (fun R x K=>Ckj @Afl @Af0 N R x K)
theorem B2s(N:Nat):Aaz Tryz.prog 45 (Bpw N) :=
 ⟨Aat (fn:=Tryz.f45) (c:=Ar7) (dom:=(Aan [16,18])) (rs:=[.tmp 6]) mixed htt (Aad (Aai (Brg N))) (Aaf rfl) Tryz.func45 rfl rfl (by kernel_rfl) (Aag (l:=[(16,sub Ar7 [1,0,1,0,1]),(18,sub Ar7 [1,1])]) (by kernel_rfl) ⟨⟨_,rfl,Cf0 N⟩,⟨_,rfl,Cf1 N⟩,trivial⟩) (by decide) (by decide) (by decide) (fun R x C=>Cyg @Afl @Af0 N R x C),Tryz.f45,Tryz.func45,rfl,by decide⟩
theorem B55(N:Nat):Aa8 Tryz.prog (Cwr N):=trivial
theorem Ck5(N:Nat):Aet Tryz.prog 14 [] (sub Au5 [1,0,0,0]) (Aaa Anp (Bhw N N)) :=
 Adq (c:=sub Au5 [1,0,0,0]) (dom:=(Aan [3])) mixed htt (Aad (Aai (B55 N))) (Aaf rfl) (by kernel_rfl) (Aag (l:=[]) (by kernel_rfl) trivial) Byi (B:=(fun _ _ _=>none)) (Aet.none _ _ _ _) (fun _ _ _=>rfl) (fun R k x K=>Cp1 @Ag8 N R (fun a0 a1=>Ag8 N k a0 a1 (fun a=>K (.exit 0) (Aab A0t ((a,()),(()))))) x K) N
theorem Ck6(N:Nat):Aba Tryz.prog 14 [] (sub Au5 [1,0,0]) (Aaa Anp (Bhw N N)):=(Ck5 N).frag
theorem Ctv(N:Nat):Aaz Tryz.prog 89 (B49 N) :=
 ⟨Aat (fn:=Tryz.f89) (c:=Au5) (dom:=(Aan [3])) (rs:=[.tmp 4]) mixed htt (Aad (Aai (B55 N))) (Aaf rfl) Tryz.func89 rfl rfl (by kernel_rfl) (Aag (l:=[(3,sub Au5 [1,0,0])]) (by kernel_rfl) ⟨⟨_,rfl,Ck6 N⟩,trivial⟩) (by decide) (by decide) (by decide) (fun R x C=>Cx3 @Ag8 N R x C),Tryz.f89,Tryz.func89,rfl,by decide⟩
theorem Bz5(N:Nat):Aa8 Tryz.prog (Coh N):=⟨Bmo N,Bz4 N,Cyv N,B2s N,Bmp N,Ctv N,Bre N,trivial⟩
theorem B7l(N:Nat):Aet Tryz.prog 114 [] (sub Arm [1,1,1,1,0,1,0,0]) (Aaa Ak7 (A8i N N)) :=
 Adq (c:=sub Arm [1,1,1,1,0,1,0,0]) (dom:=(Aan [11])) mixed htt (Aad (Aai (Bz5 N))) (Aaf rfl) (by kernel_rfl) (Aag (l:=[]) (by kernel_rfl) trivial) Bnq (B:=(fun _ _ _=>none)) (Aet.none _ _ _ _) (fun _ _ _=>rfl) (fun R k x K=>Cb9 @Ab2 @Ac5 @Ais @Adv @Aby @Ae7 @Acg @Aer N R (fun a0 a1 a2 a3 a4 a5 a6 a7 a8 a9 a10 a11=>Aer N k a0 a1 a2 a3 a4 a5 a6 a7 a8 a9 a10 a11 (fun a=>K .ret (Aab Avr ((a,()),(())))) (K (.exit 0) (Aab Avs ((()),(()))))) x K) N
theorem B7m(N:Nat):Aba Tryz.prog 114 [] (sub Arm [1,1,1,1,0,1,0]) (Aaa Ak7 (A8i N N)):=(B7l N).frag
theorem Ck7(N:Nat):Aaz Tryz.prog 43 (Byl N) :=
 ⟨Aat (fn:=Tryz.f43) (c:=Arm) (dom:=(Aan [11])) (rs:=[.tmp 2]) mixed htt (Aad (Aai (Bz5 N))) (Aaf rfl) Tryz.func43 rfl rfl (by kernel_rfl) (Aag (l:=[(11,sub Arm [1,1,1,1,0,1,0])]) (by kernel_rfl) ⟨⟨_,rfl,B7m N⟩,trivial⟩) (by decide) (by decide) (by decide) (fun R x C=>Cp7 @Ab2 @Ac5 @Ais @Adv @Aby @Ae7 @Acg @Aer N R x C),Tryz.f43,Tryz.func43,rfl,by decide⟩
theorem Cyw(N:Nat):Aa8 Tryz.prog (Cwt N):=⟨Ctp N,Ctu N,Ck7 N,trivial⟩
theorem Ctw(N:Nat):Aaz Tryz.prog 14 (B5a N) :=
 ⟨Aat (fn:=Tryz.f14) (c:=B4y) (dom:=(Aan [])) (rs:=[.tmp 2]) mixed htt (Aad (Aai (Cyw N))) (Aaf rfl) Tryz.func14 rfl rfl (by kernel_rfl) (Aag (l:=[]) (by kernel_rfl) trivial) (by decide) (by decide) (by decide) (fun R x C=>Cx9 @Amy @Amz @Akx N R x C),Tryz.f14,Tryz.func14,rfl,by decide⟩
theorem Bmq(N:Nat):Aa8 Tryz.prog (Csp N):=⟨Ctw N,Bmo N,B2s N,trivial⟩
theorem Ccl(N:Nat):Aba Tryz.prog 39 [] (sub Amx [1,1,1,1,1,1,0,1,0,0,1,1,0,0,1,1]) (Aaa Am3 (Brr N)) :=
 Aei (dom:=(Aan [24,17])) mixed htt (Aad (Aai (Bmq N))) (Aaf rfl) (by kernel_rfl) (Aag (l:=[]) (by kernel_rfl) trivial) Brq (fun R x K=>Cfi @Ah2 @Ab2 @Adv @Aff @Aef N R x K)
theorem Ccm(N:Nat):Aet Tryz.prog 39 [] (sub Amx [1,1,1,1,1,1,0,1,0,0]) (Aaa Akq (Bb4 N N)) :=
 Adq (c:=sub Amx [1,1,1,1,1,1,0,1,0,0]) (dom:=(Aan [24,17])) mixed htt (Aad (Aai (Bmq N))) (Aaf rfl) (by kernel_rfl) (Aag (l:=[(24,sub Amx [1,1,1,1,1,1,0,1,0,0,1,1,0,0,1,1])]) (by kernel_rfl) ⟨⟨_,rfl,Ccl N⟩,trivial⟩) Brs (B:=(fun _ _ _=>none)) (Aet.none _ _ _ _) (fun _ _ _=>rfl) (fun R k x K=>Ce9 @Ah2 @Ab2 @Adv @Aff @Aef N R (fun a0 a1 a2 a3 a4 a5=>Aef N k a0 a1 a2 a3 a4 a5 (fun a=>K (.exit 0) (Aab Axf (((),()),(a,()))))) x K) N
theorem Ccn(N:Nat):Aba Tryz.prog 39 [] (sub Amx [1,1,1,1,1,1,0,1,0]) (Aaa Akq (Bb4 N N)):=(Ccm N).frag
theorem Cqf(N:Nat):Aaz Tryz.prog 15 (B1x N) :=
 ⟨Aat (fn:=Tryz.f15) (c:=Amx) (dom:=(Aan [24,17])) (rs:=[.tmp 2,.tmp 3]) mixed htt (Aad (Aai (Bmq N))) (Aaf rfl) Tryz.func15 rfl rfl (by kernel_rfl) (Aag (l:=[(17,sub Amx [1,1,1,1,1,1,0,1,0])]) (by kernel_rfl) ⟨⟨_,rfl,Ccn N⟩,trivial⟩) (by decide) (by decide) (by decide) (fun R x C=>Cta @Ah2 @Ab2 @Adv @Aff @Aef N R x C),Tryz.f15,Tryz.func15,rfl,by decide⟩
theorem Bxh(N:Nat):Aa8 Tryz.prog (C2k N):=⟨Bmp N,trivial⟩
theorem Ck8(N:Nat):Aba Tryz.prog 43 [] (sub Aql [1,1,0,1,0,0,1,1,0,0,1,1]) (Aaa Aqf (Byn N)) :=
 Aei (dom:=(Aan [14,7])) mixed htt (Aad (Aai (Bxh N))) (Aaf rfl) (by kernel_rfl) (Aag (l:=[]) (by kernel_rfl) trivial) Bym (fun R x K=>Cpj @Aby @Af9 @Ae2 N R x K)
theorem Cqg(N:Nat):Aet Tryz.prog 43 [] (sub Aql [1,1,0,1,0,0]) (Aaa Am0 (Blr N N)) :=
 Adq (c:=sub Aql [1,1,0,1,0,0]) (dom:=(Aan [14,7])) mixed htt (Aad (Aai (Bxh N))) (Aaf rfl) (by kernel_rfl) (Aag (l:=[(14,sub Aql [1,1,0,1,0,0,1,1,0,0,1,1])]) (by kernel_rfl) ⟨⟨_,rfl,Ck8 N⟩,trivial⟩) B1y (B:=(fun _ _ _=>none)) (Aet.none _ _ _ _) (fun _ _ _=>rfl) (fun R k x K=>Cth @Aby @Af9 @Ae2 N R (fun a0 a1 a2 a3 a4 a5 a6=>Ae2 N k a0 a1 a2 a3 a4 a5 a6 (fun a b d e=>K (.exit 0) (Aab A26 (((),()),((a,(),(),b,()),d,e,()))))) x K) N
theorem Cqh(N:Nat):Aba Tryz.prog 43 [] (sub Aql [1,1,0,1,0]) (Aaa Am0 (Blr N N)):=(Cqg N).frag
theorem Cyx(N:Nat):Aaz Tryz.prog 16 (B9u N) :=
 ⟨Aat (fn:=Tryz.f16) (c:=Aql) (dom:=(Aan [14,7])) (rs:=[.tmp 4]) mixed htt (Aad (Aai (Bxh N))) (Aaf rfl) Tryz.func16 rfl rfl (by kernel_rfl) (Aag (l:=[(7,sub Aql [1,1,0,1,0])]) (by kernel_rfl) ⟨⟨_,rfl,Cqh N⟩,trivial⟩) (by decide) (by decide) (by decide) (fun R x C=>C3m @Aby @Af9 @Ae2 N R x C),Tryz.f16,Tryz.func16,rfl,by decide⟩
theorem Cqi(N:Nat):Aa8 Tryz.prog (Byq N):=trivial
theorem Ck9(N:Nat):Aaz Tryz.prog 17 (Byp N) :=
 ⟨Aat (fn:=Tryz.f17) (c:=Byo) (dom:=(Aan [])) (rs:=[.tmp 0]) mixed htt (Aad (Aai (Cqi N))) (Aaf rfl) Tryz.func17 rfl rfl (by kernel_rfl) (Aag (l:=[]) (by kernel_rfl) trivial) (by decide) (by decide) (by decide) (fun R x C=>Cqc N R x C),Tryz.f17,Tryz.func17,rfl,by decide⟩
theorem Ctx(N:Nat):Aa8 Tryz.prog (B11 N):=trivial
theorem Aqj(N:Nat):Aaz Tryz.prog 90 (Apl N) :=
 ⟨Aat (fn:=Tryz.f90) (c:=B10) (dom:=(Aan [])) (rs:=[.tmp 4]) mixed htt (Aad (Aai (Ctx N))) (Aaf rfl) Tryz.func90 rfl rfl (by kernel_rfl) (Aag (l:=[]) (by kernel_rfl) trivial) (by decide) (by decide) (by decide) (fun R x C=>Ctn N R x C),Tryz.f90,Tryz.func90,rfl,by decide⟩
theorem C35(N:Nat):Aa8 Tryz.prog (B9x N):=trivial
theorem B56(N:Nat):Aaz Tryz.prog 95 (Bva N) :=
 ⟨Aat (fn:=Tryz.f95) (c:=B9w) (dom:=(Aan [])) (rs:=[.tmp 2]) mixed htt (Aad (Aai (C35 N))) (Aaf rfl) Tryz.func95 rfl rfl (by kernel_rfl) (Aag (l:=[]) (by kernel_rfl) trivial) (by decide) (by decide) (by decide) (fun R x C=>C32 N R x C),Tryz.f95,Tryz.func95,rfl,by decide⟩
theorem C36(N:Nat):Aa8 Tryz.prog (B92 N):=trivial
theorem Cyy(N:Nat):Aaz Tryz.prog 170 (B91 N) :=
 ⟨Aat (fn:=Tryz.f170) (c:=B9z) (dom:=(Aan [])) (rs:=[.tmp 2]) mixed htt (Aad (Aai (C36 N))) (Aaf rfl) Tryz.func170 rfl rfl (by kernel_rfl) (Aag (l:=[]) (by kernel_rfl) trivial) (by decide) (by decide) (by decide) (fun R x C=>C3q N R x C),Tryz.f170,Tryz.func170,rfl,by decide⟩
theorem C5h(N:Nat):Aa8 Tryz.prog (Chk N):=trivial
theorem Cco(N:Nat):Aaz Tryz.prog 175 (B0y N) :=
 ⟨Aat (fn:=Tryz.f175) (c:=Chj) (dom:=(Aan [])) (rs:=[.tmp 4]) mixed htt (Aad (Aai (C5h N))) (Aaf rfl) Tryz.func175 rfl rfl (by kernel_rfl) (Aag (l:=[]) (by kernel_rfl) trivial) (by decide) (by decide) (by decide) (fun R x C=>C5f N R x C),Tryz.f175,Tryz.func175,rfl,by decide⟩
theorem C37(N:Nat):Aa8 Tryz.prog (B94 N):=trivial
theorem Ave(N:Nat):Aaz Tryz.prog 223 (At0 N) :=
 ⟨Aat (fn:=Tryz.f223) (c:=B93) (dom:=(Aan [])) (rs:=[.tmp 2]) mixed htt (Aad (Aai (C37 N))) (Aaf rfl) Tryz.func223 rfl rfl (by kernel_rfl) (Aag (l:=[]) (by kernel_rfl) trivial) (by decide) (by decide) (by decide) (fun R x C=>C3s N R x C),Tryz.f223,Tryz.func223,rfl,by decide⟩
theorem Cla(N:Nat):Aa8 Tryz.prog (Bve N):=trivial
theorem Bsm(N:Nat):Aaz Tryz.prog 177 (Bep N) :=
 ⟨Aat (fn:=Tryz.f177) (c:=Bvd) (dom:=(Aan [])) (rs:=[.tmp 0]) mixed htt (Aad (Aai (Cla N))) (Aaf rfl) Tryz.func177 rfl rfl (by kernel_rfl) (Aag (l:=[]) (by kernel_rfl) trivial) (by decide) (by decide) (by decide) (fun R x C=>Ckc N R x C),Tryz.f177,Tryz.func177,rfl,by decide⟩
theorem Ccp(N:Nat):Aa8 Tryz.prog (Bns N):=trivial
theorem Bky(N:Nat):Aaz Tryz.prog 226 (A8k N) :=
 ⟨Aat (fn:=Tryz.f226) (c:=Bnr) (dom:=(Aan [])) (rs:=[.tmp 6]) mixed htt (Aad (Aai (Ccp N))) (Aaf rfl) Tryz.func226 rfl rfl (by kernel_rfl) (Aag (l:=[]) (by kernel_rfl) trivial) (by decide) (by decide) (by decide) (fun R x C=>Cbz N R x C),Tryz.f226,Tryz.func226,rfl,by decide⟩
theorem Ccq(N:Nat):Aa8 Tryz.prog (Bnu N):=trivial
theorem Bkz(N:Nat):Aaz Tryz.prog 227 (A8m N) :=
 ⟨Aat (fn:=Tryz.f227) (c:=Bnt) (dom:=(Aan [])) (rs:=[.tmp 6]) mixed htt (Aad (Aai (Ccq N))) (Aaf rfl) Tryz.func227 rfl rfl (by kernel_rfl) (Aag (l:=[]) (by kernel_rfl) trivial) (by decide) (by decide) (by decide) (fun R x C=>Cb4 N R x C),Tryz.f227,Tryz.func227,rfl,by decide⟩
theorem Ccr(N:Nat):Aa8 Tryz.prog (Bnw N):=trivial
theorem Bk0(N:Nat):Aaz Tryz.prog 228 (A8o N) :=
 ⟨Aat (fn:=Tryz.f228) (c:=Bnv) (dom:=(Aan [])) (rs:=[.tmp 6]) mixed htt (Aad (Aai (Ccr N))) (Aaf rfl) Tryz.func228 rfl rfl (by kernel_rfl) (Aag (l:=[]) (by kernel_rfl) trivial) (by decide) (by decide) (by decide) (fun R x C=>Ccg N R x C),Tryz.f228,Tryz.func228,rfl,by decide⟩
theorem Ccs(N:Nat):Aa8 Tryz.prog (Bny N):=trivial
theorem Bk1(N:Nat):Aaz Tryz.prog 229 (A8q N) :=
 ⟨Aat (fn:=Tryz.f229) (c:=Bnx) (dom:=(Aan [])) (rs:=[.tmp 6]) mixed htt (Aad (Aai (Ccs N))) (Aaf rfl) Tryz.func229 rfl rfl (by kernel_rfl) (Aag (l:=[]) (by kernel_rfl) trivial) (by decide) (by decide) (by decide) (fun R x C=>Cb0 N R x C),Tryz.f229,Tryz.func229,rfl,by decide⟩
theorem Cct(N:Nat):Aa8 Tryz.prog (Bn0 N):=trivial
theorem Bk2(N:Nat):Aaz Tryz.prog 230 (A8s N) :=
 ⟨Aat (fn:=Tryz.f230) (c:=Bnz) (dom:=(Aan [])) (rs:=[.tmp 6]) mixed htt (Aad (Aai (Cct N))) (Aaf rfl) Tryz.func230 rfl rfl (by kernel_rfl) (Aag (l:=[]) (by kernel_rfl) trivial) (by decide) (by decide) (by decide) (fun R x C=>Cb8 N R x C),Tryz.f230,Tryz.func230,rfl,by decide⟩
theorem Ccu(N:Nat):Aa8 Tryz.prog (Bn2 N):=trivial
theorem Bk3(N:Nat):Aaz Tryz.prog 231 (A8u N) :=
 ⟨Aat (fn:=Tryz.f231) (c:=Bn1) (dom:=(Aan [])) (rs:=[.tmp 6]) mixed htt (Aad (Aai (Ccu N))) (Aaf rfl) Tryz.func231 rfl rfl (by kernel_rfl) (Aag (l:=[]) (by kernel_rfl) trivial) (by decide) (by decide) (by decide) (fun R x C=>Cb5 N R x C),Tryz.f231,Tryz.func231,rfl,by decide⟩
theorem Cqj(N:Nat):Aa8 Tryz.prog (Byu N):=trivial
theorem Clb(N:Nat):Aaz Tryz.prog 233 (Byt N) :=
 ⟨Aat (fn:=Tryz.f233) (c:=Byr) (dom:=(Aan [])) (rs:=[.tmp 4]) mixed htt (Aad (Aai (Cqj N))) (Aaf rfl) Tryz.func233 rfl rfl (by kernel_rfl) (Aag (l:=[]) (by kernel_rfl) trivial) (by decide) (by decide) (by decide) (fun R x C=>Cp3 N R x C),Tryz.f233,Tryz.func233,rfl,by decide⟩
theorem Ccv(N:Nat):Aa8 Tryz.prog (Caq N):=⟨Clb N,trivial⟩
theorem Bk4(N:Nat):Aaz Tryz.prog 232 (A8x N) :=
 ⟨Aat (fn:=Tryz.f232) (c:=Bn3) (dom:=(Aan [])) (rs:=[.tmp 6]) mixed htt (Aad (Aai (Ccv N))) (Aaf rfl) Tryz.func232 rfl rfl (by kernel_rfl) (Aag (l:=[]) (by kernel_rfl) trivial) (by decide) (by decide) (by decide) (fun R x C=>Cby @Aky N R x C),Tryz.f232,Tryz.func232,rfl,by decide⟩
theorem Ccw(N:Nat):Aa8 Tryz.prog (Bn5 N):=trivial
theorem Bk5(N:Nat):Aaz Tryz.prog 234 (A8z N) :=
 ⟨Aat (fn:=Tryz.f234) (c:=Bn4) (dom:=(Aan [])) (rs:=[.tmp 6]) mixed htt (Aad (Aai (Ccw N))) (Aaf rfl) Tryz.func234 rfl rfl (by kernel_rfl) (Aag (l:=[]) (by kernel_rfl) trivial) (by decide) (by decide) (by decide) (fun R x C=>Cch N R x C),Tryz.f234,Tryz.func234,rfl,by decide⟩
theorem Ccx(N:Nat):Aa8 Tryz.prog (Bn7 N):=trivial
theorem Bk6(N:Nat):Aaz Tryz.prog 235 (A81 N) :=
 ⟨Aat (fn:=Tryz.f235) (c:=Bn6) (dom:=(Aan [])) (rs:=[.tmp 6]) mixed htt (Aad (Aai (Ccx N))) (Aaf rfl) Tryz.func235 rfl rfl (by kernel_rfl) (Aag (l:=[]) (by kernel_rfl) trivial) (by decide) (by decide) (by decide) (fun R x C=>Cb1 N R x C),Tryz.f235,Tryz.func235,rfl,by decide⟩
theorem B7n(N:Nat):Aa8 Tryz.prog (Bka N):=trivial
theorem Bjn(N:Nat):Aaz Tryz.prog 236 (A5e N) :=
 ⟨Aat (fn:=Tryz.f236) (c:=Bj9) (dom:=(Aan [])) (rs:=[.tmp 6]) mixed htt (Aad (Aai (B7n N))) (Aaf rfl) Tryz.func236 rfl rfl (by kernel_rfl) (Aag (l:=[]) (by kernel_rfl) trivial) (by decide) (by decide) (by decide) (fun R x C=>B7b N R x C),Tryz.f236,Tryz.func236,rfl,by decide⟩
theorem B7o(N:Nat):Aa8 Tryz.prog (Bkc N):=trivial
theorem Bjo(N:Nat):Aaz Tryz.prog 237 (A5g N) :=
 ⟨Aat (fn:=Tryz.f237) (c:=Bkb) (dom:=(Aan [])) (rs:=[.tmp 6]) mixed htt (Aad (Aai (B7o N))) (Aaf rfl) Tryz.func237 rfl rfl (by kernel_rfl) (Aag (l:=[]) (by kernel_rfl) trivial) (by decide) (by decide) (by decide) (fun R x C=>B7c N R x C),Tryz.f237,Tryz.func237,rfl,by decide⟩
theorem B7p(N:Nat):Aa8 Tryz.prog (B6o N):=⟨Ave N,trivial⟩
theorem Bjp(N:Nat):Aaz Tryz.prog 238 (A5i N) :=
 ⟨Aat (fn:=Tryz.f238) (c:=Bkd) (dom:=(Aan [])) (rs:=[.tmp 6]) mixed htt (Aad (Aai (B7p N))) (Aaf rfl) Tryz.func238 rfl rfl (by kernel_rfl) (Aag (l:=[]) (by kernel_rfl) trivial) (by decide) (by decide) (by decide) (fun R x C=>B7h @Aa4 N R x C),Tryz.f238,Tryz.func238,rfl,by decide⟩
theorem B7q(N:Nat):Aa8 Tryz.prog (B6q N):=⟨Ave N,trivial⟩
theorem Bjq(N:Nat):Aaz Tryz.prog 239 (A5k N) :=
 ⟨Aat (fn:=Tryz.f239) (c:=Bkf) (dom:=(Aan [])) (rs:=[.tmp 6]) mixed htt (Aad (Aai (B7q N))) (Aaf rfl) Tryz.func239 rfl rfl (by kernel_rfl) (Aag (l:=[]) (by kernel_rfl) trivial) (by decide) (by decide) (by decide) (fun R x C=>B7e @Aa4 N R x C),Tryz.f239,Tryz.func239,rfl,by decide⟩
theorem B7r(N:Nat):Aa8 Tryz.prog (B6s N):=⟨Ave N,trivial⟩
theorem Bjr(N:Nat):Aaz Tryz.prog 240 (A5m N) :=
 ⟨Aat (fn:=Tryz.f240) (c:=Bkh) (dom:=(Aan [])) (rs:=[.tmp 6]) mixed htt (Aad (Aai (B7r N))) (Aaf rfl) Tryz.func240 rfl rfl (by kernel_rfl) (Aag (l:=[]) (by kernel_rfl) trivial) (by decide) (by decide) (by decide) (fun R x C=>B7a @Aa4 N R x C),Tryz.f240,Tryz.func240,rfl,by decide⟩
theorem B7s(N:Nat):Aa8 Tryz.prog (B6u N):=⟨Ave N,trivial⟩
theorem Bjs(N:Nat):Aaz Tryz.prog 241 (A5o N) :=
 ⟨Aat (fn:=Tryz.f241) (c:=Bkj) (dom:=(Aan [])) (rs:=[.tmp 6]) mixed htt (Aad (Aai (B7s N))) (Aaf rfl) Tryz.func241 rfl rfl (by kernel_rfl) (Aag (l:=[]) (by kernel_rfl) trivial) (by decide) (by decide) (by decide) (fun R x C=>B68 @Aa4 N R x C),Tryz.f241,Tryz.func241,rfl,by decide⟩
theorem B7t(N:Nat):Aa8 Tryz.prog (B6w N):=⟨Ave N,trivial⟩
theorem Bjt(N:Nat):Aaz Tryz.prog 242 (A5q N) :=
 ⟨Aat (fn:=Tryz.f242) (c:=Bkl) (dom:=(Aan [])) (rs:=[.tmp 6]) mixed htt (Aad (Aai (B7t N))) (Aaf rfl) Tryz.func242 rfl rfl (by kernel_rfl) (Aag (l:=[]) (by kernel_rfl) trivial) (by decide) (by decide) (by decide) (fun R x C=>B7i @Aa4 N R x C),Tryz.f242,Tryz.func242,rfl,by decide⟩
theorem B7u(N:Nat):Aa8 Tryz.prog (B6y N):=⟨Ave N,trivial⟩
theorem Bju(N:Nat):Aaz Tryz.prog 243 (A5s N) :=
 ⟨Aat (fn:=Tryz.f243) (c:=Bkn) (dom:=(Aan [])) (rs:=[.tmp 6]) mixed htt (Aad (Aai (B7u N))) (Aaf rfl) Tryz.func243 rfl rfl (by kernel_rfl) (Aag (l:=[]) (by kernel_rfl) trivial) (by decide) (by decide) (by decide) (fun R x C=>B7f @Aa4 N R x C),Tryz.f243,Tryz.func243,rfl,by decide⟩
theorem B7v(N:Nat):Aa8 Tryz.prog (Bkq N):=trivial
theorem Bjv(N:Nat):Aaz Tryz.prog 244 (A5u N) :=
 ⟨Aat (fn:=Tryz.f244) (c:=Bkp) (dom:=(Aan [])) (rs:=[.tmp 6]) mixed htt (Aad (Aai (B7v N))) (Aaf rfl) Tryz.func244 rfl rfl (by kernel_rfl) (Aag (l:=[]) (by kernel_rfl) trivial) (by decide) (by decide) (by decide) (fun R x C=>B7j N R x C),Tryz.f244,Tryz.func244,rfl,by decide⟩
theorem B7w(N:Nat):Aa8 Tryz.prog (Bks N):=trivial
theorem Bjw(N:Nat):Aaz Tryz.prog 245 (A5w N) :=
 ⟨Aat (fn:=Tryz.f245) (c:=Bkr) (dom:=(Aan [])) (rs:=[.tmp 6]) mixed htt (Aad (Aai (B7w N))) (Aaf rfl) Tryz.func245 rfl rfl (by kernel_rfl) (Aag (l:=[]) (by kernel_rfl) trivial) (by decide) (by decide) (by decide) (fun R x C=>B7g N R x C),Tryz.f245,Tryz.func245,rfl,by decide⟩
theorem Ccy(N:Nat):Aa8 Tryz.prog (Dbr N):=⟨Cco N,Ave N,Bsm N,Bky N,Bkz N,Bk0 N,Bk1 N,Bk2 N,Bk3 N,Bk4 N,Bk5 N,Bk6 N,Bjn N,Bjo N,Bjp N,Bjq N,Bjr N,Bjs N,Bjt N,Bju N,Bjv N,Bjw N,trivial⟩
theorem Cyz(N:Nat):Aba Tryz.prog 89 [] (sub A2m [1,1,0,1,0,1,1,1,1,1,1,1,1,1,1,1,1,1,1,1,1,1,1,1]) (Aaa At1 (B96 N)) :=
 Aei (dom:=(Aan [46,50])) mixed htt (Aad (Aai (Ccy N))) (Aaf rfl) (by kernel_rfl) (Aag (l:=[]) (by kernel_rfl) trivial) B95 (fun R x K=>C3z @Abw @Aa4 @Acb @Abj @Abk @Abl @Abm @Abn @Abo @Abp @Abq @Abr @Abb @Abc @Abd @Abe @Abf @Abg @Abh @Abi @Aa5 @Aa6 @Ait @Ajo N R x K)
theorem Cy0(N:Nat):Aba Tryz.prog 89 [] (sub A2m [1,1,1]) (Aaa At2 (Caz N)) :=
 Aei (dom:=(Aan [46,50])) mixed htt (Aad (Aai (Ccy N))) (Aaf rfl) (by kernel_rfl) (Aag (l:=[]) (by kernel_rfl) trivial) Cax (fun R x K=>C3t @Abw @Aa4 @Acb @Abj @Abk @Abl @Abm @Abn @Abo @Abp @Abq @Abr @Abb @Abc @Abd @Abe @Abf @Abg @Abh @Abi @Aa5 @Aa6 @Ait @Ajo N R x K)
theorem C89(N:Nat):Aaz Tryz.prog 171 (Cvq N) :=
 ⟨Aat (fn:=Tryz.f171) (c:=A2m) (dom:=(Aan [46,50])) (rs:=[.tmp 8,.tmp 9]) mixed htt (Aad (Aai (Ccy N))) (Aaf rfl) Tryz.func171 rfl rfl (by kernel_rfl) (Aag (l:=[(46,sub A2m [1,1,0,1,0,1,1,1,1,1,1,1,1,1,1,1,1,1,1,1,1,1,1,1]),(50,sub A2m [1,1,1])]) (by kernel_rfl) ⟨⟨_,rfl,Cyz N⟩,⟨_,rfl,Cy0 N⟩,trivial⟩) (by decide) (by decide) (by decide) (fun R x C=>Dbw @Abw @Aa4 @Acb @Abj @Abk @Abl @Abm @Abn @Abo @Abp @Abq @Abr @Abb @Abc @Abd @Abe @Abf @Abg @Abh @Abi @Aa5 @Aa6 @Ait @Ajo N R x C),Tryz.f171,Tryz.func171,rfl,by decide⟩
theorem C38(N:Nat):Aa8 Tryz.prog (C2x N):=⟨Cyy N,C89 N,trivial⟩
theorem Cy1(N:Nat):Aaz Tryz.prog 115 (Ca1 N) :=
 ⟨Aat (fn:=Tryz.f115) (c:=B9y) (dom:=(Aan [])) (rs:=[.tmp 8,.tmp 9]) mixed htt (Aad (Aai (C38 N))) (Aaf rfl) Tryz.func115 rfl rfl (by kernel_rfl) (Aag (l:=[]) (by kernel_rfl) trivial) (by decide) (by decide) (by decide) (fun R x C=>C3o @Anq @Aun N R x C),Tryz.f115,Tryz.func115,rfl,by decide⟩
theorem C39(N:Nat):Aa8 Tryz.prog (Ca4 N):=trivial
theorem Cy2(N:Nat):Aaz Tryz.prog 176 (Ca3 N) :=
 ⟨Aat (fn:=Tryz.f176) (c:=Ca2) (dom:=(Aan [])) (rs:=[.tmp 2]) mixed htt (Aad (Aai (C39 N))) (Aaf rfl) Tryz.func176 rfl rfl (by kernel_rfl) (Aag (l:=[]) (by kernel_rfl) trivial) (by decide) (by decide) (by decide) (fun R x C=>C3y N R x C),Tryz.f176,Tryz.func176,rfl,by decide⟩
theorem Bxi(N:Nat):Aa8 Tryz.prog (C22 N):=⟨Cy1 N,Cco N,Cy2 N,Bsm N,Bky N,Bkz N,Bk0 N,Bk1 N,Bk2 N,Bk3 N,Bk4 N,Bk5 N,Bk6 N,Bjn N,Bjo N,Bjp N,Bjq N,Bjr N,Bjs N,Bjt N,Bju N,Bjv N,Bjw N,trivial⟩
theorem Clc(N:Nat):Aba Tryz.prog 99 [] (sub Atz [1,1,1,1,1,0,1,0,1]) (Aaa Aqg (Byx N)) :=
 Aei (dom:=(Aan [20,30])) mixed htt (Aad (Aai (Bxi N))) (Aaf rfl) (by kernel_rfl) (Aag (l:=[]) (by kernel_rfl) trivial) Byw (fun R x K=>Cpf @Agv @Abw @Aga @Acb @Abj @Abk @Abl @Abm @Abn @Abo @Abp @Abq @Abr @Abb @Abc @Abd @Abe @Abf @Abg @Abh @Abi @Aa5 @Aa6 @Aej @Afs N R x K)
theorem Cld(N:Nat):Aba Tryz.prog 99 [] (sub Atz [1,1,1,1,1,1]) (Aaa Aqh (By0 N)) :=
 Aei (dom:=(Aan [20,30])) mixed htt (Aad (Aai (Bxi N))) (Aaf rfl) (by kernel_rfl) (Aag (l:=[]) (by kernel_rfl) trivial) Byy (fun R x K=>Cpn @Agv @Abw @Aga @Acb @Abj @Abk @Abl @Abm @Abn @Abo @Abp @Abq @Abr @Abb @Abc @Abd @Abe @Abf @Abg @Abh @Abi @Aa5 @Aa6 @Aej @Afs N R x K)
theorem Cy3(N:Nat):Aaz Tryz.prog 124 (Ca6 N) :=
 ⟨Aat (fn:=Tryz.f124) (c:=Atz) (dom:=(Aan [20,30])) (rs:=[.tmp 8,.tmp 9]) mixed htt (Aad (Aai (Bxi N))) (Aaf rfl) Tryz.func124 rfl rfl (by kernel_rfl) (Aag (l:=[(20,sub Atz [1,1,1,1,1,0,1,0,1]),(30,sub Atz [1,1,1,1,1,1])]) (by kernel_rfl) ⟨⟨_,rfl,Clc N⟩,⟨_,rfl,Cld N⟩,trivial⟩) (by decide) (by decide) (by decide) (fun R x C=>C3u @Agv @Abw @Aga @Acb @Abj @Abk @Abl @Abm @Abn @Abo @Abp @Abq @Abr @Abb @Abc @Abd @Abe @Abf @Abg @Abh @Abi @Aa5 @Aa6 @Aej @Afs N R x C),Tryz.f124,Tryz.func124,rfl,by decide⟩
theorem C4a(N:Nat):Aa8 Tryz.prog (C24 N):=⟨B56 N,Cy3 N,trivial⟩
theorem Cy4(N:Nat):Aaz Tryz.prog 91 (Ca8 N) :=
 ⟨Aat (fn:=Tryz.f91) (c:=B9v) (dom:=(Aan [])) (rs:=[.tmp 6]) mixed htt (Aad (Aai (C4a N))) (Aaf rfl) Tryz.func91 rfl rfl (by kernel_rfl) (Aag (l:=[]) (by kernel_rfl) trivial) (by decide) (by decide) (by decide) (fun R x C=>C30 @Ah3 @Ajp N R x C),Tryz.f91,Tryz.func91,rfl,by decide⟩
theorem Bmr(N:Nat):Aa8 Tryz.prog (Csu N):=trivial
theorem Ccz(N:Nat):Aba Tryz.prog 24 [] (sub Ara [1,0,1,0,1,1,1]) (Aaa Am4 (Brw N)) :=
 Aei (dom:=(Aan [22,16])) mixed htt (Aad (Aai (Bmr N))) (Aaf rfl) (by kernel_rfl) (Aag (l:=[]) (by kernel_rfl) trivial) Brv (fun R x K=>Cfk @Ae3 @Ad6 N R x K)
theorem Cc0(N:Nat):Aba Tryz.prog 24 [] (sub Ara [1,0,1,0,1]) (Aaa Am5 (Bry N)) :=
 Aei (dom:=(Aan [22,16])) mixed htt (Aad (Aai (Bmr N))) (Aaf rfl) (by kernel_rfl) (Aag (l:=[(22,sub Ara [1,0,1,0,1,1,1])]) (by kernel_rfl) ⟨⟨_,rfl,Ccz N⟩,trivial⟩) Brx (fun R x K=>Cfb @Ae3 @Ad6 N R x K)
theorem Cqk(N:Nat):Aaz Tryz.prog 92 (B13 N) :=
 ⟨Aat (fn:=Tryz.f92) (c:=Ara) (dom:=(Aan [22,16])) (rs:=[.tmp 4]) mixed htt (Aad (Aai (Bmr N))) (Aaf rfl) Tryz.func92 rfl rfl (by kernel_rfl) (Aag (l:=[(16,sub Ara [1,0,1,0,1])]) (by kernel_rfl) ⟨⟨_,rfl,Cc0 N⟩,trivial⟩) (by decide) (by decide) (by decide) (fun R x C=>Ctk @Ae3 @Ad6 N R x C),Tryz.f92,Tryz.func92,rfl,by decide⟩
theorem Cf2(N:Nat):Aa8 Tryz.prog (Cev N):=⟨Aqj N,Cy4 N,Cqk N,trivial⟩
theorem Cc1(N:Nat):Aaz Tryz.prog 47 (Br0 N) :=
 ⟨Aat (fn:=Tryz.f47) (c:=Bru) (dom:=(Aan [])) (rs:=[.tmp 4]) mixed htt (Aad (Aai (Cf2 N))) (Aaf rfl) Tryz.func47 rfl rfl (by kernel_rfl) (Aag (l:=[]) (by kernel_rfl) trivial) (by decide) (by decide) (by decide) (fun R x C=>Cfj @Aap @Anr @Alw N R x C),Tryz.f47,Tryz.func47,rfl,by decide⟩
theorem Cy5(N:Nat):Aa8 Tryz.prog (Cwv N):=⟨Cc1 N,trivial⟩
theorem Cty(N:Nat):Aaz Tryz.prog 19 (B5b N) :=
 ⟨Aat (fn:=Tryz.f19) (c:=Ahx) (dom:=(Aan [])) (rs:=[.tmp 4]) mixed htt (Aad (Aai (Cy5 N))) (Aaf rfl) Tryz.func19 rfl rfl (by kernel_rfl) (Aag (l:=[]) (by kernel_rfl) trivial) (by decide) (by decide) (by decide) (fun R x C=>Cyq @Aht N R x C),Tryz.f19,Tryz.func19,rfl,by decide⟩
theorem Bsn(N:Nat):Aa8 Tryz.prog (Cex N):=⟨Aqj N,trivial⟩
theorem B4k(N:Nat):Aet Tryz.prog 35 (List.replicate 32 true) (sub Ap4 [1,1,0,1,0,0]) (Aaa Akl (A53 N N)) :=
 Adq (c:=sub Ap4 [1,1,0,1,0,0]) (dom:=(Aan [9])) mixed htt (Aad (Aai (Bsn N))) (Aaf rfl) (by kernel_rfl) (Aag (l:=[]) (by kernel_rfl) trivial) Bkt (B:=(fun _ _ _=>none)) (Aet.none _ _ _ _) (fun _ _ _=>rfl) (fun R k x K=>B7d @Aap @Aek N R (fun a0 a1 a2 a3 a4 a5=>Aek N k a0 a1 a2 a3 a4 a5 (fun a b d e f=>K .ret (Aab Auo ((a,()),((b,(),(),d,()),e,f,())))) (fun a b d e=>K (.exit 0) (Aab Aup ((()),((a,(),(),b,()),d,e,()))))) x K) N
theorem B4l(N:Nat):Aba Tryz.prog 35 (List.replicate 32 true) (sub Ap4 [1,1,0,1,0]) (Aaa Akl (A53 N N)):=(B4k N).frag
theorem Cc2(N:Nat):Aaz Tryz.prog 48 (Br2 N) :=
 ⟨Aat (fn:=Tryz.f48) (c:=Ap4) (dom:=(Aan [9])) (rs:=[.tmp 4]) mixed htt (Aad (Aai (Bsn N))) (Aaf rfl) Tryz.func48 rfl rfl (by kernel_rfl) (Aag (l:=[(9,sub Ap4 [1,1,0,1,0])]) (by kernel_rfl) ⟨⟨_,rfl,B4l N⟩,trivial⟩) (by decide) (by decide) (by decide) (fun R x C=>Cfh @Aap @Aek N R x C),Tryz.f48,Tryz.func48,rfl,by decide⟩
theorem Cle(N:Nat):Aa8 Tryz.prog (Ciq N):=⟨Cc2 N,trivial⟩
theorem Cf3(N:Nat):Aaz Tryz.prog 19 (Bvk N) :=
 ⟨Aat (fn:=Tryz.f19) (c:=Ahx) (dom:=(Aan [])) (rs:=[.tmp 4]) mixed htt (Aad (Aai (Cle N))) (Aaf rfl) Tryz.func19 rfl rfl (by kernel_rfl) (Aag (l:=[]) (by kernel_rfl) trivial) (by decide) (by decide) (by decide) (fun R x C=>Cka @Ahu N R x C),Tryz.f19,Tryz.func19,rfl,by decide⟩
theorem Bxj(N:Nat):Aa8 Tryz.prog (Cis N):=⟨Aqj N,trivial⟩
theorem B7x(N:Nat):Aet Tryz.prog 38 (List.replicate 32 true) (sub Aqx [1,1,0,0,0]) (Aaa Ak9 (A88 N N)) :=
 Adq (c:=sub Aqx [1,1,0,0,0]) (dom:=(Aan [5])) mixed htt (Aad (Aai (Bxj N))) (Aaf rfl) (by kernel_rfl) (Aag (l:=[]) (by kernel_rfl) trivial) Bn9 (B:=(fun _ _ _=>none)) (Aet.none _ _ _ _) (fun _ _ _=>rfl) (fun R k x K=>Cbw @Aap @Aez N R (fun a0 a1 a2 a3 a4=>Aez N k a0 a1 a2 a3 a4 (fun a b d e f=>K (.exit 0) (Aab Av2 (((),a,()),((b,(),(),d,()),e,f,()))))) x K) N
theorem B7y(N:Nat):Aba Tryz.prog 38 (List.replicate 32 true) (sub Aqx [1,1,0,0]) (Aaa Ak9 (A88 N N)):=(B7x N).frag
theorem Bso(N:Nat):Aaz Tryz.prog 93 (Beu N) :=
 ⟨Aat (fn:=Tryz.f93) (c:=Aqx) (dom:=(Aan [5])) (rs:=[.tmp 4]) mixed htt (Aad (Aai (Bxj N))) (Aaf rfl) Tryz.func93 rfl rfl (by kernel_rfl) (Aag (l:=[(5,sub Aqx [1,1,0,0])]) (by kernel_rfl) ⟨⟨_,rfl,B7y N⟩,trivial⟩) (by decide) (by decide) (by decide) (fun R x C=>Cju @Aap @Aez N R x C),Tryz.f93,Tryz.func93,rfl,by decide⟩
theorem Boz(N:Nat):Aa8 Tryz.prog (Cba N):=⟨Bso N,trivial⟩
theorem B2t(N:Nat):Aet Tryz.prog 27 (List.replicate 32 true) (sub Aot [1,1,0,1,0,0]) (Aaa Ajq (A3b N N)) :=
 Adq (c:=sub Aot [1,1,0,1,0,0]) (dom:=(Aan [7])) mixed htt (Aad (Aai (Boz N))) (Aaf rfl) (by kernel_rfl) (Aag (l:=[]) (by kernel_rfl) trivial) Bh8 (B:=(fun _ _ _=>none)) (Aet.none _ _ _ _) (fun _ _ _=>rfl) (fun R k x K=>B4g @Ach @Ac6 N R (fun a0 a1 a2 a3 a4 a5 a6=>Ac6 N k a0 a1 a2 a3 a4 a5 a6 (fun a b d e f=>K .ret (Aab Atn ((a,()),((b,(),(),d,()),e,f,())))) (fun a b d e=>K (.exit 0) (Aab Ato ((()),((a,(),(),b,()),d,e,()))))) x K) N
theorem B2u(N:Nat):Aba Tryz.prog 27 (List.replicate 32 true) (sub Aot [1,1,0,1,0]) (Aaa Ajq (A3b N N)):=(B2t N).frag
theorem B7z(N:Nat):Aaz Tryz.prog 94 (Bob N) :=
 ⟨Aat (fn:=Tryz.f94) (c:=Aot) (dom:=(Aan [7])) (rs:=[.tmp 4]) mixed htt (Aad (Aai (Boz N))) (Aaf rfl) Tryz.func94 rfl rfl (by kernel_rfl) (Aag (l:=[(7,sub Aot [1,1,0,1,0])]) (by kernel_rfl) ⟨⟨_,rfl,B2u N⟩,trivial⟩) (by decide) (by decide) (by decide) (fun R x C=>Cbx @Ach @Ac6 N R x C),Tryz.f94,Tryz.func94,rfl,by decide⟩
theorem Baf(N:Nat):Aa8 Tryz.prog (Cbc N):=⟨Bso N,B7z N,trivial⟩
theorem B00(N:Nat):Aba Tryz.prog 41 (List.replicate 32 true) (sub Al8 [1,1,0,1,1,0,1]) (Aaa Akn (Bgp N)) :=
 Aei (dom:=(Aan [16,22])) mixed htt (Aad (Aai (Baf N))) (Aaf rfl) (by kernel_rfl) (Aag (l:=[]) (by kernel_rfl) trivial) Bgo (fun R x K=>B2q @Ach @Ae0 @Ac1 @Acr N R x K)
theorem B01(N:Nat):Aba Tryz.prog 41 (List.replicate 32 true) (sub Al8 [1,1,1]) (Aaa Ako (Bgr N)) :=
 Aei (dom:=(Aan [16,22])) mixed htt (Aad (Aai (Baf N))) (Aaf rfl) (by kernel_rfl) (Aag (l:=[]) (by kernel_rfl) trivial) Bgq (fun R x K=>B2p @Ach @Ae0 @Ac1 @Acr N R x K)
theorem B70(N:Nat):Aaz Tryz.prog 49 (Bod N) :=
 ⟨Aat (fn:=Tryz.f49) (c:=Al8) (dom:=(Aan [16,22])) (rs:=[.tmp 4]) mixed htt (Aad (Aai (Baf N))) (Aaf rfl) Tryz.func49 rfl rfl (by kernel_rfl) (Aag (l:=[(16,sub Al8 [1,1,0,1,1,0,1]),(22,sub Al8 [1,1,1])]) (by kernel_rfl) ⟨⟨_,rfl,B00 N⟩,⟨_,rfl,B01 N⟩,trivial⟩) (by decide) (by decide) (by decide) (fun R x C=>Ccc @Ach @Ae0 @Ac1 @Acr N R x C),Tryz.f49,Tryz.func49,rfl,by decide⟩
theorem Clf(N:Nat):Aa8 Tryz.prog (Ciu N):=⟨B70 N,trivial⟩
theorem Cf4(N:Nat):Aaz Tryz.prog 19 (Bvl N) :=
 ⟨Aat (fn:=Tryz.f19) (c:=Ahx) (dom:=(Aan [])) (rs:=[.tmp 4]) mixed htt (Aad (Aai (Clf N))) (Aaf rfl) Tryz.func19 rfl rfl (by kernel_rfl) (Aag (l:=[]) (by kernel_rfl) trivial) (by decide) (by decide) (by decide) (fun R x C=>Cjy @Agw N R x C),Tryz.f19,Tryz.func19,rfl,by decide⟩
theorem Clg(N:Nat):Aa8 Tryz.prog (Ciw N):=⟨Aqj N,Bre N,trivial⟩
theorem Cf5(N:Nat):Aaz Tryz.prog 50 (Bvo N) :=
 ⟨Aat (fn:=Tryz.f50) (c:=Bvm) (dom:=(Aan [])) (rs:=[.tmp 4]) mixed htt (Aad (Aai (Clg N))) (Aaf rfl) Tryz.func50 rfl rfl (by kernel_rfl) (Aag (l:=[]) (by kernel_rfl) trivial) (by decide) (by decide) (by decide) (fun R x C=>Cjw @Aap @Acg N R x C),Tryz.f50,Tryz.func50,rfl,by decide⟩
theorem Clh(N:Nat):Aa8 Tryz.prog (Ciy N):=⟨Cf5 N,trivial⟩
theorem Cf6(N:Nat):Aaz Tryz.prog 19 (Bvp N) :=
 ⟨Aat (fn:=Tryz.f19) (c:=Ahx) (dom:=(Aan [])) (rs:=[.tmp 4]) mixed htt (Aad (Aai (Clh N))) (Aaf rfl) Tryz.func19 rfl rfl (by kernel_rfl) (Aag (l:=[]) (by kernel_rfl) trivial) (by decide) (by decide) (by decide) (fun R x C=>Cj0 @Aiu N R x C),Tryz.f19,Tryz.func19,rfl,by decide⟩
theorem Cli(N:Nat):Aa8 Tryz.prog (Ci0 N):=⟨Aqj N,trivial⟩
theorem Cf7(N:Nat):Aaz Tryz.prog 51 (Bvs N) :=
 ⟨Aat (fn:=Tryz.f51) (c:=Bvq) (dom:=(Aan [])) (rs:=[.tmp 4]) mixed htt (Aad (Aai (Cli N))) (Aaf rfl) Tryz.func51 rfl rfl (by kernel_rfl) (Aag (l:=[]) (by kernel_rfl) trivial) (by decide) (by decide) (by decide) (fun R x C=>Ckl @Aap N R x C),Tryz.f51,Tryz.func51,rfl,by decide⟩
theorem Clj(N:Nat):Aa8 Tryz.prog (Ci2 N):=⟨Cf7 N,trivial⟩
theorem Cf8(N:Nat):Aaz Tryz.prog 19 (Bvt N) :=
 ⟨Aat (fn:=Tryz.f19) (c:=Ahx) (dom:=(Aan [])) (rs:=[.tmp 4]) mixed htt (Aad (Aai (Clj N))) (Aaf rfl) Tryz.func19 rfl rfl (by kernel_rfl) (Aag (l:=[]) (by kernel_rfl) trivial) (by decide) (by decide) (by decide) (fun R x C=>Cj1 @Aiv N R x C),Tryz.f19,Tryz.func19,rfl,by decide⟩
theorem Cf9(N:Nat):Aa8 Tryz.prog (Cez N):=⟨Aqj N,trivial⟩
theorem Cc3(N:Nat):Aaz Tryz.prog 52 (Br5 N) :=
 ⟨Aat (fn:=Tryz.f52) (c:=Br3) (dom:=(Aan [])) (rs:=[.tmp 4]) mixed htt (Aad (Aai (Cf9 N))) (Aaf rfl) Tryz.func52 rfl rfl (by kernel_rfl) (Aag (l:=[]) (by kernel_rfl) trivial) (by decide) (by decide) (by decide) (fun R x C=>Cfd @Aap N R x C),Tryz.f52,Tryz.func52,rfl,by decide⟩
theorem Clk(N:Nat):Aa8 Tryz.prog (Ci4 N):=⟨Cc3 N,trivial⟩
theorem Cga(N:Nat):Aaz Tryz.prog 19 (Bvu N) :=
 ⟨Aat (fn:=Tryz.f19) (c:=Ahx) (dom:=(Aan [])) (rs:=[.tmp 4]) mixed htt (Aad (Aai (Clk N))) (Aaf rfl) Tryz.func19 rfl rfl (by kernel_rfl) (Aag (l:=[]) (by kernel_rfl) trivial) (by decide) (by decide) (by decide) (fun R x C=>Ckv @Ahv N R x C),Tryz.f19,Tryz.func19,rfl,by decide⟩
theorem B71(N:Nat):Aa8 Tryz.prog (B66 N):=⟨Aqj N,B56 N,trivial⟩
theorem B4m(N:Nat):Aaz Tryz.prog 53 (Bkx N) :=
 ⟨Aat (fn:=Tryz.f53) (c:=Bkv) (dom:=(Aan [])) (rs:=[.tmp 4]) mixed htt (Aad (Aai (B71 N))) (Aaf rfl) Tryz.func53 rfl rfl (by kernel_rfl) (Aag (l:=[]) (by kernel_rfl) trivial) (by decide) (by decide) (by decide) (fun R x C=>B69 @Aap @Ah3 N R x C),Tryz.f53,Tryz.func53,rfl,by decide⟩
theorem Cll(N:Nat):Aa8 Tryz.prog (Ci6 N):=⟨B4m N,trivial⟩
theorem Cgb(N:Nat):Aaz Tryz.prog 19 (Bvv N) :=
 ⟨Aat (fn:=Tryz.f19) (c:=Ahx) (dom:=(Aan [])) (rs:=[.tmp 4]) mixed htt (Aad (Aai (Cll N))) (Aaf rfl) Tryz.func19 rfl rfl (by kernel_rfl) (Aag (l:=[]) (by kernel_rfl) trivial) (by decide) (by decide) (by decide) (fun R x C=>Cjx @Agd N R x C),Tryz.f19,Tryz.func19,rfl,by decide⟩
theorem Clm(N:Nat):Aa8 Tryz.prog (Ci8 N):=⟨Aqj N,trivial⟩
theorem Cgc(N:Nat):Aaz Tryz.prog 54 (Bvy N) :=
 ⟨Aat (fn:=Tryz.f54) (c:=Bvw) (dom:=(Aan [])) (rs:=[.tmp 4]) mixed htt (Aad (Aai (Clm N))) (Aaf rfl) Tryz.func54 rfl rfl (by kernel_rfl) (Aag (l:=[]) (by kernel_rfl) trivial) (by decide) (by decide) (by decide) (fun R x C=>Ckw @Aap N R x C),Tryz.f54,Tryz.func54,rfl,by decide⟩
theorem Cln(N:Nat):Aa8 Tryz.prog (Cja N):=⟨Cgc N,trivial⟩
theorem Cgd(N:Nat):Aaz Tryz.prog 19 (Bvz N) :=
 ⟨Aat (fn:=Tryz.f19) (c:=Ahx) (dom:=(Aan [])) (rs:=[.tmp 4]) mixed htt (Aad (Aai (Cln N))) (Aaf rfl) Tryz.func19 rfl rfl (by kernel_rfl) (Aag (l:=[]) (by kernel_rfl) trivial) (by decide) (by decide) (by decide) (fun R x C=>Ckk @Aiw N R x C),Tryz.f19,Tryz.func19,rfl,by decide⟩
theorem Aj2(N:Nat):Aa8 Tryz.prog (Aqp N):=⟨Ayc rfl (Cty N) (Ayc rfl (Cf3 N) (Ayc rfl (Cf4 N) (Ayc rfl (Cf6 N) (Ayc rfl (Cf8 N) (Ayc rfl (Cga N) (Ayc rfl (Cgb N) (Cgd N))))))),trivial⟩
theorem Apy(N:Nat):Aet Tryz.prog 19 [] (sub Abz [1,0,1,0,0]) (Aaa Aa2 (Afw N N)) :=
 Adq (c:=sub Abz [1,0,1,0,0]) (dom:=(Aan [5])) mixed htt (Aad (Aai (Aj2 N))) (Aaf rfl) (by kernel_rfl) (Aag (l:=[]) (by kernel_rfl) trivial) Aji (B:=(fun _ _ _=>none)) (Aet.none _ _ _ _) (fun _ _ _=>rfl) (fun R k x K=>Ap8 @Akr @Ag0 @Ag1 @Ag2 @Ag3 @Ag4 @Ag5 @Ag6 @Aam N R (fun a0 a1 a2 a3 a4 a5 a6=>Aam N k a0 a1 a2 a3 a4 a5 a6 (fun a b d e f g=>K .ret (Aab Ad2 ((a,()),(((),(),(),(),(),(),(),(),()),((),()),(b,(),(),d,()),e,f,(g,()),())))) (fun a b d e f=>K (.exit 0) (Aab Ad3 ((()),(((),(),(),(),(),(),(),(),()),((),()),(a,(),(),b,()),d,e,(f,()),()))))) x K) N
theorem Apz(N:Nat):Aba Tryz.prog 19 [] (sub Abz [1,0,1,0]) (Aaa Aa2 (Afw N N)):=(Apy N).frag
theorem Aqk(N:Nat):Aaz Tryz.prog 55 (Aju N) :=
 ⟨Aat (fn:=Tryz.f55) (c:=Abz) (dom:=(Aan [5])) (rs:=[.tmp 4]) mixed htt (Aad (Aai (Aj2 N))) (Aaf rfl) Tryz.func55 rfl rfl (by kernel_rfl) (Aag (l:=[(5,sub Abz [1,0,1,0])]) (by kernel_rfl) ⟨⟨_,rfl,Apz N⟩,trivial⟩) (by decide) (by decide) (by decide) (fun R x C=>Aqq @Akr @Ag0 @Ag1 @Ag2 @Ag3 @Ag4 @Ag5 @Ag6 @Aam N R x C),Tryz.f55,Tryz.func55,rfl,by decide⟩
theorem Ap0(N:Nat):Aa8 Tryz.prog (Apw N):=⟨Aqk N,trivial⟩
theorem Aps(N:Nat):Aaz Tryz.prog 18 (Ajg N) :=
 ⟨Aat (fn:=Tryz.f18) (c:=Ajf) (dom:=(Aan [])) (rs:=[.tmp 4]) mixed htt (Aad (Aai (Ap0 N))) (Aaf rfl) Tryz.func18 rfl rfl (by kernel_rfl) (Aag (l:=[]) (by kernel_rfl) trivial) (by decide) (by decide) (by decide) (fun R x C=>Apx @Aau N R x C),Tryz.f18,Tryz.func18,rfl,by decide⟩
theorem Cho(N:Nat):Aa8 Tryz.prog (C5d N):=⟨Cqf N,Cyx N,Ck9 N,Aps N,trivial⟩
theorem Cql(N:Nat):Aet Tryz.prog 38 [] (sub A0d [1,1,1,1,1,1,0,1,0,0]) (Aaa Apm (Bl0 N N)) :=
 Adq (c:=sub A0d [1,1,1,1,1,1,0,1,0,0]) (dom:=(Aan [17])) mixed htt (Aad (Aai (Cho N))) (Aaf rfl) (by kernel_rfl) (Aag (l:=[]) (by kernel_rfl) trivial) B16 (B:=(fun _ _ _=>none)) (Aet.none _ _ _ _) (fun _ _ _=>rfl) (fun R k x K=>Cs9 @Ajh @Ak8 @Ai8 @Aah @Agx N R (fun a0 a1 a2 a3 a4 a5 a6=>Agx N k a0 a1 a2 a3 a4 a5 a6 (fun a=>K (.exit 0) (Aab A3c (((),()),(a,()))))) x K) N
theorem Cqm(N:Nat):Aba Tryz.prog 38 [] (sub A0d [1,1,1,1,1,1,0,1,0]) (Aaa Apm (Bl0 N N)):=(Cql N).frag
theorem C4b(N:Nat):Aaz Tryz.prog 6 (Chm N) :=
 ⟨Aat (fn:=Tryz.f6) (c:=A0d) (dom:=(Aan [17])) (rs:=[.tmp 2,.tmp 3]) mixed htt (Aad (Aai (Cho N))) (Aaf rfl) Tryz.func6 rfl rfl (by kernel_rfl) (Aag (l:=[(17,sub A0d [1,1,1,1,1,1,0,1,0])]) (by kernel_rfl) ⟨⟨_,rfl,Cqm N⟩,trivial⟩) (by decide) (by decide) (by decide) (fun R x C=>C5e @Ajh @Ak8 @Ai8 @Aah @Agx N R x C),Tryz.f6,Tryz.func6,rfl,by decide⟩
theorem Bz6(N:Nat):Aa8 Tryz.prog (Cos N):=trivial
theorem B72(N:Nat):Aet Tryz.prog 60 [] (sub Arr [1,1,1,0,1,0,0]) (Aaa Ala (A9f N N)) :=
 Adq (c:=sub Arr [1,1,1,0,1,0,0]) (dom:=(Aan [11])) mixed htt (Aad (Aai (Bz6 N))) (Aaf rfl) (by kernel_rfl) (Aag (l:=[]) (by kernel_rfl) trivial) Boe (B:=(fun _ _ _=>none)) (Aet.none _ _ _ _) (fun _ _ _=>rfl) (fun R k x K=>Cce @Ae1 N R (fun a0 a1 a2 a3 a4 a5 a6 a7=>Ae1 N k a0 a1 a2 a3 a4 a5 a6 a7 (fun a=>K (.exit 0) (Aab Av6 ((a,()),(()))))) x K) N
theorem B73(N:Nat):Aba Tryz.prog 60 [] (sub Arr [1,1,1,0,1,0]) (Aaa Ala (A9f N N)):=(B72 N).frag
theorem Clo(N:Nat):Aaz Tryz.prog 30 (By1 N) :=
 ⟨Aat (fn:=Tryz.f30) (c:=Arr) (dom:=(Aan [11])) (rs:=[.tmp 2]) mixed htt (Aad (Aai (Bz6 N))) (Aaf rfl) Tryz.func30 rfl rfl (by kernel_rfl) (Aag (l:=[(11,sub Arr [1,1,1,0,1,0])]) (by kernel_rfl) ⟨⟨_,rfl,B73 N⟩,trivial⟩) (by decide) (by decide) (by decide) (fun R x C=>Cqb @Ae1 N R x C),Tryz.f30,Tryz.func30,rfl,by decide⟩
theorem B57(N:Nat):Aa8 Tryz.prog (Cwx N):=trivial
theorem Clp(N:Nat):Aet Tryz.prog 60 [] (sub Au8 [1,1,0,1,0,0]) (Aaa Ans (Bif N N)) :=
 Adq (c:=sub Au8 [1,1,0,1,0,0]) (dom:=(Aan [7])) mixed htt (Aad (Aai (B57 N))) (Aaf rfl) (by kernel_rfl) (Aag (l:=[]) (by kernel_rfl) trivial) By2 (B:=(fun _ _ _=>none)) (Aet.none _ _ _ _) (fun _ _ _=>rfl) (fun R k x K=>Cpr @Agb N R (fun a0 a1 a2=>Agb N k a0 a1 a2 (fun a b=>K .ret (Aab A03 ((a,b,()),(())))) (fun a b=>K (.exit 0) (Aab A04 ((a,b,()),(()))))) x K) N
theorem Clq(N:Nat):Aba Tryz.prog 60 [] (sub Au8 [1,1,0,1,0]) (Aaa Ans (Bif N N)):=(Clp N).frag
theorem Ctz(N:Nat):Aaz Tryz.prog 67 (B5c N) :=
 ⟨Aat (fn:=Tryz.f67) (c:=Au8) (dom:=(Aan [7])) (rs:=[.tmp 2,.tmp 3]) mixed htt (Aad (Aai (B57 N))) (Aaf rfl) Tryz.func67 rfl rfl (by kernel_rfl) (Aag (l:=[(7,sub Au8 [1,1,0,1,0])]) (by kernel_rfl) ⟨⟨_,rfl,Clq N⟩,trivial⟩) (by decide) (by decide) (by decide) (fun R x C=>Cyc @Agb N R x C),Tryz.f67,Tryz.func67,rfl,by decide⟩
theorem C9a(N:Nat):Aa8 Tryz.prog (Cou N):=trivial
theorem Bnb(N:Nat):Aaz Tryz.prog 68 (Bih N) :=
 ⟨Aat (fn:=Tryz.f68) (c:=Cot) (dom:=(Aan [])) (rs:=[.tmp 6]) mixed htt (Aad (Aai (C9a N))) (Aaf rfl) Tryz.func68 rfl rfl (by kernel_rfl) (Aag (l:=[]) (by kernel_rfl) trivial) (by decide) (by decide) (by decide) (fun R x C=>C87 N R x C),Tryz.f68,Tryz.func68,rfl,by decide⟩
theorem A4w(N:Nat):Aa8 Tryz.prog (Cwz N):=⟨Ctz N,Bnb N,trivial⟩
theorem Cge(N:Nat):Aet Tryz.prog 110 [] (sub Ae5 [1,1,0,1,0,0,1,0,0,1,1,1,0,0]) (Aaa Aja (Bfh N N)) :=
 Adq (c:=sub Ae5 [1,1,0,1,0,0,1,0,0,1,1,1,0,0]) (dom:=(Aan [25,5,47,35])) mixed htt (Aad (Aai (A4w N))) (Aaf rfl) (by kernel_rfl) (Aag (l:=[]) (by kernel_rfl) trivial) Bv2 (B:=(fun _ _ _=>none)) (Aet.none _ _ _ _) (fun _ _ _=>rfl) (fun R k x K=>Cj2 @Adx @Aav @Ada @Adh @Adb @Acx N R (fun a0 a1 a2 a3 a4 a5 a6 a7 a8 a9=>Adb N k a0 a1 a2 a3 a4 a5 a6 a7 a8 a9 (fun a=>K .ret (Aab Azi ((a,()),(())))) (fun a b d e f g h=>K (.exit 6) (Aab Azj (((),a,()),((b,d,e,f,g,h,()),()))))) x K) N
theorem Cgf(N:Nat):Aba Tryz.prog 110 [] (sub Ae5 [1,1,0,1,0,0,1,0,0,1,1,1,0]) (Aaa Aja (Bfh N N)):=(Cge N).frag
theorem Cgg(N:Nat):Aet Tryz.prog 110 [] (sub Ae5 [1,0,1,0,0,1,0,0,1,1,1,1,0,0]) (Aaa Ai9 (Bff N N)) :=
 Adq (c:=sub Ae5 [1,0,1,0,0,1,0,0,1,1,1,1,0,0]) (dom:=(Aan [25,5,47,35])) mixed htt (Aad (Aai (A4w N))) (Aaf rfl) (by kernel_rfl) (Aag (l:=[]) (by kernel_rfl) trivial) Bv0 (B:=(fun _ _ _=>none)) (Aet.none _ _ _ _) (fun _ _ _=>rfl) (fun R k x K=>Cjr @Adx @Aav @Ada @Adh @Adb @Acx N R (fun a0 a1 a2 a3 a4 a5 a6 a7 a8 a9 a10=>Ada N k a0 a1 a2 a3 a4 a5 a6 a7 a8 a9 a10 (fun a=>K .ret (Aab Azg ((a,()),(())))) (fun a b d e f g h=>K (.exit 2) (Aab Azh (((),a,()),((b,d,e,f,g,h,()),()))))) x K) N
theorem Cgh(N:Nat):Aba Tryz.prog 110 [] (sub Ae5 [1,0,1,0,0,1,0,0,1,1,1,1,0]) (Aaa Ai9 (Bff N N)):=(Cgg N).frag
theorem Cgi(N:Nat):Aet Tryz.prog 110 [] (sub Ae5 [1,1,0,1,0,0]) (Aaa Ajb (Bfj N N)) :=
 Adq (c:=sub Ae5 [1,1,0,1,0,0]) (dom:=(Aan [25,5,47,35])) mixed htt (Aad (Aai (A4w N))) (Aaf rfl) (by kernel_rfl) (Aag (l:=[(47,sub Ae5 [1,1,0,1,0,0,1,0,0,1,1,1,0])]) (by kernel_rfl) ⟨⟨_,rfl,Cgf N⟩,trivial⟩) Bv4 (B:=(fun _ _ _=>none)) (Aet.none _ _ _ _) (fun _ _ _=>rfl) (fun R k x K=>Cke @Adx @Aav @Ada @Adh @Adb @Acx N R (fun a0 a1 a2 a3 a4 a5 a6=>Acx N k a0 a1 a2 a3 a4 a5 a6 (fun a=>K .ret (Aab Azk ((a,()),(())))) (fun a b d e f g=>K (.exit 4) (Aab Azl (((),()),((a,b,d,e,f,g,()),()))))) x K) N
theorem Cgj(N:Nat):Aba Tryz.prog 110 [] (sub Ae5 [1,1,0,1,0]) (Aaa Ajb (Bfj N N)):=(Cgi N).frag
theorem Clr(N:Nat):Aet Tryz.prog 110 [] (sub Ae5 [1,0,1,0,0]) (Aaa Aj5 (Bij N N)) :=
 Adq (c:=sub Ae5 [1,0,1,0,0]) (dom:=(Aan [25,5,47,35])) mixed htt (Aad (Aai (A4w N))) (Aaf rfl) (by kernel_rfl) (Aag (l:=[(25,sub Ae5 [1,0,1,0,0,1,0,0,1,1,1,1,0])]) (by kernel_rfl) ⟨⟨_,rfl,Cgh N⟩,trivial⟩) By4 (B:=(fun _ _ _=>none)) (Aet.none _ _ _ _) (fun _ _ _=>rfl) (fun R k x K=>Cpw @Adx @Aav @Ada @Adh @Adb @Acx N R (fun a0 a1 a2 a3 a4 a5 a6=>Adh N k a0 a1 a2 a3 a4 a5 a6 (fun a=>K .ret (Aab A05 ((a,()),(())))) (fun a b d e f g=>K (.exit 0) (Aab A06 (((),()),((a,b,d,e,f,g,()),()))))) x K) N
theorem Cls(N:Nat):Aba Tryz.prog 110 [] (sub Ae5 [1,0,1,0]) (Aaa Aj5 (Bij N N)):=(Clr N).frag
theorem Ct0(N:Nat):Aaz Tryz.prog 31 (B5d N) :=
 ⟨Aat (fn:=Tryz.f31) (c:=Ae5) (dom:=(Aan [25,5,47,35])) (rs:=[.tmp 2]) mixed htt (Aad (Aai (A4w N))) (Aaf rfl) Tryz.func31 rfl rfl (by kernel_rfl) (Aag (l:=[(5,sub Ae5 [1,0,1,0]),(35,sub Ae5 [1,1,0,1,0])]) (by kernel_rfl) ⟨⟨_,rfl,Cls N⟩,⟨_,rfl,Cgj N⟩,trivial⟩) (by decide) (by decide) (by decide) (fun R x C=>Cym @Adx @Aav @Ada @Adh @Adb @Acx N R x C),Tryz.f31,Tryz.func31,rfl,by decide⟩
theorem Au1(N:Nat):Aa8 Tryz.prog (Cow N):=⟨Bnb N,trivial⟩
theorem B74(N:Nat):Aba Tryz.prog 138 [] (sub Afy [1,1,1,0,1,0,1,1,1,1,1,1,1,1,1,1,1,1,1,1,1]) (Aaa Aig (Boh N)) :=
 Aei (dom:=(Aan [68,44,36,28,82])) mixed htt (Aad (Aai (Au1 N))) (Aaf rfl) (by kernel_rfl) (Aag (l:=[]) (by kernel_rfl) trivial) Bog (fun R x K=>Cbv @Aav @Ab7 @Acm @Acn @Aay @Aaw N R x K)
theorem B75(N:Nat):Aba Tryz.prog 138 [] (sub Afy [1,1,1,0,1,0,1,1,1,1,1,1,1]) (Aaa Aih (Boj N)) :=
 Aei (dom:=(Aan [68,44,36,28,82])) mixed htt (Aad (Aai (Au1 N))) (Aaf rfl) (by kernel_rfl) (Aag (l:=[(68,sub Afy [1,1,1,0,1,0,1,1,1,1,1,1,1,1,1,1,1,1,1,1,1])]) (by kernel_rfl) ⟨⟨_,rfl,B74 N⟩,trivial⟩) Boi (fun R x K=>Cca @Aav @Ab7 @Acm @Acn @Aay @Aaw N R x K)
theorem B76(N:Nat):Aba Tryz.prog 138 [] (sub Afy [1,1,1,0,1,0,1,1,1,1,1]) (Aaa Aii (Bol N)) :=
 Aei (dom:=(Aan [68,44,36,28,82])) mixed htt (Aad (Aai (Au1 N))) (Aaf rfl) (by kernel_rfl) (Aag (l:=[(44,sub Afy [1,1,1,0,1,0,1,1,1,1,1,1,1])]) (by kernel_rfl) ⟨⟨_,rfl,B75 N⟩,trivial⟩) Bok (fun R x K=>Cb6 @Aav @Ab7 @Acm @Acn @Aay @Aaw N R x K)
theorem B77(N:Nat):Aba Tryz.prog 138 [] (sub Afy [1,1,1,0,1,0,1,1,1]) (Aaa Aij (Bon N)) :=
 Aei (dom:=(Aan [68,44,36,28,82])) mixed htt (Aad (Aai (Au1 N))) (Aaf rfl) (by kernel_rfl) (Aag (l:=[(36,sub Afy [1,1,1,0,1,0,1,1,1,1,1])]) (by kernel_rfl) ⟨⟨_,rfl,B76 N⟩,trivial⟩) Bom (fun R x K=>Ccb @Aav @Ab7 @Acm @Acn @Aay @Aaw N R x K)
theorem B78(N:Nat):Aba Tryz.prog 138 [] (sub Afy [1,1,1,1]) (Aaa Aik (Bop N)) :=
 Aei (dom:=(Aan [68,44,36,28,82])) mixed htt (Aad (Aai (Au1 N))) (Aaf rfl) (by kernel_rfl) (Aag (l:=[]) (by kernel_rfl) trivial) Boo (fun R x K=>Cb2 @Aav @Ab7 @Acm @Acn @Aay @Aaw N R x K)
theorem Clt(N:Nat):Aaz Tryz.prog 32 (By6 N) :=
 ⟨Aat (fn:=Tryz.f32) (c:=Afy) (dom:=(Aan [68,44,36,28,82])) (rs:=[.tmp 4]) mixed htt (Aad (Aai (Au1 N))) (Aaf rfl) Tryz.func32 rfl rfl (by kernel_rfl) (Aag (l:=[(28,sub Afy [1,1,1,0,1,0,1,1,1]),(82,sub Afy [1,1,1,1])]) (by kernel_rfl) ⟨⟨_,rfl,B77 N⟩,⟨_,rfl,B78 N⟩,trivial⟩) (by decide) (by decide) (by decide) (fun R x C=>Cpi @Aav @Ab7 @Acm @Acn @Aay @Aaw N R x C),Tryz.f32,Tryz.func32,rfl,by decide⟩
theorem Ct1(N:Nat):Aa8 Tryz.prog (B19 N):=trivial
theorem Bz7(N:Nat):Aaz Tryz.prog 69 (Bl2 N) :=
 ⟨Aat (fn:=Tryz.f69) (c:=B18) (dom:=(Aan [])) (rs:=[.tmp 2]) mixed htt (Aad (Aai (Ct1 N))) (Aaf rfl) Tryz.func69 rfl rfl (by kernel_rfl) (Aag (l:=[]) (by kernel_rfl) trivial) (by decide) (by decide) (by decide) (fun R x C=>Ctc N R x C),Tryz.f69,Tryz.func69,rfl,by decide⟩
theorem Bdv(N:Nat):Aa8 Tryz.prog (Cw1 N):=⟨Bz7 N,trivial⟩
theorem Cgk(N:Nat):Aba Tryz.prog 126 [] (sub Akz [1,1,0,1,0,0,1,0,0,1,1,1,1,1]) (Aaa Amh (Bv9 N)) :=
 Aei (dom:=(Aan [44,20,7])) mixed htt (Aad (Aai (Bdv N))) (Aaf rfl) (by kernel_rfl) (Aag (l:=[]) (by kernel_rfl) trivial) Bv8 (fun R x K=>Cj4 @Abs @Adc @Aeo @Ad9 N R x K)
theorem Cgl(N:Nat):Aba Tryz.prog 126 [] (sub Akz [1,1,0,1,0,0,1,0,0,1,1,1]) (Aaa Ami (Bwb N)) :=
 Aei (dom:=(Aan [44,20,7])) mixed htt (Aad (Aai (Bdv N))) (Aaf rfl) (by kernel_rfl) (Aag (l:=[(44,sub Akz [1,1,0,1,0,0,1,0,0,1,1,1,1,1])]) (by kernel_rfl) ⟨⟨_,rfl,Cgk N⟩,trivial⟩) Bwa (fun R x K=>Cko @Abs @Adc @Aeo @Ad9 N R x K)
theorem Clu(N:Nat):Aet Tryz.prog 126 [] (sub Akz [1,1,0,1,0,0]) (Aaa Alc (Bio N N)) :=
 Adq (c:=sub Akz [1,1,0,1,0,0]) (dom:=(Aan [44,20,7])) mixed htt (Aad (Aai (Bdv N))) (Aaf rfl) (by kernel_rfl) (Aag (l:=[(20,sub Akz [1,1,0,1,0,0,1,0,0,1,1,1])]) (by kernel_rfl) ⟨⟨_,rfl,Cgl N⟩,trivial⟩) By7 (B:=(fun _ _ _=>none)) (Aet.none _ _ _ _) (fun _ _ _=>rfl) (fun R k x K=>Cp6 @Abs @Adc @Aeo @Ad9 N R (fun a0 a1 a2 a3 a4 a5 a6 a7 a8 a9=>Ad9 N k a0 a1 a2 a3 a4 a5 a6 a7 a8 a9 (fun a=>K .ret (Aab A08 ((a,()),(())))) (fun a b d e f g h i j=>K (.exit 0) (Aab A09 (((),a,b,d,()),((e,f,g,h,i,j,()),()))))) x K) N
theorem Clv(N:Nat):Aba Tryz.prog 126 [] (sub Akz [1,1,0,1,0]) (Aaa Alc (Bio N N)):=(Clu N).frag
theorem Ct2(N:Nat):Aaz Tryz.prog 33 (B5e N) :=
 ⟨Aat (fn:=Tryz.f33) (c:=Akz) (dom:=(Aan [44,20,7])) (rs:=[.tmp 2]) mixed htt (Aad (Aai (Bdv N))) (Aaf rfl) Tryz.func33 rfl rfl (by kernel_rfl) (Aag (l:=[(7,sub Akz [1,1,0,1,0])]) (by kernel_rfl) ⟨⟨_,rfl,Clv N⟩,trivial⟩) (by decide) (by decide) (by decide) (fun R x C=>Cx7 @Abs @Adc @Aeo @Ad9 N R x C),Tryz.f33,Tryz.func33,rfl,by decide⟩
theorem B58(N:Nat):Aa8 Tryz.prog (Cw3 N):=trivial
theorem Cgm(N:Nat):Aba Tryz.prog 17 [] (sub A4l [1,0,1,0,1]) (Aaa Aq2 (Bwf N)) :=
 Aei (dom:=(Aan [14])) mixed htt (Aad (Aai (B58 N))) (Aaf rfl) (by kernel_rfl) (Aag (l:=[]) (by kernel_rfl) trivial) Bwe (fun R x K=>Cku @Afm N R x K)
theorem B2v(N:Nat):Aaz Tryz.prog 70 (Bqe N) :=
 ⟨Aat (fn:=Tryz.f70) (c:=A4l) (dom:=(Aan [14])) (rs:=[.tmp 2]) mixed htt (Aad (Aai (B58 N))) (Aaf rfl) Tryz.func70 rfl rfl (by kernel_rfl) (Aag (l:=[(14,sub A4l [1,0,1,0,1])]) (by kernel_rfl) ⟨⟨_,rfl,Cgm N⟩,trivial⟩) (by decide) (by decide) (by decide) (fun R x C=>Cyj @Afm N R x C),Tryz.f70,Tryz.func70,rfl,by decide⟩
theorem A2f(N:Nat):Aa8 Tryz.prog (Csz N):=⟨B2v N,trivial⟩
theorem Cc4(N:Nat):Aba Tryz.prog 121 [] (sub Ae9 [1,1,1,1,0,1,0,0,1,0,0,1]) (Aaa Akt (Br7 N)) :=
 Aei (dom:=(Aan [7,24,17,37])) mixed htt (Aad (Aai (A2f N))) (Aaf rfl) (by kernel_rfl) (Aag (l:=[]) (by kernel_rfl) trivial) Br6 (fun R x K=>Ce8 @Aci @Ade @Adi @Acy @Acs N R x K)
theorem Cc5(N:Nat):Aet Tryz.prog 121 [] (sub Ae9 [1,1,1,1,1,0,1,0,0]) (Aaa Ah0 (Bcl N N)) :=
 Adq (c:=sub Ae9 [1,1,1,1,1,0,1,0,0]) (dom:=(Aan [7,24,17,37])) mixed htt (Aad (Aai (A2f N))) (Aaf rfl) (by kernel_rfl) (Aag (l:=[]) (by kernel_rfl) trivial) Bsa (B:=(fun _ _ _=>none)) (Aet.none _ _ _ _) (fun _ _ _=>rfl) (fun R k x K=>Cfe @Aci @Ade @Adi @Acy @Acs N R (fun a0 a1 a2 a3 a4 a5 a6 a7 a8 a9 a10=>Acs N k a0 a1 a2 a3 a4 a5 a6 a7 a8 a9 a10 (fun a b d=>K .ret (Aab Axn (((),a,()),(((),(),()),b,d,())))) (fun a b d e=>K (.exit 4) (Aab Axo (((),(),()),(((),(),()),((),(),()),a,b,d,e,()))))) x K) N
theorem Cc6(N:Nat):Aba Tryz.prog 121 [] (sub Ae9 [1,1,1,1,1,0,1,0]) (Aaa Ah0 (Bcl N N)):=(Cc5 N).frag
theorem Cc7(N:Nat):Aet Tryz.prog 121 [] (sub Ae9 [1,1,1,1,0,1,0,0]) (Aaa Ahz (Bci N N)) :=
 Adq (c:=sub Ae9 [1,1,1,1,0,1,0,0]) (dom:=(Aan [7,24,17,37])) mixed htt (Aad (Aai (A2f N))) (Aaf rfl) (by kernel_rfl) (Aag (l:=[(24,sub Ae9 [1,1,1,1,0,1,0,0,1,0,0,1])]) (by kernel_rfl) ⟨⟨_,rfl,Cc4 N⟩,trivial⟩) Br8 (B:=(fun _ _ _=>none)) (Aet.none _ _ _ _) (fun _ _ _=>rfl) (fun R k x K=>Ce7 @Aci @Ade @Adi @Acy @Acs N R (fun a0 a1 a2 a3 a4 a5 a6 a7 a8 a9 a10 a11=>Acy N k a0 a1 a2 a3 a4 a5 a6 a7 a8 a9 a10 a11 (fun a b d=>K .ret (Aab Axl (((),a,()),(((),(),()),b,d,())))) (fun a b d e f g h i j m=>K (.exit 2) (Aab Axm (((),(),(),()),((a,b,d,e,f,g,()),((),(),()),((),(),()),h,i,j,m,()))))) x K) N
theorem Cc8(N:Nat):Aba Tryz.prog 121 [] (sub Ae9 [1,1,1,1,0,1,0]) (Aaa Ahz (Bci N N)):=(Cc7 N).frag
theorem Cgn(N:Nat):Aet Tryz.prog 121 [] (sub Ae9 [1,1,0,1,0,0]) (Aaa Ajc (Bfr N N)) :=
 Adq (c:=sub Ae9 [1,1,0,1,0,0]) (dom:=(Aan [7,24,17,37])) mixed htt (Aad (Aai (A2f N))) (Aaf rfl) (by kernel_rfl) (Aag (l:=[]) (by kernel_rfl) trivial) Bwc (B:=(fun _ _ _=>none)) (Aet.none _ _ _ _) (fun _ _ _=>rfl) (fun R k x K=>Ckn @Aci @Ade @Adi @Acy @Acs N R (fun a0 a1 a2 a3 a4 a5 a6 a7 a8 a9 a10=>Ade N k a0 a1 a2 a3 a4 a5 a6 a7 a8 a9 a10 (fun a b d e f g h i j m=>K (.exit 0) (Aab Azq (((),(),(),()),((a,b,d,e,f,g,()),((),(),()),((),(),()),h,i,j,m,()))))) x K) N
theorem Cgo(N:Nat):Aba Tryz.prog 121 [] (sub Ae9 [1,1,0,1,0]) (Aaa Ajc (Bfr N N)):=(Cgn N).frag
theorem Cqn(N:Nat):Aaz Tryz.prog 34 (B2a N) :=
 ⟨Aat (fn:=Tryz.f34) (c:=Ae9) (dom:=(Aan [7,24,17,37])) (rs:=[.cell 2 63,.tmp 3]) mixed htt (Aad (Aai (A2f N))) (Aaf rfl) Tryz.func34 rfl rfl (by kernel_rfl) (Aag (l:=[(7,sub Ae9 [1,1,0,1,0]),(17,sub Ae9 [1,1,1,1,0,1,0]),(37,sub Ae9 [1,1,1,1,1,0,1,0])]) (by kernel_rfl) ⟨⟨_,rfl,Cgo N⟩,⟨_,rfl,Cc8 N⟩,⟨_,rfl,Cc6 N⟩,trivial⟩) (by decide) (by decide) (by decide) (fun R x C=>Ctg @Aci @Ade @Adi @Acy @Acs N R x C),Tryz.f34,Tryz.func34,rfl,by decide⟩
theorem Bdw(N:Nat):Aa8 Tryz.prog (Cw5 N):=trivial
theorem Cgp(N:Nat):Aba Tryz.prog 55 [] (sub Ams [1,0,1,0,1,1,1,1,1,1,1,1,1,1,1]) (Aaa Amj (Bwh N)) :=
 Aei (dom:=(Aan [60,42,20])) mixed htt (Aad (Aai (Bdw N))) (Aaf rfl) (by kernel_rfl) (Aag (l:=[]) (by kernel_rfl) trivial) Bwg (fun R x K=>Ckq @Aep @Acz @Adf N R x K)
theorem Cgq(N:Nat):Aba Tryz.prog 55 [] (sub Ams [1,0,1,0,1,1,1]) (Aaa Amk (Bwj N)) :=
 Aei (dom:=(Aan [60,42,20])) mixed htt (Aad (Aai (Bdw N))) (Aaf rfl) (by kernel_rfl) (Aag (l:=[(60,sub Ams [1,0,1,0,1,1,1,1,1,1,1,1,1,1,1])]) (by kernel_rfl) ⟨⟨_,rfl,Cgp N⟩,trivial⟩) Bwi (fun R x K=>Cj6 @Aep @Acz @Adf N R x K)
theorem Cgr(N:Nat):Aba Tryz.prog 55 [] (sub Ams [1,0,1,0,1]) (Aaa Aml (Bwl N)) :=
 Aei (dom:=(Aan [60,42,20])) mixed htt (Aad (Aai (Bdw N))) (Aaf rfl) (by kernel_rfl) (Aag (l:=[(42,sub Ams [1,0,1,0,1,1,1])]) (by kernel_rfl) ⟨⟨_,rfl,Cgq N⟩,trivial⟩) Bwk (fun R x K=>Ckr @Aep @Acz @Adf N R x K)
theorem B2w(N:Nat):Aaz Tryz.prog 56 (Bqh N) :=
 ⟨Aat (fn:=Tryz.f56) (c:=Ams) (dom:=(Aan [60,42,20])) (rs:=[.tmp 4]) mixed htt (Aad (Aai (Bdw N))) (Aaf rfl) Tryz.func56 rfl rfl (by kernel_rfl) (Aag (l:=[(20,sub Ams [1,0,1,0,1])]) (by kernel_rfl) ⟨⟨_,rfl,Cgr N⟩,trivial⟩) (by decide) (by decide) (by decide) (fun R x C=>Cyf @Aep @Acz @Adf N R x C),Tryz.f56,Tryz.func56,rfl,by decide⟩
theorem Brh(N:Nat):Aa8 Tryz.prog (Cw7 N):=trivial
theorem Cgs(N:Nat):Aba Tryz.prog 22 [] (sub Ar9 [1,0,1,0,1,1,1]) (Aaa Ao4 (Bwn N)) :=
 Aei (dom:=(Aan [32,24])) mixed htt (Aad (Aai (Brh N))) (Aaf rfl) (by kernel_rfl) (Aag (l:=[]) (by kernel_rfl) trivial) Bwm (fun R x K=>Cj7 @Afa @Ado N R x K)
theorem Cgt(N:Nat):Aba Tryz.prog 22 [] (sub Ar9 [1,0,1,0,1]) (Aaa Ao5 (Bwp N)) :=
 Aei (dom:=(Aan [32,24])) mixed htt (Aad (Aai (Brh N))) (Aaf rfl) (by kernel_rfl) (Aag (l:=[(32,sub Ar9 [1,0,1,0,1,1,1])]) (by kernel_rfl) ⟨⟨_,rfl,Cgs N⟩,trivial⟩) Bwo (fun R x K=>Cks @Afa @Ado N R x K)
theorem Ct3(N:Nat):Aaz Tryz.prog 71 (B5f N) :=
 ⟨Aat (fn:=Tryz.f71) (c:=Ar9) (dom:=(Aan [32,24])) (rs:=[.tmp 2]) mixed htt (Aad (Aai (Brh N))) (Aaf rfl) Tryz.func71 rfl rfl (by kernel_rfl) (Aag (l:=[(24,sub Ar9 [1,0,1,0,1])]) (by kernel_rfl) ⟨⟨_,rfl,Cgt N⟩,trivial⟩) (by decide) (by decide) (by decide) (fun R x C=>Cyp @Afa @Ado N R x C),Tryz.f71,Tryz.func71,rfl,by decide⟩
theorem B59(N:Nat):Aa8 Tryz.prog (Cw9 N):=⟨Bnb N,trivial⟩
theorem Clw(N:Nat):Aba Tryz.prog 35 [] (sub A4m [1,0,1,0,1]) (Aaa Art (Bza N)) :=
 Aei (dom:=(Aan [8])) mixed htt (Aad (Aai (B59 N))) (Aaf rfl) (by kernel_rfl) (Aag (l:=[]) (by kernel_rfl) trivial) By9 (fun R x K=>Cp9 @Aav @Ajd N R x K)
theorem Ct4(N:Nat):Aaz Tryz.prog 72 (B5g N) :=
 ⟨Aat (fn:=Tryz.f72) (c:=A4m) (dom:=(Aan [8])) (rs:=[.tmp 4]) mixed htt (Aad (Aai (B59 N))) (Aaf rfl) Tryz.func72 rfl rfl (by kernel_rfl) (Aag (l:=[(8,sub A4m [1,0,1,0,1])]) (by kernel_rfl) ⟨⟨_,rfl,Clw N⟩,trivial⟩) (by decide) (by decide) (by decide) (fun R x C=>Cx1 @Aav @Ajd N R x C),Tryz.f72,Tryz.func72,rfl,by decide⟩
theorem B6a(N:Nat):Aa8 Tryz.prog (Cxb N):=trivial
theorem Clx(N:Nat):Aet Tryz.prog 31 [] (sub Au9 [1,0,0,0]) (Aaa Ant (Biu N N)) :=
 Adq (c:=sub Au9 [1,0,0,0]) (dom:=(Aan [3])) mixed htt (Aad (Aai (B6a N))) (Aaf rfl) (by kernel_rfl) (Aag (l:=[]) (by kernel_rfl) trivial) Bzb (B:=(fun _ _ _=>none)) (Aet.none _ _ _ _) (fun _ _ _=>rfl) (fun R k x K=>Cps @Aha N R (fun a0 a1=>Aha N k a0 a1 (fun a b=>K (.exit 0) (Aab A1a ((a,b,()),(()))))) x K) N
theorem Cly(N:Nat):Aba Tryz.prog 31 [] (sub Au9 [1,0,0]) (Aaa Ant (Biu N N)):=(Clx N).frag
theorem Ct5(N:Nat):Aaz Tryz.prog 73 (B5h N) :=
 ⟨Aat (fn:=Tryz.f73) (c:=Au9) (dom:=(Aan [3])) (rs:=[.tmp 4]) mixed htt (Aad (Aai (B6a N))) (Aaf rfl) Tryz.func73 rfl rfl (by kernel_rfl) (Aag (l:=[(3,sub Au9 [1,0,0])]) (by kernel_rfl) ⟨⟨_,rfl,Cly N⟩,trivial⟩) (by decide) (by decide) (by decide) (fun R x C=>Cys @Aha N R x C),Tryz.f73,Tryz.func73,rfl,by decide⟩
theorem Cc9(N:Nat):Aa8 Tryz.prog (C26 N):=⟨B2w N,Ct3 N,Bnb N,Ct4 N,B2v N,Ct5 N,Bz7 N,trivial⟩
theorem Cqo(N:Nat):Aet Tryz.prog 96 [] (sub Aw2 [1,1,0,1,0,0]) (Aaa Apn (Bl9 N N)) :=
 Adq (c:=sub Aw2 [1,1,0,1,0,0]) (dom:=(Aan [7])) mixed htt (Aad (Aai (Cc9 N))) (Aaf rfl) (by kernel_rfl) (Aag (l:=[]) (by kernel_rfl) trivial) B2b (B:=(fun _ _ _=>none)) (Aet.none _ _ _ _) (fun _ _ _=>rfl) (fun R k x K=>Ctd @Ady @Ahf @Aav @Ahg @Aci @Af6 @Abs @Agy N R (fun a0 a1 a2 a3 a4 a5 a6 a7 a8 a9 a10=>Agy N k a0 a1 a2 a3 a4 a5 a6 a7 a8 a9 a10 (fun a=>K .ret (Aab A3v ((a,()),(())))) (K (.exit 0) (Aab A3w ((()),(()))))) x K) N
theorem Cqp(N:Nat):Aba Tryz.prog 96 [] (sub Aw2 [1,1,0,1,0]) (Aaa Apn (Bl9 N N)):=(Cqo N).frag
theorem Cy6(N:Nat):Aaz Tryz.prog 35 (Cbi N) :=
 ⟨Aat (fn:=Tryz.f35) (c:=Aw2) (dom:=(Aan [7])) (rs:=[.tmp 4]) mixed htt (Aad (Aai (Cc9 N))) (Aaf rfl) Tryz.func35 rfl rfl (by kernel_rfl) (Aag (l:=[(7,sub Aw2 [1,1,0,1,0])]) (by kernel_rfl) ⟨⟨_,rfl,Cqp N⟩,trivial⟩) (by decide) (by decide) (by decide) (fun R x C=>C3k @Ady @Ahf @Aav @Ahg @Aci @Af6 @Abs @Agy N R x C),Tryz.f35,Tryz.func35,rfl,by decide⟩
theorem B6b(N:Nat):Aa8 Tryz.prog (Cxd N):=⟨Clo N,Ct0 N,Clt N,Ct2 N,Cqn N,Cy6 N,trivial⟩
theorem Cgu(N:Nat):Aet Tryz.prog 50 [] (sub Au7 [1,1,1,0,1,0,0]) (Aaa Amg (Bfn N N)) :=
 Adq (c:=sub Au7 [1,1,1,0,1,0,0]) (dom:=(Aan [13])) mixed htt (Aad (Aai (B6b N))) (Aaf rfl) (by kernel_rfl) (Aag (l:=[]) (by kernel_rfl) trivial) Bv6 (B:=(fun _ _ _=>none)) (Aet.none _ _ _ _) (fun _ _ _=>rfl) (fun R k x K=>Cjs @Ahy @Aks @Agc @Ajz @Ail @Alk @Agf N R (fun a0 a1 a2 a3 a4 a5 a6=>Agf N k a0 a1 a2 a3 a4 a5 a6 (fun a=>K .ret (Aab Azn ((a,()),(())))) (fun a b d e f g=>K (.exit 0) (Aab Azo (((),()),((a,b,d,e,f,g,()),()))))) x K) N
theorem Cgv(N:Nat):Aba Tryz.prog 50 [] (sub Au7 [1,1,1,0,1,0]) (Aaa Amg (Bfn N N)):=(Cgu N).frag
theorem Ct6(N:Nat):Aaz Tryz.prog 10 (B5i N) :=
 ⟨Aat (fn:=Tryz.f10) (c:=Au7) (dom:=(Aan [13])) (rs:=[.tmp 2]) mixed htt (Aad (Aai (B6b N))) (Aaf rfl) Tryz.func10 rfl rfl (by kernel_rfl) (Aag (l:=[(13,sub Au7 [1,1,1,0,1,0])]) (by kernel_rfl) ⟨⟨_,rfl,Cgv N⟩,trivial⟩) (by decide) (by decide) (by decide) (fun R x C=>Cx0 @Ahy @Aks @Agc @Ajz @Ail @Alk @Agf N R x C),Tryz.f10,Tryz.func10,rfl,by decide⟩
theorem Bms(N:Nat):Aa8 Tryz.prog (Cs1 N):=⟨Ct6 N,B2w N,trivial⟩
theorem Cda(N:Nat):Aba Tryz.prog 39 [] (sub Am1 [1,1,1,1,1,0,1,0,0,1,0,0,1]) (Aaa Am7 (Bsd N)) :=
 Aei (dom:=(Aan [22,15])) mixed htt (Aad (Aai (Bms N))) (Aaf rfl) (by kernel_rfl) (Aag (l:=[]) (by kernel_rfl) trivial) Bsc (fun R x K=>Ce5 @Ah4 @Ady @Afg @Aeg N R x K)
theorem Cdb(N:Nat):Aet Tryz.prog 39 [] (sub Am1 [1,1,1,1,1,0,1,0,0]) (Aaa Aku (Bcq N N)) :=
 Adq (c:=sub Am1 [1,1,1,1,1,0,1,0,0]) (dom:=(Aan [22,15])) mixed htt (Aad (Aai (Bms N))) (Aaf rfl) (by kernel_rfl) (Aag (l:=[(22,sub Am1 [1,1,1,1,1,0,1,0,0,1,0,0,1])]) (by kernel_rfl) ⟨⟨_,rfl,Cda N⟩,trivial⟩) Bse (B:=(fun _ _ _=>none)) (Aet.none _ _ _ _) (fun _ _ _=>rfl) (fun R k x K=>Cff @Ah4 @Ady @Afg @Aeg N R (fun a0 a1 a2 a3 a4 a5 a6 a7 a8=>Aeg N k a0 a1 a2 a3 a4 a5 a6 a7 a8 (fun a=>K (.exit 0) (Aab Axp (((),()),(a,()))))) x K) N
theorem Cdc(N:Nat):Aba Tryz.prog 39 [] (sub Am1 [1,1,1,1,1,0,1,0]) (Aaa Aku (Bcq N N)):=(Cdb N).frag
theorem Cqq(N:Nat):Aaz Tryz.prog 20 (B2c N) :=
 ⟨Aat (fn:=Tryz.f20) (c:=Am1) (dom:=(Aan [22,15])) (rs:=[.tmp 2,.tmp 3]) mixed htt (Aad (Aai (Bms N))) (Aaf rfl) Tryz.func20 rfl rfl (by kernel_rfl) (Aag (l:=[(15,sub Am1 [1,1,1,1,1,0,1,0])]) (by kernel_rfl) ⟨⟨_,rfl,Cdc N⟩,trivial⟩) (by decide) (by decide) (by decide) (fun R x C=>Ctj @Ah4 @Ady @Afg @Aeg N R x C),Tryz.f20,Tryz.func20,rfl,by decide⟩
theorem C9b(N:Nat):Aa8 Tryz.prog (Coz N):=trivial
theorem Bdb(N:Nat):Aaz Tryz.prog 26 (Bbc N) :=
 ⟨Aat (fn:=Tryz.f26) (c:=Coy) (dom:=(Aan [])) (rs:=[.tmp 6]) mixed htt (Aad (Aai (C9b N))) (Aaf rfl) Tryz.func26 rfl rfl (by kernel_rfl) (Aag (l:=[]) (by kernel_rfl) trivial) (by decide) (by decide) (by decide) (fun R x C=>C86 N R x C),Tryz.f26,Tryz.func26,rfl,by decide⟩
theorem C4c(N:Nat):Aa8 Tryz.prog (Cbm N):=trivial
theorem Cy7(N:Nat):Aaz Tryz.prog 178 (Cbl N) :=
 ⟨Aat (fn:=Tryz.f178) (c:=Cbj) (dom:=(Aan [])) (rs:=[.tmp 2]) mixed htt (Aad (Aai (C4c N))) (Aaf rfl) Tryz.func178 rfl rfl (by kernel_rfl) (Aag (l:=[]) (by kernel_rfl) trivial) (by decide) (by decide) (by decide) (fun R x C=>C33 N R x C),Tryz.f178,Tryz.func178,rfl,by decide⟩
theorem B6c(N:Nat):Aa8 Tryz.prog (Cxf N):=trivial
theorem Clz(N:Nat):Aet Tryz.prog 13 [] (sub Avb [1,1,0,1,0,0]) (Aaa Anv (Biz N N)) :=
 Adq (c:=sub Avb [1,1,0,1,0,0]) (dom:=(Aan [7])) mixed htt (Aad (Aai (B6c N))) (Aaf rfl) (by kernel_rfl) (Aag (l:=[]) (by kernel_rfl) trivial) Bzd (B:=(fun _ _ _=>none)) (Aet.none _ _ _ _) (fun _ _ _=>rfl) (fun R k x K=>Cqa @Agr N R (fun a0 a1 a2=>Agr N k a0 a1 a2 (fun a=>K (.exit 0) (Aab A1e ((a,()),(()))))) x K) N
theorem Cl0(N:Nat):Aba Tryz.prog 13 [] (sub Avb [1,1,0,1,0]) (Aaa Anv (Biz N N)):=(Clz N).frag
theorem Bbo(N:Nat):Aaz Tryz.prog 129 (A4n N) :=
 ⟨Aat (fn:=Tryz.f129) (c:=Avb) (dom:=(Aan [7])) (rs:=[.tmp 2]) mixed htt (Aad (Aai (B6c N))) (Aaf rfl) Tryz.func129 rfl rfl (by kernel_rfl) (Aag (l:=[(7,sub Avb [1,1,0,1,0])]) (by kernel_rfl) ⟨⟨_,rfl,Cl0 N⟩,trivial⟩) (by decide) (by decide) (by decide) (fun R x C=>Cyd @Agr N R x C),Tryz.f129,Tryz.func129,rfl,by decide⟩
theorem Cdd(N:Nat):Aa8 Tryz.prog (C3b N):=⟨Bbo N,trivial⟩
theorem Cl1(N:Nat):Aba Tryz.prog 27 [] (sub A90 [1,1,1,1]) (Aaa Aru (Bzg N)) :=
 Aei (dom:=(Aan [10])) mixed htt (Aad (Aai (Cdd N))) (Aaf rfl) (by kernel_rfl) (Aag (l:=[]) (by kernel_rfl) trivial) Bzf (fun R x K=>Cpt @Ab0 @Ah1 N R x K)
theorem A4x(N:Nat):Aaz Tryz.prog 126 (A2b N) :=
 ⟨Aat (fn:=Tryz.f126) (c:=A90) (dom:=(Aan [10])) (rs:=[.tmp 4]) mixed htt (Aad (Aai (Cdd N))) (Aaf rfl) Tryz.func126 rfl rfl (by kernel_rfl) (Aag (l:=[(10,sub A90 [1,1,1,1])]) (by kernel_rfl) ⟨⟨_,rfl,Cl1 N⟩,trivial⟩) (by decide) (by decide) (by decide) (fun R x C=>C3n @Ab0 @Ah1 N R x C),Tryz.f126,Tryz.func126,rfl,by decide⟩
theorem Cy8(N:Nat):Aa8 Tryz.prog (B5q N):=trivial
theorem Ct7(N:Nat):Aaz Tryz.prog 181 (B5p N) :=
 ⟨Aat (fn:=Tryz.f181) (c:=B5n) (dom:=(Aan [])) (rs:=[.tmp 2]) mixed htt (Aad (Aai (Cy8 N))) (Aaf rfl) Tryz.func181 rfl rfl (by kernel_rfl) (Aag (l:=[]) (by kernel_rfl) trivial) (by decide) (by decide) (by decide) (fun R x C=>Cx4 N R x C),Tryz.f181,Tryz.func181,rfl,by decide⟩
theorem Cy9(N:Nat):Aa8 Tryz.prog (Cxk N):=⟨Ct7 N,trivial⟩
theorem B2x(N:Nat):Aaz Tryz.prog 128 (Bqz N) :=
 ⟨Aat (fn:=Tryz.f128) (c:=B5m) (dom:=(Aan [])) (rs:=[.tmp 6,.tmp 7]) mixed htt (Aad (Aai (Cy9 N))) (Aaf rfl) Tryz.func128 rfl rfl (by kernel_rfl) (Aag (l:=[]) (by kernel_rfl) trivial) (by decide) (by decide) (by decide) (fun R x C=>Cyt @Aj0 N R x C),Tryz.f128,Tryz.func128,rfl,by decide⟩
theorem Cl2(N:Nat):Aa8 Tryz.prog (Cjk N):=⟨A4x N,Bbo N,trivial⟩
theorem Bsp(N:Nat):Aaz Tryz.prog 246 (Bfy N) :=
 ⟨Aat (fn:=Tryz.f246) (c:=Bwx) (dom:=(Aan [])) (rs:=[.tmp 4]) mixed htt (Aad (Aai (Cl2 N))) (Aaf rfl) Tryz.func246 rfl rfl (by kernel_rfl) (Aag (l:=[]) (by kernel_rfl) trivial) (by decide) (by decide) (by decide) (fun R x C=>Ckb @Abx @Ab0 N R x C),Tryz.f246,Tryz.func246,rfl,by decide⟩
theorem Bz8(N:Nat):Aa8 Tryz.prog (Co2 N):=⟨Bsp N,Bbo N,A4x N,trivial⟩
theorem B79(N:Nat):Aet Tryz.prog 36 [] (sub Arv [1,1,1,0,1,0,0]) (Aaa Ale (A93 N N)) :=
 Adq (c:=sub Arv [1,1,1,0,1,0,0]) (dom:=(Aan [11])) mixed htt (Aad (Aai (Bz8 N))) (Aaf rfl) (by kernel_rfl) (Aag (l:=[]) (by kernel_rfl) trivial) Boq (B:=(fun _ _ _=>none)) (Aet.none _ _ _ _) (fun _ _ _=>rfl) (fun R k x K=>Ccd @Adg @Ab0 @Abx @Aes N R (fun a0 a1 a2 a3 a4=>Aes N k a0 a1 a2 a3 a4 (fun a b=>K (.exit 0) (Aab Av7 ((a,b,()),(()))))) x K) N
theorem B8a(N:Nat):Aba Tryz.prog 36 [] (sub Arv [1,1,1,0,1,0]) (Aaa Ale (A93 N N)):=(B79 N).frag
theorem Cl3(N:Nat):Aaz Tryz.prog 179 (Bzi N) :=
 ⟨Aat (fn:=Tryz.f179) (c:=Arv) (dom:=(Aan [11])) (rs:=[.tmp 8]) mixed htt (Aad (Aai (Bz8 N))) (Aaf rfl) Tryz.func179 rfl rfl (by kernel_rfl) (Aag (l:=[(11,sub Arv [1,1,1,0,1,0])]) (by kernel_rfl) ⟨⟨_,rfl,B8a N⟩,trivial⟩) (by decide) (by decide) (by decide) (fun R x C=>Cp0 @Adg @Ab0 @Abx @Aes N R x C),Tryz.f179,Tryz.func179,rfl,by decide⟩
theorem Bz9(N:Nat):Aa8 Tryz.prog (Co4 N):=⟨Bsp N,A4x N,trivial⟩
theorem Cde(N:Nat):Aet Tryz.prog 44 [] (sub Arw [1,1,1,0,1,0,0]) (Aaa Alm (Bcu N N)) :=
 Adq (c:=sub Arw [1,1,1,0,1,0,0]) (dom:=(Aan [9])) mixed htt (Aad (Aai (Bz9 N))) (Aaf rfl) (by kernel_rfl) (Aag (l:=[]) (by kernel_rfl) trivial) Bsg (B:=(fun _ _ _=>none)) (Aet.none _ _ _ _) (fun _ _ _=>rfl) (fun R k x K=>Cfa @Adg @Abx @Afh N R (fun a0 a1 a2 a3 a4 a5 a6=>Afh N k a0 a1 a2 a3 a4 a5 a6 (fun a b=>K (.exit 0) (Aab Axq ((a,b,()),(()))))) x K) N
theorem Cdf(N:Nat):Aba Tryz.prog 44 [] (sub Arw [1,1,1,0,1,0]) (Aaa Alm (Bcu N N)):=(Cde N).frag
theorem Cl4(N:Nat):Aaz Tryz.prog 180 (Bzk N) :=
 ⟨Aat (fn:=Tryz.f180) (c:=Arw) (dom:=(Aan [9])) (rs:=[.tmp 8]) mixed htt (Aad (Aai (Bz9 N))) (Aaf rfl) Tryz.func180 rfl rfl (by kernel_rfl) (Aag (l:=[(9,sub Arw [1,1,1,0,1,0])]) (by kernel_rfl) ⟨⟨_,rfl,Cdf N⟩,trivial⟩) (by decide) (by decide) (by decide) (fun R x C=>Cpq @Adg @Abx @Afh N R x C),Tryz.f180,Tryz.func180,rfl,by decide⟩
theorem Cza(N:Nat):Aa8 Tryz.prog (Cxm N):=⟨Cy7 N,A4x N,B2x N,Cl3 N,Cl4 N,trivial⟩
theorem Ct8(N:Nat):Aaz Tryz.prog 125 (B5s N) :=
 ⟨Aat (fn:=Tryz.f125) (c:=B5l) (dom:=(Aan [])) (rs:=[.tmp 8,.tmp 9]) mixed htt (Aad (Aai (Cza N))) (Aaf rfl) Tryz.func125 rfl rfl (by kernel_rfl) (Aag (l:=[]) (by kernel_rfl) trivial) (by decide) (by decide) (by decide) (fun R x C=>Cyn @Anu @Abx @Ae8 @Ae6 @Adp N R x C),Tryz.f125,Tryz.func125,rfl,by decide⟩
theorem Ct9(N:Nat):Aa8 Tryz.prog (B2g N):=trivial
theorem Cqr(N:Nat):Aaz Tryz.prog 127 (B2f N) :=
 ⟨Aat (fn:=Tryz.f127) (c:=B2d) (dom:=(Aan [])) (rs:=[.tmp 2]) mixed htt (Aad (Aai (Ct9 N))) (Aaf rfl) Tryz.func127 rfl rfl (by kernel_rfl) (Aag (l:=[]) (by kernel_rfl) trivial) (by decide) (by decide) (by decide) (fun R x C=>Cto N R x C),Tryz.f127,Tryz.func127,rfl,by decide⟩
theorem Czb(N:Nat):Aa8 Tryz.prog (Cxo N):=⟨Ct8 N,A4x N,Cqr N,B2x N,Bbo N,trivial⟩
theorem Cua(N:Nat):Aaz Tryz.prog 96 (B5u N) :=
 ⟨Aat (fn:=Tryz.f96) (c:=B5k) (dom:=(Aan [])) (rs:=[.tmp 8,.tmp 9]) mixed htt (Aad (Aai (Czb N))) (Aaf rfl) Tryz.func96 rfl rfl (by kernel_rfl) (Aag (l:=[]) (by kernel_rfl) trivial) (by decide) (by decide) (by decide) (fun R x C=>Cx8 @Ah5 @Abx @Ahp @Ae8 @Ab0 N R x C),Tryz.f96,Tryz.func96,rfl,by decide⟩
theorem Czc(N:Nat):Aa8 Tryz.prog (B5w N):=trivial
theorem B2y(N:Nat):Aaz Tryz.prog 27 (Bq3 N) :=
 ⟨Aat (fn:=Tryz.f27) (c:=B5v) (dom:=(Aan [])) (rs:=[.tmp 2]) mixed htt (Aad (Aai (Czc N))) (Aaf rfl) Tryz.func27 rfl rfl (by kernel_rfl) (Aag (l:=[]) (by kernel_rfl) trivial) (by decide) (by decide) (by decide) (fun R x C=>Cyk N R x C),Tryz.f27,Tryz.func27,rfl,by decide⟩
theorem Czd(N:Nat):Aa8 Tryz.prog (Cxt N):=⟨Cua N,B2y N,trivial⟩
theorem Cub(N:Nat):Aaz Tryz.prog 57 (B5y N) :=
 ⟨Aat (fn:=Tryz.f57) (c:=B5j) (dom:=(Aan [])) (rs:=[.tmp 6]) mixed htt (Aad (Aai (Czd N))) (Aaf rfl) Tryz.func57 rfl rfl (by kernel_rfl) (Aag (l:=[]) (by kernel_rfl) trivial) (by decide) (by decide) (by decide) (fun R x C=>Cyb @Aj1 @Acj N R x C),Tryz.f57,Tryz.func57,rfl,by decide⟩
theorem B2z(N:Nat):Aa8 Tryz.prog (Cs6 N):=trivial
theorem Cgw(N:Nat):Aet Tryz.prog 19 [] (sub Ate [1,0,1,0,0]) (Aaa Amn (Bf2 N N)) :=
 Adq (c:=sub Ate [1,0,1,0,0]) (dom:=(Aan [5])) mixed htt (Aad (Aai (B2z N))) (Aaf rfl) (by kernel_rfl) (Aag (l:=[]) (by kernel_rfl) trivial) Bwy (B:=(fun _ _ _=>none)) (Aet.none _ _ _ _) (fun _ _ _=>rfl) (fun R k x K=>Cjv @Ag7 N R (fun a0 a1 a2=>Ag7 N k a0 a1 a2 (fun a=>K .ret (Aab Azx ((a,()),(())))) (K (.exit 0) (Aab Azy ((()),(()))))) x K) N
theorem Cgx(N:Nat):Aba Tryz.prog 19 [] (sub Ate [1,0,1,0]) (Aaa Amn (Bf2 N N)):=(Cgw N).frag
theorem Cqs(N:Nat):Aaz Tryz.prog 97 (B2i N) :=
 ⟨Aat (fn:=Tryz.f97) (c:=Ate) (dom:=(Aan [5])) (rs:=[.tmp 4]) mixed htt (Aad (Aai (B2z N))) (Aaf rfl) Tryz.func97 rfl rfl (by kernel_rfl) (Aag (l:=[(5,sub Ate [1,0,1,0])]) (by kernel_rfl) ⟨⟨_,rfl,Cgx N⟩,trivial⟩) (by decide) (by decide) (by decide) (fun R x C=>Ctm @Ag7 N R x C),Tryz.f97,Tryz.func97,rfl,by decide⟩
theorem C4d(N:Nat):Aa8 Tryz.prog (C3d N):=⟨Cqs N,trivial⟩
theorem Cze(N:Nat):Aaz Tryz.prog 58 (Cbp N) :=
 ⟨Aat (fn:=Tryz.f58) (c:=Cbn) (dom:=(Aan [])) (rs:=[.tmp 4]) mixed htt (Aad (Aai (C4d N))) (Aaf rfl) Tryz.func58 rfl rfl (by kernel_rfl) (Aag (l:=[]) (by kernel_rfl) trivial) (by decide) (by decide) (by decide) (fun R x C=>C3x @Aly N R x C),Tryz.f58,Tryz.func58,rfl,by decide⟩
theorem Cl5(N:Nat):Aa8 Tryz.prog (Cjm N):=⟨Bdb N,Cub N,Cze N,trivial⟩
theorem Cgy(N:Nat):Aaz Tryz.prog 21 (Bw2 N) :=
 ⟨Aat (fn:=Tryz.f21) (c:=Bwt) (dom:=(Aan [])) (rs:=[.tmp 4]) mixed htt (Aad (Aai (Cl5 N))) (Aaf rfl) Tryz.func21 rfl rfl (by kernel_rfl) (Aag (l:=[]) (by kernel_rfl) trivial) (by decide) (by decide) (by decide) (fun R x C=>Cjz @Aax @Al3 @App N R x C),Tryz.f21,Tryz.func21,rfl,by decide⟩
theorem Bri(N:Nat):Aa8 Tryz.prog (Cxv N):=trivial
theorem Cgz(N:Nat):Aba Tryz.prog 35 [] (sub Apg [1,0,1,0,0,1,0,0,1,1,0,1]) (Aaa Ao6 (Bw4 N)) :=
 Aei (dom:=(Aan [22,5])) mixed htt (Aad (Aai (Bri N))) (Aaf rfl) (by kernel_rfl) (Aag (l:=[]) (by kernel_rfl) trivial) Bw3 (fun R x K=>Cjt @Aeq @Afd N R x K)
theorem Cl6(N:Nat):Aet Tryz.prog 35 [] (sub Apg [1,0,1,0,0]) (Aaa Al4 (Bi8 N N)) :=
 Adq (c:=sub Apg [1,0,1,0,0]) (dom:=(Aan [22,5])) mixed htt (Aad (Aai (Bri N))) (Aaf rfl) (by kernel_rfl) (Aag (l:=[(22,sub Apg [1,0,1,0,0,1,0,0,1,1,0,1])]) (by kernel_rfl) ⟨⟨_,rfl,Cgz N⟩,trivial⟩) Bzt (B:=(fun _ _ _=>none)) (Aet.none _ _ _ _) (fun _ _ _=>rfl) (fun R k x K=>Cpy @Aeq @Afd N R (fun a0 a1 a2=>Afd N k a0 a1 a2 (fun a=>K .ret (Aab A1j ((a,()),(())))) (K (.exit 0) (Aab A1k ((()),(()))))) x K) N
theorem Cl7(N:Nat):Aba Tryz.prog 35 [] (sub Apg [1,0,1,0]) (Aaa Al4 (Bi8 N N)):=(Cl6 N).frag
theorem Cuc(N:Nat):Aaz Tryz.prog 25 (B5z N) :=
 ⟨Aat (fn:=Tryz.f25) (c:=Apg) (dom:=(Aan [22,5])) (rs:=[.tmp 4]) mixed htt (Aad (Aai (Bri N))) (Aaf rfl) Tryz.func25 rfl rfl (by kernel_rfl) (Aag (l:=[(5,sub Apg [1,0,1,0])]) (by kernel_rfl) ⟨⟨_,rfl,Cl7 N⟩,trivial⟩) (by decide) (by decide) (by decide) (fun R x C=>Cya @Aeq @Afd N R x C),Tryz.f25,Tryz.func25,rfl,by decide⟩
theorem B6d(N:Nat):Aa8 Tryz.prog (Cxx N):=⟨Bdb N,trivial⟩
theorem Cg0(N:Nat):Aba Tryz.prog 32 [] (sub A4t [1,1,0,1,0,1]) (Aaa Aq5 (Bw6 N)) :=
 Aei (dom:=(Aan [16])) mixed htt (Aad (Aai (B6d N))) (Aaf rfl) (by kernel_rfl) (Aag (l:=[]) (by kernel_rfl) trivial) Bw5 (fun R x K=>Cki @Aax @Agg N R x K)
theorem Cud(N:Nat):Aaz Tryz.prog 24 (B50 N) :=
 ⟨Aat (fn:=Tryz.f24) (c:=A4t) (dom:=(Aan [16])) (rs:=[.tmp 4]) mixed htt (Aad (Aai (B6d N))) (Aaf rfl) Tryz.func24 rfl rfl (by kernel_rfl) (Aag (l:=[(16,sub A4t [1,1,0,1,0,1])]) (by kernel_rfl) ⟨⟨_,rfl,Cg0 N⟩,trivial⟩) (by decide) (by decide) (by decide) (fun R x C=>Cyr @Aax @Agg N R x C),Tryz.f24,Tryz.func24,rfl,by decide⟩
theorem Cdg(N:Nat):Aa8 Tryz.prog (C3f N):=⟨Bdb N,trivial⟩
theorem Cqt(N:Nat):Aet Tryz.prog 28 [] (sub Aw7 [1,1,0,1,0,0]) (Aaa Apq (Bmg N N)) :=
 Adq (c:=sub Aw7 [1,1,0,1,0,0]) (dom:=(Aan [9])) mixed htt (Aad (Aai (Cdg N))) (Aaf rfl) (by kernel_rfl) (Aag (l:=[]) (by kernel_rfl) trivial) B2j (B:=(fun _ _ _=>none)) (Aet.none _ _ _ _) (fun _ _ _=>rfl) (fun R k x K=>Cte @Aax @Ahq N R (fun a0 a1 a2=>Ahq N k a0 a1 a2 (fun a=>K .ret (Aab A32 ((a,()),(())))) (K (.exit 0) (Aab A33 ((()),(()))))) x K) N
theorem Cqu(N:Nat):Aba Tryz.prog 28 [] (sub Aw7 [1,1,0,1,0]) (Aaa Apq (Bmg N N)):=(Cqt N).frag
theorem Czf(N:Nat):Aaz Tryz.prog 22 (Cbq N) :=
 ⟨Aat (fn:=Tryz.f22) (c:=Aw7) (dom:=(Aan [9])) (rs:=[.tmp 4]) mixed htt (Aad (Aai (Cdg N))) (Aaf rfl) Tryz.func22 rfl rfl (by kernel_rfl) (Aag (l:=[(9,sub Aw7 [1,1,0,1,0])]) (by kernel_rfl) ⟨⟨_,rfl,Cqu N⟩,trivial⟩) (by decide) (by decide) (by decide) (fun R x C=>C3v @Aax @Ahq N R x C),Tryz.f22,Tryz.func22,rfl,by decide⟩
theorem Cdh(N:Nat):Aa8 Tryz.prog (C3h N):=trivial
theorem Cqv(N:Nat):Aet Tryz.prog 28 [] (sub Aw8 [1,0,1,0,0]) (Aaa Apr (Bmj N N)) :=
 Adq (c:=sub Aw8 [1,0,1,0,0]) (dom:=(Aan [5])) mixed htt (Aad (Aai (Cdh N))) (Aaf rfl) (by kernel_rfl) (Aag (l:=[]) (by kernel_rfl) trivial) B2l (B:=(fun _ _ _=>none)) (Aet.none _ _ _ _) (fun _ _ _=>rfl) (fun R k x K=>Ctb @Ahr N R (fun a0 a1 a2=>Ahr N k a0 a1 a2 (fun a=>K .ret (Aab A34 ((a,()),(())))) (K (.exit 0) (Aab A35 ((()),(()))))) x K) N
theorem Cqw(N:Nat):Aba Tryz.prog 28 [] (sub Aw8 [1,0,1,0]) (Aaa Apr (Bmj N N)):=(Cqv N).frag
theorem Czg(N:Nat):Aaz Tryz.prog 130 (Cbr N) :=
 ⟨Aat (fn:=Tryz.f130) (c:=Aw8) (dom:=(Aan [5])) (rs:=[.tmp 4]) mixed htt (Aad (Aai (Cdh N))) (Aaf rfl) Tryz.func130 rfl rfl (by kernel_rfl) (Aag (l:=[(5,sub Aw8 [1,0,1,0])]) (by kernel_rfl) ⟨⟨_,rfl,Cqw N⟩,trivial⟩) (by decide) (by decide) (by decide) (fun R x C=>C3w @Ahr N R x C),Tryz.f130,Tryz.func130,rfl,by decide⟩
theorem Bjx(N:Nat):Aa8 Tryz.prog (Cpc N):=⟨Czg N,Bdb N,trivial⟩
theorem B8b(N:Nat):Aba Tryz.prog 27 [] (sub Al5 [1,1,1,1]) (Aaa Al9 (Bot N)) :=
 Aei (dom:=(Aan [5,12])) mixed htt (Aad (Aai (Bjx N))) (Aaf rfl) (by kernel_rfl) (Aag (l:=[]) (by kernel_rfl) trivial) Bos (fun R x K=>Ccf @Ajr @Aax @Adj @Aeb N R x K)
theorem Cdi(N:Nat):Aet Tryz.prog 27 [] (sub Al5 [1,1,0,0,0]) (Aaa Akv (Bc2 N N)) :=
 Adq (c:=sub Al5 [1,1,0,0,0]) (dom:=(Aan [5,12])) mixed htt (Aad (Aai (Bjx N))) (Aaf rfl) (by kernel_rfl) (Aag (l:=[]) (by kernel_rfl) trivial) Bsi (B:=(fun _ _ _=>none)) (Aet.none _ _ _ _) (fun _ _ _=>rfl) (fun R k x K=>Cfg @Ajr @Aax @Adj @Aeb N R (fun a0 a1=>Adj N k a0 a1 (fun a b=>K (.exit 0) (Aab Axr ((a,b,()),(()))))) x K) N
theorem Cdj(N:Nat):Aba Tryz.prog 27 [] (sub Al5 [1,1,0,0]) (Aaa Akv (Bc2 N N)):=(Cdi N).frag
theorem Cl8(N:Nat):Aaz Tryz.prog 98 (Bzz N) :=
 ⟨Aat (fn:=Tryz.f98) (c:=Al5) (dom:=(Aan [5,12])) (rs:=[.tmp 4]) mixed htt (Aad (Aai (Bjx N))) (Aaf rfl) Tryz.func98 rfl rfl (by kernel_rfl) (Aag (l:=[(5,sub Al5 [1,1,0,0]),(12,sub Al5 [1,1,1,1])]) (by kernel_rfl) ⟨⟨_,rfl,Cdj N⟩,⟨_,rfl,B8b N⟩,trivial⟩) (by decide) (by decide) (by decide) (fun R x C=>Cpz @Ajr @Aax @Adj @Aeb N R x C),Tryz.f98,Tryz.func98,rfl,by decide⟩
theorem B0a(N:Nat):Aa8 Tryz.prog (Cpe N):=⟨Cl8 N,trivial⟩
theorem B8c(N:Nat):Aet Tryz.prog 28 [] (sub Ary [1,1,1,1,0,1,0,0]) (Aaa Alg (Bab N N)) :=
 Adq (c:=sub Ary [1,1,1,1,0,1,0,0]) (dom:=(Aan [13])) mixed htt (Aad (Aai (B0a N))) (Aaf rfl) (by kernel_rfl) (Aag (l:=[]) (by kernel_rfl) trivial) Bou (B:=(fun _ _ _=>none)) (Aet.none _ _ _ _) (fun _ _ _=>rfl) (fun R k x K=>Cb7 @Aft @Adr N R (fun a0 a1 a2 a3=>Adr N k a0 a1 a2 a3 (fun a=>K .ret (Aab Av8 ((a,()),(())))) (K (.exit 0) (Aab Av9 ((()),(()))))) x K) N
theorem B8d(N:Nat):Aba Tryz.prog 28 [] (sub Ary [1,1,1,1,0,1,0]) (Aaa Alg (Bab N N)):=(B8c N).frag
theorem Cl9(N:Nat):Aaz Tryz.prog 59 (Bz0 N) :=
 ⟨Aat (fn:=Tryz.f59) (c:=Ary) (dom:=(Aan [13])) (rs:=[.tmp 4]) mixed htt (Aad (Aai (B0a N))) (Aaf rfl) Tryz.func59 rfl rfl (by kernel_rfl) (Aag (l:=[(13,sub Ary [1,1,1,1,0,1,0])]) (by kernel_rfl) ⟨⟨_,rfl,B8d N⟩,trivial⟩) (by decide) (by decide) (by decide) (fun R x C=>Cp2 @Aft @Adr N R x C),Tryz.f59,Tryz.func59,rfl,by decide⟩
theorem B6e(N:Nat):Aa8 Tryz.prog (Cxz N):=⟨Cl9 N,trivial⟩
theorem Cg1(N:Nat):Aba Tryz.prog 31 [] (sub A4u [1,0,1,0,1]) (Aaa Aq6 (Bxc N)) :=
 Aei (dom:=(Aan [12])) mixed htt (Aad (Aai (B6e N))) (Aaf rfl) (by kernel_rfl) (Aag (l:=[]) (by kernel_rfl) trivial) Bxb (fun R x K=>Ckh @Ags @Agh N R x K)
theorem Cue(N:Nat):Aaz Tryz.prog 23 (B51 N) :=
 ⟨Aat (fn:=Tryz.f23) (c:=A4u) (dom:=(Aan [12])) (rs:=[.tmp 4]) mixed htt (Aad (Aai (B6e N))) (Aaf rfl) Tryz.func23 rfl rfl (by kernel_rfl) (Aag (l:=[(12,sub A4u [1,0,1,0,1])]) (by kernel_rfl) ⟨⟨_,rfl,Cg1 N⟩,trivial⟩) (by decide) (by decide) (by decide) (fun R x C=>Cyh @Ags @Agh N R x C),Tryz.f23,Tryz.func23,rfl,by decide⟩
theorem At7(N:Nat):Aa8 Tryz.prog (C3j N):=⟨Cqq N,Cgy N,Bdb N,B2y N,Cuc N,Cud N,Czf N,Cue N,trivial⟩
theorem Cma(N:Nat):Aba Tryz.prog 148 [] (sub Aew [1,1,1,1,1,0,1,0,0,1,0,0,1,1,1,1,1,1,1]) (Aaa Aix (Bzm N)) :=
 Aei (dom:=(Aan [32,30,28,26,24,22,15])) mixed htt (Aad (Aai (At7 N))) (Aaf rfl) (by kernel_rfl) (Aag (l:=[]) (by kernel_rfl) trivial) Bzl (fun R x K=>Cpv @Ac0 @Acc @Aax @Acj @Adk @Adl @Ad4 @Adm @Ab9 @Aca @Ace @Ack @Acf @Acl @Abt N R x K)
theorem Cmb(N:Nat):Aba Tryz.prog 148 [] (sub Aew [1,1,1,1,1,0,1,0,0,1,0,0,1,1,1,1,1,1]) (Aaa Aiy (Bzo N)) :=
 Aei (dom:=(Aan [32,30,28,26,24,22,15])) mixed htt (Aad (Aai (At7 N))) (Aaf rfl) (by kernel_rfl) (Aag (l:=[(32,sub Aew [1,1,1,1,1,0,1,0,0,1,0,0,1,1,1,1,1,1,1])]) (by kernel_rfl) ⟨⟨_,rfl,Cma N⟩,trivial⟩) Bzn (fun R x K=>Cpu @Ac0 @Acc @Aax @Acj @Adk @Adl @Ad4 @Adm @Ab9 @Aca @Ace @Ack @Acf @Acl @Abt N R x K)
theorem Cmc(N:Nat):Aba Tryz.prog 148 [] (sub Aew [1,1,1,1,1,0,1,0,0,1,0,0,1,1,1,1,1]) (Aaa Aiz (Bzq N)) :=
 Aei (dom:=(Aan [32,30,28,26,24,22,15])) mixed htt (Aad (Aai (At7 N))) (Aaf rfl) (by kernel_rfl) (Aag (l:=[(30,sub Aew [1,1,1,1,1,0,1,0,0,1,0,0,1,1,1,1,1,1])]) (by kernel_rfl) ⟨⟨_,rfl,Cmb N⟩,trivial⟩) Bzp (fun R x K=>Cp4 @Ac0 @Acc @Aax @Acj @Adk @Adl @Ad4 @Adm @Ab9 @Aca @Ace @Ack @Acf @Acl @Abt N R x K)
theorem Cmd(N:Nat):Aba Tryz.prog 148 [] (sub Aew [1,1,1,1,1,0,1,0,0,1,0,0,1,1,1,1]) (Aaa Ai0 (Bzs N)) :=
 Aei (dom:=(Aan [32,30,28,26,24,22,15])) mixed htt (Aad (Aai (At7 N))) (Aaf rfl) (by kernel_rfl) (Aag (l:=[(28,sub Aew [1,1,1,1,1,0,1,0,0,1,0,0,1,1,1,1,1])]) (by kernel_rfl) ⟨⟨_,rfl,Cmc N⟩,trivial⟩) Bzr (fun R x K=>Cpo @Ac0 @Acc @Aax @Acj @Adk @Adl @Ad4 @Adm @Ab9 @Aca @Ace @Ack @Acf @Acl @Abt N R x K)
theorem Cme(N:Nat):Aba Tryz.prog 148 [] (sub Aew [1,1,1,1,1,0,1,0,0,1,0,0,1,1,1]) (Aaa Ai1 (Bzw N)) :=
 Aei (dom:=(Aan [32,30,28,26,24,22,15])) mixed htt (Aad (Aai (At7 N))) (Aaf rfl) (by kernel_rfl) (Aag (l:=[(26,sub Aew [1,1,1,1,1,0,1,0,0,1,0,0,1,1,1,1])]) (by kernel_rfl) ⟨⟨_,rfl,Cmd N⟩,trivial⟩) Bzv (fun R x K=>Cph @Ac0 @Acc @Aax @Acj @Adk @Adl @Ad4 @Adm @Ab9 @Aca @Ace @Ack @Acf @Acl @Abt N R x K)
theorem Cmf(N:Nat):Aba Tryz.prog 148 [] (sub Aew [1,1,1,1,1,0,1,0,0,1,0,0,1,1]) (Aaa Ai2 (Bzy N)) :=
 Aei (dom:=(Aan [32,30,28,26,24,22,15])) mixed htt (Aad (Aai (At7 N))) (Aaf rfl) (by kernel_rfl) (Aag (l:=[(24,sub Aew [1,1,1,1,1,0,1,0,0,1,0,0,1,1,1])]) (by kernel_rfl) ⟨⟨_,rfl,Cme N⟩,trivial⟩) Bzx (fun R x K=>Cp5 @Ac0 @Acc @Aax @Acj @Adk @Adl @Ad4 @Adm @Ab9 @Aca @Ace @Ack @Acf @Acl @Abt N R x K)
theorem Cmg(N:Nat):Aet Tryz.prog 148 [] (sub Aew [1,1,1,1,1,0,1,0,0]) (Aaa Agz (Bji N N)) :=
 Adq (c:=sub Aew [1,1,1,1,1,0,1,0,0]) (dom:=(Aan [32,30,28,26,24,22,15])) mixed htt (Aad (Aai (At7 N))) (Aaf rfl) (by kernel_rfl) (Aag (l:=[(22,sub Aew [1,1,1,1,1,0,1,0,0,1,0,0,1,1])]) (by kernel_rfl) ⟨⟨_,rfl,Cmf N⟩,trivial⟩) Bz1 (B:=(fun _ _ _=>none)) (Aet.none _ _ _ _) (fun _ _ _=>rfl) (fun R k x K=>Cpg @Ac0 @Acc @Aax @Acj @Adk @Adl @Ad4 @Adm @Ab9 @Aca @Ace @Ack @Acf @Acl @Abt N R (fun a0 a1 a2 a3=>Abt N k a0 a1 a2 a3 (fun a=>K (.exit 0) (Aab A1o (((),()),(a,()))))) x K) N
theorem Cmh(N:Nat):Aba Tryz.prog 148 [] (sub Aew [1,1,1,1,1,0,1,0]) (Aaa Agz (Bji N N)):=(Cmg N).frag
theorem Czh(N:Nat):Aaz Tryz.prog 7 (Cbu N) :=
 ⟨Aat (fn:=Tryz.f7) (c:=Aew) (dom:=(Aan [32,30,28,26,24,22,15])) (rs:=[.tmp 2,.tmp 3]) mixed htt (Aad (Aai (At7 N))) (Aaf rfl) Tryz.func7 rfl rfl (by kernel_rfl) (Aag (l:=[(15,sub Aew [1,1,1,1,1,0,1,0])]) (by kernel_rfl) ⟨⟨_,rfl,Cmh N⟩,trivial⟩) (by decide) (by decide) (by decide) (fun R x C=>C3r @Ac0 @Acc @Aax @Acj @Adk @Adl @Ad4 @Adm @Ab9 @Aca @Ace @Ack @Acf @Acl @Abt N R x C),Tryz.f7,Tryz.func7,rfl,by decide⟩
theorem B20(N:Nat):Aa8 Tryz.prog (Cs8 N):=trivial
theorem Cg2(N:Nat):Aet Tryz.prog 26 [] (sub Ati [1,1,0,1,0,0]) (Aaa Amp (Bgb N N)) :=
 Adq (c:=sub Ati [1,1,0,1,0,0]) (dom:=(Aan [9])) mixed htt (Aad (Aai (B20 N))) (Aaf rfl) (by kernel_rfl) (Aag (l:=[]) (by kernel_rfl) trivial) Bxe (B:=(fun _ _ _=>none)) (Aet.none _ _ _ _) (fun _ _ _=>rfl) (fun R k x K=>Ckg @Af1 N R (fun a0 a1 a2=>Af1 N k a0 a1 a2 (fun a=>K .ret (Aab Az4 ((a,()),(())))) (K (.exit 0) (Aab Az5 ((()),(()))))) x K) N
theorem Cg3(N:Nat):Aba Tryz.prog 26 [] (sub Ati [1,1,0,1,0]) (Aaa Amp (Bgb N N)):=(Cg2 N).frag
theorem Cqx(N:Nat):Aaz Tryz.prog 8 (B2o N) :=
 ⟨Aat (fn:=Tryz.f8) (c:=Ati) (dom:=(Aan [9])) (rs:=[.tmp 4]) mixed htt (Aad (Aai (B20 N))) (Aaf rfl) Tryz.func8 rfl rfl (by kernel_rfl) (Aag (l:=[(9,sub Ati [1,1,0,1,0])]) (by kernel_rfl) ⟨⟨_,rfl,Cg3 N⟩,trivial⟩) (by decide) (by decide) (by decide) (fun R x C=>Ctf @Af1 N R x C),Tryz.f8,Tryz.func8,rfl,by decide⟩
theorem Cuf(N:Nat):Aaz Tryz.prog 9 (Brc N) :=
 ⟨Go.CE.Aw.awake_ok,Tryz.f9,Tryz.func9,rfl,by decide⟩
theorem Cg4(N:Nat):Aa8 Tryz.prog (Ce4 N):=⟨Cci N,C4b N,Czh N,Cqx N,Cuf N,trivial⟩
theorem Cdk(N:Nat):Aaz Tryz.prog 3 (Bsk N) :=
 ⟨Aat (fn:=Tryz.f3) (c:=Brn) (dom:=(Aan [])) (rs:=[.tmp 2]) mixed htt (Aad (Aai (Cg4 N))) (Aaf rfl) Tryz.func3 rfl rfl (by kernel_rfl) (Aag (l:=[]) (by kernel_rfl) trivial) (by decide) (by decide) (by decide) (fun R x C=>Ce6 @Aiq @Aqi @An4 @Alz N R x C),Tryz.f3,Tryz.func3,rfl,by decide⟩
end
end Q

/- Part O of the proof. -/
import Derived.Test.YtjdklngopfpjgaaGreatE1
import Derived.Test.YtjdklngopfpjgaaGreatE2
import Derived.Test.YtjdklngopfpjgaaGreatE3
import Derived.Test.YtjdklngopfpjgaaGreatE4
import Derived.Test.YtjdklngopfpjgaaGreatSh
import Derived.WalkKit
import Derived.Laws.Externs
import Derived.Test.YtjdklngopfpjgaaGreatAW
open Go Go.AX Go.Proofs
namespace Q
noncomputable section
set_option maxRecDepth 100000
set_option linter.unusedVariables false
set_option maxRecDepth 100000
theorem htt:Aj1 Tryz.prog tt:=Aj1.addBig (c:=200) (k:=160) (Cz4 (l:=types) (by kernel_rfl)) (by kernel_rfl) (by kernel_rfl) (by decide) (by kernel_rfl)
theorem mixed:Tryz.prog.follows .mixedOrders=true:=by kernel_rfl
theorem B3b(N:Nat):Aay Tryz.prog (Cqk N):=trivial
theorem Cc7(N:Nat):Agw Tryz.prog 59 [] (sub Ar1 [1,1,1,0,1,0,0]) (Aab Aj3 (Baz N N)) :=
 Af9 (c:=sub Ar1 [1,1,1,0,1,0,0]) (dom:=(Aan [11])) mixed htt (Aag (Aak (B3b N))) (Aah rfl) (by kernel_rfl) (Aai (l:=[]) (by kernel_rfl) trivial) Bqd (B:=(fun _ _ _=>none)) (Agw.none _ _ _ _) (fun _ _ _=>rfl) (fun R k x K=>Cgo @Ae8 N R (fun a0 a1 a2 a3 a4 a5 a6=>Ae8 N k a0 a1 a2 a3 a4 a5 a6 (fun a=>K (.exit 0) (Aaf Awu ((a,()),(()))))) x K) N
theorem Cc8(N:Nat):Ab1 Tryz.prog 59 [] (sub Ar1 [1,1,1,0,1,0]) (Aab Aj3 (Baz N N)):=(Cc7 N).frag
theorem Coa(N:Nat):Aar Tryz.prog 12 (B2k N) :=
 ⟨Aao (fn:=Tryz.f12) (c:=Ar1) (dom:=(Aan [11])) (rs:=[.tmp 2]) mixed htt (Aag (Aak (B3b N))) (Aah rfl) Tryz.func12 rfl rfl (by kernel_rfl) (Aai (l:=[(11,sub Ar1 [1,1,1,0,1,0])]) (by kernel_rfl) ⟨⟨_,rfl,Cc8 N⟩,trivial⟩) (by decide) (by decide) (by decide) (fun R x C=>Cru @Ae8 N R x C),Tryz.f12,Tryz.func12,rfl,by decide⟩
theorem Cry(N:Nat):Aay Tryz.prog (Cqm N):=⟨Coa N,trivial⟩
theorem Cob(N:Nat):Aar Tryz.prog 21 (B2m N) :=
 ⟨Aao (fn:=Tryz.f21) (c:=B2i) (dom:=(Aan [])) (rs:=[.tmp 2]) mixed htt (Aag (Aak (Cry N))) (Aah rfl) Tryz.func21 rfl rfl (by kernel_rfl) (Aai (l:=[]) (by kernel_rfl) trivial) (by decide) (by decide) (by decide) (fun R x C=>Crx @Akn N R x C),Tryz.f21,Tryz.func21,rfl,by decide⟩
theorem Coc(N:Nat):Aar Tryz.prog 13 (Ble N) :=
 ⟨Go.CE.Aw.awake_ok,Tryz.f13,Tryz.func13,rfl,by decide⟩
theorem B3c(N:Nat):Aay Tryz.prog (Cqo N):=trivial
theorem Cc9(N:Nat):Agw Tryz.prog 50 [] (sub Ar2 [1,1,1,0,1,0,0]) (Aab Aj4 (Ba2 N N)) :=
 Af9 (c:=sub Ar2 [1,1,1,0,1,0,0]) (dom:=(Aan [11])) mixed htt (Aag (Aak (B3c N))) (Aah rfl) (by kernel_rfl) (Aai (l:=[]) (by kernel_rfl) trivial) Bqf (B:=(fun _ _ _=>none)) (Agw.none _ _ _ _) (fun _ _ _=>rfl) (fun R k x K=>Cg1 @Ae9 N R (fun a0 a1 a2 a3=>Ae9 N k a0 a1 a2 a3 (fun a=>K (.exit 0) (Aaf Aww ((a,()),(()))))) x K) N
theorem Cda(N:Nat):Ab1 Tryz.prog 50 [] (sub Ar2 [1,1,1,0,1,0]) (Aab Aj4 (Ba2 N N)):=(Cc9 N).frag
theorem Cod(N:Nat):Aar Tryz.prog 132 (B2p N) :=
 ⟨Aao (fn:=Tryz.f132) (c:=Ar2) (dom:=(Aan [11])) (rs:=[.tmp 2]) mixed htt (Aag (Aak (B3c N))) (Aah rfl) Tryz.func132 rfl rfl (by kernel_rfl) (Aai (l:=[(11,sub Ar2 [1,1,1,0,1,0])]) (by kernel_rfl) ⟨⟨_,rfl,Cda N⟩,trivial⟩) (by decide) (by decide) (by decide) (fun R x C=>Crj @Ae9 N R x C),Tryz.f132,Tryz.func132,rfl,by decide⟩
theorem Bqa:(Tryz.prog.info? 243).map (·.size)=some 2:=by kernel_rfl
theorem Cfz:liesAt Tryz.prog Tryz.prog.depth 243 (2/Tryz.prog.cellsOf 243) 0 243 1=true:=by kernel_rfl
set_option maxHeartbeats 1000000 in
theorem Bha(b:Nat)(w:World)(h0:w.cell? ⟨b,0,none⟩=some (.pointer (some ⟨b,0,none⟩))) :
  Calls Tryz.prog 300 #[.pointer (some ⟨b,0,none⟩)] w fun e w'=>e = .returned (.tuple #[])∧w'=w:=by
 obtain⟨j,hj,_⟩:=Option.map_eq_some_iff.1 Bqa
 go_enter Tryz.func300,Tryz.ntmps300
 go_wp2
 rw[Lib.run_neq_ptr_same w _ Tryz.underlying241 hj]
 go_wp2
 go_end0
 exact⟨rfl,rfl⟩
set_option maxHeartbeats 1000000 in
theorem Bc4(b:Nat)(w:World)(h0:w.cell? ⟨b,0,none⟩=some (.pointer none))(hsh:w.shape? b=some (243,2))(hfz:w.frozen? ⟨b,0,none⟩=false) :
  Calls Tryz.prog 300 #[.pointer (some ⟨b,0,none⟩)] w fun e w'=>e = .returned (.tuple #[])∧w'=w.setCell ⟨b,0,none⟩ (.pointer (some ⟨b,0,none⟩)):=by
 obtain⟨j,hj,hjs⟩:=Option.map_eq_some_iff.1 Bqa
 go_enter Tryz.func300,Tryz.ntmps300
 go_wp2
 rw[Lib.run_to_unsafe w ⟨b,0,none⟩ Tryz.underlying241 Tryz.underlying268 hj (by rw[hjs];decide) hsh (Nat.zero_lt_succ 1)]
 simp only[Result.andThen]
 rw[Oper.upon_value]
 go_wp2
 rw[run_callFunc_extern Tryz.func313 (by kernel_rfl) (by kernel_rfl) (by kernel_rfl) (e:=Extern.AbiNoEscape.same) (by kernel_rfl)]
 rw[Lib.run_noEscape]
 simp only[Result.andThen]
 rw[Oper.upon_value]
 go_wp2
 rw[Lib.run_from_unsafe w ⟨b,0,none⟩ Tryz.underlying268 Tryz.underlying241 hj hsh Cfz]
 simp only[Result.andThen]
 rw[Oper.upon_value]
 go_wp2
 go_end0
 exact⟨rfl,rfl⟩
theorem Az8(N:Nat):Aar Tryz.prog 300 (Aqw N) :=
 ⟨Ct6 Bha Bc4,Tryz.f300,Tryz.func300,rfl,by decide⟩
theorem Bkx(N:Nat):Aay Tryz.prog (A0e N):=⟨Az8 N,trivial⟩
theorem Bif(N:Nat):Aar Tryz.prog 273 (A0d N) :=
 ⟨Aao (fn:=Tryz.f273) (c:=Amu) (dom:=(Aan [])) (rs:=[.tmp 4]) mixed htt (Aag (Aak (Bkx N))) (Aah rfl) Tryz.func273 rfl rfl (by kernel_rfl) (Aai (l:=[]) (by kernel_rfl) trivial) (by decide) (by decide) (by decide) (fun R x C=>Bkv N R x C),Tryz.f273,Tryz.func273,rfl,by decide⟩
theorem B1p(N:Nat):Aar Tryz.prog 274 (Avl N) :=
 ⟨Ct5 Tryz.strings_IndexByte,Tryz.f274,Tryz.func274,rfl,by decide⟩
theorem Be9(N:Nat):Aay Tryz.prog (Awy N):=⟨Az8 N,trivial⟩
theorem Bcp(N:Nat):Aar Tryz.prog 273 (Awx N) :=
 ⟨Aao (fn:=Tryz.f273) (c:=Amu) (dom:=(Aan [])) (rs:=[.tmp 4]) mixed htt (Aag (Aak (Be9 N))) (Aah rfl) Tryz.func273 rfl rfl (by kernel_rfl) (Aai (l:=[]) (by kernel_rfl) trivial) (by decide) (by decide) (by decide) (fun R x C=>Be8 N R x C),Tryz.f273,Tryz.func273,rfl,by decide⟩
theorem Bov(N:Nat):Aar Tryz.prog 275 (Aoy N) :=
 ⟨C4i Tryz.lays169 Tryz.Builder_Extra_169,Tryz.f275,Tryz.func275,rfl,by decide⟩
theorem Ce5(N:Nat):Aay Tryz.prog (Cyd N):=⟨C09 rfl (Bif N) (Bcp N),B1p N,Bov N,trivial⟩
theorem Cof(N:Nat):Agw Tryz.prog 41 [] (sub Ax8 [1,1,1,0,1,0,0]) (Aab Ane (Blj N N)) :=
 Af9 (c:=sub Ax8 [1,1,1,0,1,0,0]) (dom:=(Aan [9])) mixed htt (Aag (Aak (Ce5 N))) (Aah rfl) (by kernel_rfl) (Aai (l:=[]) (by kernel_rfl) trivial) B2q (B:=(fun _ _ _=>none)) (Agw.none _ _ _ _) (fun _ _ _=>rfl) (fun R k x K=>Crp @Ab0 @Aa2 @Ahe N R (fun a0 a1 a2 a3=>Ahe N k a0 a1 a2 a3 (fun a b=>K .ret (Aaf A3o ((a,b,()),(())))) (fun a b=>K (.exit 0) (Aaf A3p ((a,(),()),(((),(),()),b,()))))) x K) N
theorem Cog(N:Nat):Ab1 Tryz.prog 41 [] (sub Ax8 [1,1,1,0,1,0]) (Aab Ane (Blj N N)):=(Cof N).frag
theorem B9n(N:Nat):Aar Tryz.prog 196 (Bv7 N) :=
 ⟨Aao (fn:=Tryz.f196) (c:=Ax8) (dom:=(Aan [9])) (rs:=[.tmp 2,.tmp 3]) mixed htt (Aag (Aak (Ce5 N))) (Aah rfl) Tryz.func196 rfl rfl (by kernel_rfl) (Aai (l:=[(9,sub Ax8 [1,1,1,0,1,0])]) (by kernel_rfl) ⟨⟨_,rfl,Cog N⟩,trivial⟩) (by decide) (by decide) (by decide) (fun R x C=>Cy4 @Ab0 @Aa2 @Ahe N R x C),Tryz.f196,Tryz.func196,rfl,by decide⟩
theorem Crz(N:Nat):Aay Tryz.prog (B2t N):=trivial
theorem Bzi(N:Nat):Aar Tryz.prog 197 (Bll N) :=
 ⟨Aao (fn:=Tryz.f197) (c:=B2s) (dom:=(Aan [])) (rs:=[.cell 0 218]) mixed htt (Aag (Aak (Crz N))) (Aah rfl) Tryz.func197 rfl rfl (by kernel_rfl) (Aai (l:=[]) (by kernel_rfl) trivial) (by decide) (by decide) (by decide) (fun R x C=>Crk N R x C),Tryz.f197,Tryz.func197,rfl,by decide⟩
theorem C2z(N:Nat):Aay Tryz.prog (Cjl N):=trivial
theorem Bi0(N:Nat):Aar Tryz.prog 277 (Bde N) :=
 ⟨Aao (fn:=Tryz.f277) (c:=Cjk) (dom:=(Aan [])) (rs:=[.tmp 6]) mixed htt (Aag (Aak (C2z N))) (Aah rfl) Tryz.func277 rfl rfl (by kernel_rfl) (Aai (l:=[]) (by kernel_rfl) trivial) (by decide) (by decide) (by decide) (fun R x C=>C2y N R x C),Tryz.f277,Tryz.func277,rfl,by decide⟩
theorem Cwy(N:Nat):Aay Tryz.prog (Cvh N):=⟨Bi0 N,trivial⟩
theorem B3d(N:Nat):Aar Tryz.prog 276 (Bqj N) :=
 ⟨Aao (fn:=Tryz.f276) (c:=B69) (dom:=(Aan [])) (rs:=[.tmp 2]) mixed htt (Aag (Aak (Cwy N))) (Aah rfl) Tryz.func276 rfl rfl (by kernel_rfl) (Aai (l:=[]) (by kernel_rfl) trivial) (by decide) (by decide) (by decide) (fun R x C=>Cwx @Abg N R x C),Tryz.f276,Tryz.func276,rfl,by decide⟩
theorem Bvi(N:Nat):Aay Tryz.prog (Cjn N):=⟨Bi0 N,B3d N,trivial⟩
theorem B44(N:Nat):Ab1 Tryz.prog 102 [] (sub Awz [1,1,1]) (Aab Aln (Bjk N)) :=
 Agn (dom:=(Aan [42])) mixed htt (Aag (Aak (Bvi N))) (Aah rfl) (by kernel_rfl) (Aai (l:=[]) (by kernel_rfl) trivial) Bjj (fun R x K=>B9g @Abg @Afy @Ab3 N R x K)
theorem Cg2(N:Nat):Aar Tryz.prog 198 (Buo N) :=
 ⟨Aao (fn:=Tryz.f198) (c:=Awz) (dom:=(Aan [42])) (rs:=[.tmp 6]) mixed htt (Aag (Aak (Bvi N))) (Aah rfl) Tryz.func198 rfl rfl (by kernel_rfl) (Aai (l:=[(42,sub Awz [1,1,1])]) (by kernel_rfl) ⟨⟨_,rfl,B44 N⟩,trivial⟩) (by decide) (by decide) (by decide) (fun R x C=>Ckb @Abg @Afy @Ab3 N R x C),Tryz.f198,Tryz.func198,rfl,by decide⟩
theorem Bzj(N:Nat):Aay Tryz.prog (Cmk N):=trivial
theorem Cdb(N:Nat):Agw Tryz.prog 74 [] (sub Ap0 [1,1,1,0,1,0,0]) (Aab Aj6 (Ba9 N N)) :=
 Af9 (c:=sub Ap0 [1,1,1,0,1,0,0]) (dom:=(Aan [9])) mixed htt (Aag (Aak (Bzj N))) (Aah rfl) (by kernel_rfl) (Aai (l:=[]) (by kernel_rfl) trivial) Bqm (B:=(fun _ _ _=>none)) (Agw.none _ _ _ _) (fun _ _ _=>rfl) (fun R k x K=>Cgl @Afq N R (fun a0 a1 a2 a3 a4 a5 a6 a7 a8 a9 a10 a11 a12=>Afq N k a0 a1 a2 a3 a4 a5 a6 a7 a8 a9 a10 a11 a12 (fun a b d=>K .ret (Aaf Aw3 (((),(),a,()),(b,d,())))) (fun a b d e f g h i j m=>K (.exit 0) (Aaf Aw4 (((),(),(),a,b,()),((d,e,f,g,h,i,()),j,m,()))))) x K) N
theorem Cdc(N:Nat):Ab1 Tryz.prog 74 [] (sub Ap0 [1,1,1,0,1,0]) (Aab Aj6 (Ba9 N N)):=(Cdb N).frag
theorem Bvj(N:Nat):Aar Tryz.prog 199 (Bhd N) :=
 ⟨Aao (fn:=Tryz.f199) (c:=Ap0) (dom:=(Aan [9])) (rs:=[.tmp 2,.tmp 3,.tmp 4]) mixed htt (Aag (Aak (Bzj N))) (Aah rfl) Tryz.func199 rfl rfl (by kernel_rfl) (Aai (l:=[(9,sub Ap0 [1,1,1,0,1,0])]) (by kernel_rfl) ⟨⟨_,rfl,Cdc N⟩,trivial⟩) (by decide) (by decide) (by decide) (fun R x C=>Cny @Afq N R x C),Tryz.f199,Tryz.func199,rfl,by decide⟩
theorem B9o(N:Nat):Aay Tryz.prog (Cvj N):=trivial
theorem Cg3(N:Nat):Ab1 Tryz.prog 39 [] (sub A4z [1,0,1,0,1]) (Aab Aoz (Buq N)) :=
 Agn (dom:=(Aan [12])) mixed htt (Aag (Aak (B9o N))) (Aah rfl) (by kernel_rfl) (Aai (l:=[]) (by kernel_rfl) trivial) Bup (fun R x K=>Ckd @Afu N R x K)
theorem B3e(N:Nat):Aar Tryz.prog 206 (Bqs N) :=
 ⟨Aao (fn:=Tryz.f206) (c:=A4z) (dom:=(Aan [12])) (rs:=[.tmp 4]) mixed htt (Aag (Aak (B9o N))) (Aah rfl) Tryz.func206 rfl rfl (by kernel_rfl) (Aai (l:=[(12,sub A4z [1,0,1,0,1])]) (by kernel_rfl) ⟨⟨_,rfl,Cg3 N⟩,trivial⟩) (by decide) (by decide) (by decide) (fun R x C=>Cwv @Afu N R x C),Tryz.f206,Tryz.func206,rfl,by decide⟩
theorem Bao(N:Nat):Aay Tryz.prog (Cqt N):=⟨B3e N,trivial⟩
theorem Cdd(N:Nat):Agw Tryz.prog 132 [] (sub Ahh [1,0,1,0,0,1,0,0,1,0,1,0,1,0,0,1,0,0]) (Aab Ah8 (Bbb N N)) :=
 Af9 (c:=sub Ahh [1,0,1,0,0,1,0,0,1,0,1,0,1,0,0,1,0,0]) (dom:=(Aan [17,44,5])) mixed htt (Aag (Aak (Bao N))) (Aah rfl) (by kernel_rfl) (Aai (l:=[]) (by kernel_rfl) trivial) Bqo (B:=(fun _ _ _=>none)) (Agw.none _ _ _ _) (fun _ _ _=>rfl) (fun R k x K=>Cgm @Ab5 @Ac6 @Abw @Aco N R (fun a0 a1 a2 a3=>Ac6 N k a0 a1 a2 a3 (fun a=>K .ret (Aaf Aw5 ((a,()),(())))) (fun a b=>K (.exit 3) (Aaf Aw6 ((a,b,()),(()))))) x K) N
theorem Cde(N:Nat):Ab1 Tryz.prog 132 [] (sub Ahh [1,0,1,0,0,1,0,0,1,0,1,0,1,0,0,1,0]) (Aab Ah8 (Bbb N N)):=(Cdd N).frag
theorem Cdf(N:Nat):Ab1 Tryz.prog 132 [] (sub Ahh [1,0,1,0,0,1,0,0,1,1]) (Aab Aj7 (Bqu N)) :=
 Agn (dom:=(Aan [17,44,5])) mixed htt (Aag (Aak (Bao N))) (Aah rfl) (by kernel_rfl) (Aai (l:=[]) (by kernel_rfl) trivial) Bqt (fun R x K=>Cg0 @Ab5 @Ac6 @Abw @Aco N R x K)
theorem Cg4(N:Nat):Agw Tryz.prog 132 [] (sub Ahh [1,0,1,0,0]) (Aab Aiu (Bdl N N)) :=
 Af9 (c:=sub Ahh [1,0,1,0,0]) (dom:=(Aan [17,44,5])) mixed htt (Aag (Aak (Bao N))) (Aah rfl) (by kernel_rfl) (Aai (l:=[(17,sub Ahh [1,0,1,0,0,1,0,0,1,0,1,0,1,0,0,1,0]),(44,sub Ahh [1,0,1,0,0,1,0,0,1,1])]) (by kernel_rfl) ⟨⟨_,rfl,Cde N⟩,⟨_,rfl,Cdf N⟩,trivial⟩) Bur (B:=(fun _ _ _=>none)) (Agw.none _ _ _ _) (fun _ _ _=>rfl) (fun R k x K=>Cj9 @Ab5 @Ac6 @Abw @Aco N R (fun a0 a1=>Aco N k a0 a1 (fun a=>K .ret (Aaf Ayo ((a,()),(())))) (fun a=>K (.exit 0) (Aaf Ayp ((a,()),(()))))) x K) N
theorem Cg5(N:Nat):Ab1 Tryz.prog 132 [] (sub Ahh [1,0,1,0]) (Aab Aiu (Bdl N N)):=(Cg4 N).frag
theorem Coh(N:Nat):Aar Tryz.prog 200 (B2u N) :=
 ⟨Aao (fn:=Tryz.f200) (c:=Ahh) (dom:=(Aan [17,44,5])) (rs:=[.tmp 2]) mixed htt (Aag (Aak (Bao N))) (Aah rfl) Tryz.func200 rfl rfl (by kernel_rfl) (Aai (l:=[(5,sub Ahh [1,0,1,0])]) (by kernel_rfl) ⟨⟨_,rfl,Cg5 N⟩,trivial⟩) (by decide) (by decide) (by decide) (fun R x C=>Crl @Ab5 @Ac6 @Abw @Aco N R x C),Tryz.f200,Tryz.func200,rfl,by decide⟩
theorem Ckl(N:Nat):Aay Tryz.prog (Cjq N):=⟨B3d N,trivial⟩
theorem Cg6(N:Nat):Aar Tryz.prog 279 (Buu N) :=
 ⟨Aao (fn:=Tryz.f279) (c:=But) (dom:=(Aan [])) (rs:=[.tmp 2]) mixed htt (Aag (Aak (Ckl N))) (Aah rfl) Tryz.func279 rfl rfl (by kernel_rfl) (Aai (l:=[]) (by kernel_rfl) trivial) (by decide) (by decide) (by decide) (fun R x C=>Ckf @Afy N R x C),Tryz.f279,Tryz.func279,rfl,by decide⟩
theorem A18(N:Nat):Aay Tryz.prog (Blp N):=⟨Cg6 N,trivial⟩
theorem Bfl(N:Nat):Agw Tryz.prog 19 [] (sub Ahi [1,0,1,0,0]) (Aab Aev (Ap5 N N)) :=
 Af9 (c:=sub Ahi [1,0,1,0,0]) (dom:=(Aan [5])) mixed htt (Aag (Aak (A18 N))) (Aah rfl) (by kernel_rfl) (Aai (l:=[]) (by kernel_rfl) trivial) Azi (B:=(fun _ _ _=>none)) (Agw.none _ _ _ _) (fun _ _ _=>rfl) (fun R k x K=>Bie @Agp @Abj N R (fun a0 a1 a2=>Abj N k a0 a1 a2 (fun a=>K .ret (Aaf Alc ((a,()),(())))) (K (.exit 0) (Aaf Ald ((()),(()))))) x K) N
theorem Bfm(N:Nat):Ab1 Tryz.prog 19 [] (sub Ahi [1,0,1,0]) (Aab Aev (Ap5 N N)):=(Bfl N).frag
theorem Bky(N:Nat):Aar Tryz.prog 302 (A12 N) :=
 ⟨Aao (fn:=Tryz.f302) (c:=Ahi) (dom:=(Aan [5])) (rs:=[.tmp 4]) mixed htt (Aag (Aak (A18 N))) (Aah rfl) Tryz.func302 rfl rfl (by kernel_rfl) (Aai (l:=[(5,sub Ahi [1,0,1,0])]) (by kernel_rfl) ⟨⟨_,rfl,Bfm N⟩,trivial⟩) (by decide) (by decide) (by decide) (fun R x C=>Bmj @Agp @Abj N R x C),Tryz.f302,Tryz.func302,rfl,by decide⟩
theorem Bfn(N:Nat):Aay Tryz.prog (Bfj N):=⟨Bky N,trivial⟩
theorem Bfa(N:Nat):Aar Tryz.prog 278 (Ayj N) :=
 ⟨Aao (fn:=Tryz.f278) (c:=Ayi) (dom:=(Aan [])) (rs:=[.tmp 4]) mixed htt (Aag (Aak (Bfn N))) (Aah rfl) Tryz.func278 rfl rfl (by kernel_rfl) (Aai (l:=[]) (by kernel_rfl) trivial) (by decide) (by decide) (by decide) (fun R x C=>Bfk @Ads N R x C),Tryz.f278,Tryz.func278,rfl,by decide⟩
theorem Bmk(N:Nat):Aay Tryz.prog (Cqx N):=⟨B9n N,Bfa N,Bi0 N,trivial⟩
theorem Cdg(N:Nat):Agw Tryz.prog 78 [] (sub Aji [1,1,1,0,1,0,0]) (Aab Aix (Bbe N N)) :=
 Af9 (c:=sub Aji [1,1,1,0,1,0,0]) (dom:=(Aan [5,27])) mixed htt (Aag (Aak (Bmk N))) (Aah rfl) (by kernel_rfl) (Aai (l:=[]) (by kernel_rfl) trivial) Bqv (B:=(fun _ _ _=>none)) (Agw.none _ _ _ _) (fun _ _ _=>rfl) (fun R k x K=>Cgx @Adf @Abc @Abg @Aeq @Ado N R (fun a0 a1 a2 a3 a4 a5 a6 a7 a8 a9=>Ado N k a0 a1 a2 a3 a4 a5 a6 a7 a8 a9 (fun a=>K .ret (Aaf Axa ((a,()),(())))) (K (.exit 2) (Aaf Axb ((()),(()))))) x K) N
theorem Cdh(N:Nat):Ab1 Tryz.prog 78 [] (sub Aji [1,1,1,0,1,0]) (Aab Aix (Bbe N N)):=(Cdg N).frag
theorem Cg7(N:Nat):Agw Tryz.prog 78 [] (sub Aji [1,0,1,0,0]) (Aab Ajx (Bdq N N)) :=
 Af9 (c:=sub Aji [1,0,1,0,0]) (dom:=(Aan [5,27])) mixed htt (Aag (Aak (Bmk N))) (Aah rfl) (by kernel_rfl) (Aai (l:=[]) (by kernel_rfl) trivial) Buv (B:=(fun _ _ _=>none)) (Agw.none _ _ _ _) (fun _ _ _=>rfl) (fun R k x K=>Ckj @Adf @Abc @Abg @Aeq @Ado N R (fun a0 a1 a2 a3 a4 a5 a6 a7 a8=>Aeq N k a0 a1 a2 a3 a4 a5 a6 a7 a8 (fun a=>K .ret (Aaf Ayr ((a,()),(())))) (fun a b d e f g=>K (.exit 0) (Aaf Ays (((),()),((a,b,d,e,f,g,()),()))))) x K) N
theorem Cg8(N:Nat):Ab1 Tryz.prog 78 [] (sub Aji [1,0,1,0]) (Aab Ajx (Bdq N N)):=(Cg7 N).frag
theorem Coi(N:Nat):Aar Tryz.prog 201 (B2v N) :=
 ⟨Aao (fn:=Tryz.f201) (c:=Aji) (dom:=(Aan [5,27])) (rs:=[.tmp 2]) mixed htt (Aag (Aak (Bmk N))) (Aah rfl) Tryz.func201 rfl rfl (by kernel_rfl) (Aai (l:=[(5,sub Aji [1,0,1,0]),(27,sub Aji [1,1,1,0,1,0])]) (by kernel_rfl) ⟨⟨_,rfl,Cg8 N⟩,⟨_,rfl,Cdh N⟩,trivial⟩) (by decide) (by decide) (by decide) (fun R x C=>Crg @Adf @Abc @Abg @Aeq @Ado N R x C),Tryz.f201,Tryz.func201,rfl,by decide⟩
theorem B3f(N:Nat):Aay Tryz.prog (Cqz N):=trivial
theorem Cdi(N:Nat):Ab1 Tryz.prog 17 [] (sub A14 [1,0,1,0,1]) (Aab Anq (Bqy N)) :=
 Agn (dom:=(Aan [14])) mixed htt (Aag (Aak (B3f N))) (Aah rfl) (by kernel_rfl) (Aai (l:=[]) (by kernel_rfl) trivial) Bqx (fun R x K=>Cgr @Aew N R x K)
theorem Bzk(N:Nat):Aar Tryz.prog 202 (Blu N) :=
 ⟨Aao (fn:=Tryz.f202) (c:=A14) (dom:=(Aan [14])) (rs:=[.tmp 2]) mixed htt (Aag (Aak (B3f N))) (Aah rfl) Tryz.func202 rfl rfl (by kernel_rfl) (Aai (l:=[(14,sub A14 [1,0,1,0,1])]) (by kernel_rfl) ⟨⟨_,rfl,Cdi N⟩,trivial⟩) (by decide) (by decide) (by decide) (fun R x C=>Cro @Aew N R x C),Tryz.f202,Tryz.func202,rfl,by decide⟩
theorem Bap(N:Nat):Aay Tryz.prog (Cq1 N):=⟨B9n N,Bzi N,Cg2 N,Bvj N,Coh N,Coi N,Bzk N,trivial⟩
theorem Cdj(N:Nat):Ab1 Tryz.prog 111 [] (sub Ahg [1,1,1,1,1,1,1,0,1,0,0,1,1,0,0,1,1]) (Aab Aj8 (Bq0 N)) :=
 Agn (dom:=(Aan [13,40,33])) mixed htt (Aag (Aak (Bap N))) (Aah rfl) (by kernel_rfl) (Aai (l:=[]) (by kernel_rfl) trivial) Bqz (fun R x K=>Cgk @Adf @Acp @Ad8 @Ab6 @Afe @Aff @Aca @Ade @Adp @Ac7 N R x K)
theorem Cdk(N:Nat):Agw Tryz.prog 111 [] (sub Ahg [1,1,1,1,1,1,1,0,1,0,0]) (Aab Ah9 (Bbj N N)) :=
 Af9 (c:=sub Ahg [1,1,1,1,1,1,1,0,1,0,0]) (dom:=(Aan [13,40,33])) mixed htt (Aag (Aak (Bap N))) (Aah rfl) (by kernel_rfl) (Aai (l:=[(40,sub Ahg [1,1,1,1,1,1,1,0,1,0,0,1,1,0,0,1,1])]) (by kernel_rfl) ⟨⟨_,rfl,Cdj N⟩,trivial⟩) Bq1 (B:=(fun _ _ _=>none)) (Agw.none _ _ _ _) (fun _ _ _=>rfl) (fun R k x K=>Cgw @Adf @Acp @Ad8 @Ab6 @Afe @Aff @Aca @Ade @Adp @Ac7 N R (fun a0 a1 a2 a3 a4 a5=>Ac7 N k a0 a1 a2 a3 a4 a5 (fun a=>K .ret (Aaf Axc ((a,()),(())))) (K (.exit 2) (Aaf Axd ((()),(()))))) x K) N
theorem Cdl(N:Nat):Ab1 Tryz.prog 111 [] (sub Ahg [1,1,1,1,1,1,1,0,1,0]) (Aab Ah9 (Bbj N N)):=(Cdk N).frag
theorem Cdm(N:Nat):Agw Tryz.prog 111 [] (sub Ahg [1,1,1,0,1,0,0]) (Aab Ah7 (Ba5 N N)) :=
 Af9 (c:=sub Ahg [1,1,1,0,1,0,0]) (dom:=(Aan [13,40,33])) mixed htt (Aag (Aak (Bap N))) (Aah rfl) (by kernel_rfl) (Aai (l:=[]) (by kernel_rfl) trivial) Bqk (B:=(fun _ _ _=>none)) (Agw.none _ _ _ _) (fun _ _ _=>rfl) (fun R k x K=>Cgv @Adf @Acp @Ad8 @Ab6 @Afe @Aff @Aca @Ade @Adp @Ac7 N R (fun a0 a1 a2 a3 a4 a5 a6 a7 a8 a9=>Ade N k a0 a1 a2 a3 a4 a5 a6 a7 a8 a9 (fun a=>K .ret (Aaf Aw1 ((a,()),(())))) (fun a b d e f g=>K (.exit 0) (Aaf Aw2 (((),()),((a,b,d,e,f,g,()),()))))) x K) N
theorem Cdn(N:Nat):Ab1 Tryz.prog 111 [] (sub Ahg [1,1,1,0,1,0]) (Aab Ah7 (Ba5 N N)):=(Cdm N).frag
theorem Coj(N:Nat):Aar Tryz.prog 133 (B2x N) :=
 ⟨Aao (fn:=Tryz.f133) (c:=Ahg) (dom:=(Aan [13,40,33])) (rs:=[.tmp 2]) mixed htt (Aag (Aak (Bap N))) (Aah rfl) Tryz.func133 rfl rfl (by kernel_rfl) (Aai (l:=[(13,sub Ahg [1,1,1,0,1,0]),(33,sub Ahg [1,1,1,1,1,1,1,0,1,0])]) (by kernel_rfl) ⟨⟨_,rfl,Cdn N⟩,⟨_,rfl,Cdl N⟩,trivial⟩) (by decide) (by decide) (by decide) (fun R x C=>Crw @Adf @Acp @Ad8 @Ab6 @Afe @Aff @Aca @Ade @Adp @Ac7 N R x C),Tryz.f133,Tryz.func133,rfl,by decide⟩
theorem Bs3(N:Nat):Aay Tryz.prog (Cvl N):=⟨Bi0 N,trivial⟩
theorem Ckm(N:Nat):Ab1 Tryz.prog 55 [] (sub Aqz [1,0,1,0,1]) (Aab Anv (Bx0 N)) :=
 Agn (dom:=(Aan [8,30])) mixed htt (Aag (Aak (Bs3 N))) (Aah rfl) (by kernel_rfl) (Aai (l:=[]) (by kernel_rfl) trivial) Bxz (fun R x K=>Cnw @Abg @Agh @Afi N R x K)
theorem Cg9(N:Nat):Ab1 Tryz.prog 55 [] (sub Aqz [1,1]) (Aab Amw (Buy N)) :=
 Agn (dom:=(Aan [8,30])) mixed htt (Aag (Aak (Bs3 N))) (Aah rfl) (by kernel_rfl) (Aai (l:=[]) (by kernel_rfl) trivial) Bux (fun R x K=>Ckh @Abg @Agh @Afi N R x K)
theorem Cr0(N:Nat):Aar Tryz.prog 203 (B7a N) :=
 ⟨Aao (fn:=Tryz.f203) (c:=Aqz) (dom:=(Aan [8,30])) (rs:=[.tmp 8]) mixed htt (Aag (Aak (Bs3 N))) (Aah rfl) Tryz.func203 rfl rfl (by kernel_rfl) (Aai (l:=[(8,sub Aqz [1,0,1,0,1]),(30,sub Aqz [1,1])]) (by kernel_rfl) ⟨⟨_,rfl,Ckm N⟩,⟨_,rfl,Cg9 N⟩,trivial⟩) (by decide) (by decide) (by decide) (fun R x C=>Cwu @Abg @Agh @Afi N R x C),Tryz.f203,Tryz.func203,rfl,by decide⟩
theorem Bml(N:Nat):Aay Tryz.prog (Cq3 N):=trivial
theorem Cdo(N:Nat):Ab1 Tryz.prog 32 [] (sub Apf [1,0,1,0,1]) (Aab Alr (Bq7 N)) :=
 Agn (dom:=(Aan [16,18])) mixed htt (Aag (Aak (Bml N))) (Aah rfl) (by kernel_rfl) (Aai (l:=[]) (by kernel_rfl) trivial) Bq6 (fun R x K=>Cgq @Aex @Afa N R x K)
theorem Cdp(N:Nat):Ab1 Tryz.prog 32 [] (sub Apf [1,1]) (Aab Als (Bq9 N)) :=
 Agn (dom:=(Aan [16,18])) mixed htt (Aag (Aak (Bml N))) (Aah rfl) (by kernel_rfl) (Aai (l:=[]) (by kernel_rfl) trivial) Bq8 (fun R x K=>Cgt @Aex @Afa N R x K)
theorem Cok(N:Nat):Aar Tryz.prog 204 (B2y N) :=
 ⟨Aao (fn:=Tryz.f204) (c:=Apf) (dom:=(Aan [16,18])) (rs:=[.tmp 6]) mixed htt (Aag (Aak (Bml N))) (Aah rfl) Tryz.func204 rfl rfl (by kernel_rfl) (Aai (l:=[(16,sub Apf [1,0,1,0,1]),(18,sub Apf [1,1])]) (by kernel_rfl) ⟨⟨_,rfl,Cdo N⟩,⟨_,rfl,Cdp N⟩,trivial⟩) (by decide) (by decide) (by decide) (fun R x C=>Crn @Aex @Afa N R x C),Tryz.f204,Tryz.func204,rfl,by decide⟩
theorem B3g(N:Nat):Aay Tryz.prog (Cq5 N):=trivial
theorem Cha(N:Nat):Agw Tryz.prog 14 [] (sub Ar7 [1,0,0,0]) (Aab Ale (Bdu N N)) :=
 Af9 (c:=sub Ar7 [1,0,0,0]) (dom:=(Aan [3])) mixed htt (Aag (Aak (B3g N))) (Aah rfl) (by kernel_rfl) (Aai (l:=[]) (by kernel_rfl) trivial) Buz (B:=(fun _ _ _=>none)) (Agw.none _ _ _ _) (fun _ _ _=>rfl) (fun R k x K=>Cj6 @Af6 N R (fun a0 a1=>Af6 N k a0 a1 (fun a=>K (.exit 0) (Aaf Ayt ((a,()),(()))))) x K) N
theorem Chb(N:Nat):Ab1 Tryz.prog 14 [] (sub Ar7 [1,0,0]) (Aab Ale (Bdu N N)):=(Cha N).frag
theorem Col(N:Nat):Aar Tryz.prog 205 (B2z N) :=
 ⟨Aao (fn:=Tryz.f205) (c:=Ar7) (dom:=(Aan [3])) (rs:=[.tmp 4]) mixed htt (Aag (Aak (B3g N))) (Aah rfl) Tryz.func205 rfl rfl (by kernel_rfl) (Aai (l:=[(3,sub Ar7 [1,0,0])]) (by kernel_rfl) ⟨⟨_,rfl,Chb N⟩,trivial⟩) (by decide) (by decide) (by decide) (fun R x C=>Crv @Af6 N R x C),Tryz.f205,Tryz.func205,rfl,by decide⟩
theorem Bvk(N:Nat):Aay Tryz.prog (Cjt N):=⟨Bzi N,Bvj N,Cr0 N,Cok N,Bzk N,Col N,B3e N,trivial⟩
theorem B45(N:Nat):Agw Tryz.prog 114 [] (sub Ao0 [1,1,1,1,0,1,0,0]) (Aab Aiv (A5b N N)) :=
 Af9 (c:=sub Ao0 [1,1,1,1,0,1,0,0]) (dom:=(Aan [11])) mixed htt (Aag (Aak (Bvk N))) (Aah rfl) (by kernel_rfl) (Aai (l:=[]) (by kernel_rfl) trivial) Bjl (B:=(fun _ _ _=>none)) (Agw.none _ _ _ _) (fun _ _ _=>rfl) (fun R k x K=>B84 @Acp @Ab6 @Ag7 @Agr @Aca @Ad9 @Ab5 @Adr N R (fun a0 a1 a2 a3 a4 a5 a6 a7 a8 a9 a10 a11=>Adr N k a0 a1 a2 a3 a4 a5 a6 a7 a8 a9 a10 a11 (fun a=>K .ret (Aaf Asr ((a,()),(())))) (K (.exit 0) (Aaf Ass ((()),(()))))) x K) N
theorem B46(N:Nat):Ab1 Tryz.prog 114 [] (sub Ao0 [1,1,1,1,0,1,0]) (Aab Aiv (A5b N N)):=(B45 N).frag
theorem Chc(N:Nat):Aar Tryz.prog 134 (Bu2 N) :=
 ⟨Aao (fn:=Tryz.f134) (c:=Ao0) (dom:=(Aan [11])) (rs:=[.tmp 2]) mixed htt (Aag (Aak (Bvk N))) (Aah rfl) Tryz.func134 rfl rfl (by kernel_rfl) (Aai (l:=[(11,sub Ao0 [1,1,1,1,0,1,0])]) (by kernel_rfl) ⟨⟨_,rfl,B46 N⟩,trivial⟩) (by decide) (by decide) (by decide) (fun R x C=>Ckg @Acp @Ab6 @Ag7 @Agr @Aca @Ad9 @Ab5 @Adr N R x C),Tryz.f134,Tryz.func134,rfl,by decide⟩
theorem Cr1(N:Nat):Aay Tryz.prog (Cq7 N):=⟨Cod N,Coj N,Chc N,trivial⟩
theorem Bzl(N:Nat):Aar Tryz.prog 77 (Bl5 N) :=
 ⟨Aao (fn:=Tryz.f77) (c:=B2n) (dom:=(Aan [])) (rs:=[.tmp 2]) mixed htt (Aag (Aak (Cr1 N))) (Aah rfl) Tryz.func77 rfl rfl (by kernel_rfl) (Aai (l:=[]) (by kernel_rfl) trivial) (by decide) (by decide) (by decide) (fun R x C=>Crh @Ako @Akp @Ain N R x C),Tryz.f77,Tryz.func77,rfl,by decide⟩
theorem Ce6(N:Nat):Aay Tryz.prog (Cyf N):=trivial
theorem Com(N:Nat):Ab1 Tryz.prog 37 [] (sub A9g [1,0,1,0,1]) (Aab Ar8 (B21 N)) :=
 Agn (dom:=(Aan [8])) mixed htt (Aag (Aak (Ce6 N))) (Aah rfl) (by kernel_rfl) (Aai (l:=[]) (by kernel_rfl) trivial) B20 (fun R x K=>Crt @Aih N R x K)
theorem Cwz(N:Nat):Aar Tryz.prog 40 (Cel N) :=
 ⟨Aao (fn:=Tryz.f40) (c:=A9g) (dom:=(Aan [8])) (rs:=[.tmp 4]) mixed htt (Aag (Aak (Ce6 N))) (Aah rfl) Tryz.func40 rfl rfl (by kernel_rfl) (Aai (l:=[(8,sub A9g [1,0,1,0,1])]) (by kernel_rfl) ⟨⟨_,rfl,Com N⟩,trivial⟩) (by decide) (by decide) (by decide) (fun R x C=>Cyz @Aih N R x C),Tryz.f40,Tryz.func40,rfl,by decide⟩
theorem Con(N:Nat):Aay Tryz.prog (Cmn N):=⟨Cwz N,trivial⟩
theorem Ckn(N:Nat):Aar Tryz.prog 39 (Bx2 N) :=
 ⟨Aao (fn:=Tryz.f39) (c:=Bx1) (dom:=(Aan [])) (rs:=[.tmp 3]) mixed htt (Aag (Aak (Con N))) (Aah rfl) Tryz.func39 rfl rfl (by kernel_rfl) (Aai (l:=[]) (by kernel_rfl) trivial) (by decide) (by decide) (by decide) (fun R x C=>Cnt @Anw N R x C),Tryz.f39,Tryz.func39,rfl,by decide⟩
theorem Coo(N:Nat):Aay Tryz.prog (Bx5 N):=trivial
theorem Cko(N:Nat):Aar Tryz.prog 41 (Bx4 N) :=
 ⟨Aao (fn:=Tryz.f41) (c:=Bx3) (dom:=(Aan [])) (rs:=[.tmp 3]) mixed htt (Aag (Aak (Coo N))) (Aah rfl) Tryz.func41 rfl rfl (by kernel_rfl) (Aai (l:=[]) (by kernel_rfl) trivial) (by decide) (by decide) (by decide) (fun R x C=>Cnu N R x C),Tryz.f41,Tryz.func41,rfl,by decide⟩
theorem Bs4(N:Nat):Aay Tryz.prog (Cvn N):=⟨Bzl N,Ckn N,Cko N,trivial⟩
theorem Chd(N:Nat):Agw Tryz.prog 123 [] (sub Ake [1,1,1,1,1,1,0,1,0,0]) (Aab Ajy (Bd1 N N)) :=
 Af9 (c:=sub Ake [1,1,1,1,1,1,0,1,0,0]) (dom:=(Aan [11,35])) mixed htt (Aag (Aak (Bs4 N))) (Aah rfl) (by kernel_rfl) (Aai (l:=[]) (by kernel_rfl) trivial) Bu3 (B:=(fun _ _ _=>none)) (Agw.none _ _ _ _) (fun _ _ _=>rfl) (fun R k x K=>Cj8 @Adg @Aeb @Agi @Aep @Aer N R (fun a0 a1 a2 a3 a4 a5 a6 a7 a8 a9 a10 a11 a12=>Aer N k a0 a1 a2 a3 a4 a5 a6 a7 a8 a9 a10 a11 a12 (fun a b d e f g h=>K .ret (Aaf Ayv ((a,b,()),((d,e,f,g,h,()),())))) (fun a b d e f=>K (.exit 3) (Aaf Ayw ((()),((a,b,d,e,f,()),()))))) x K) N
theorem Che(N:Nat):Ab1 Tryz.prog 123 [] (sub Ake [1,1,1,1,1,1,0,1,0]) (Aab Ajy (Bd1 N N)):=(Chd N).frag
theorem Chf(N:Nat):Agw Tryz.prog 123 [] (sub Ake [1,1,1,0,1,0,0]) (Aab Ajw (Bc9 N N)) :=
 Af9 (c:=sub Ake [1,1,1,0,1,0,0]) (dom:=(Aan [11,35])) mixed htt (Aag (Aak (Bs4 N))) (Aah rfl) (by kernel_rfl) (Aai (l:=[]) (by kernel_rfl) trivial) Bum (B:=(fun _ _ _=>none)) (Agw.none _ _ _ _) (fun _ _ _=>rfl) (fun R k x K=>Cj7 @Adg @Aeb @Agi @Aep @Aer N R (fun a0 a1 a2 a3 a4 a5 a6 a7 a8 a9 a10 a11 a12 a13 a14 a15 a16 a17=>Aep N k a0 a1 a2 a3 a4 a5 a6 a7 a8 a9 a10 a11 a12 a13 a14 a15 a16 a17 (fun a b d e f g h i j m n o p q r s=>K (.exit 0) (Aaf Aym (((),(),(),(),()),((a,b,d,e,f,()),(g,h,i,j,m,()),(n,o,(),p,q,r,()),s,()))))) x K) N
theorem Chh(N:Nat):Ab1 Tryz.prog 123 [] (sub Ake [1,1,1,0,1,0]) (Aab Ajw (Bc9 N N)):=(Chf N).frag
theorem Cr2(N:Nat):Aar Tryz.prog 38 (B7b N) :=
 ⟨Aao (fn:=Tryz.f38) (c:=Ake) (dom:=(Aan [11,35])) (rs:=[.tmp 6,.tmp 7]) mixed htt (Aag (Aak (Bs4 N))) (Aah rfl) Tryz.func38 rfl rfl (by kernel_rfl) (Aai (l:=[(11,sub Ake [1,1,1,0,1,0]),(35,sub Ake [1,1,1,1,1,1,0,1,0])]) (by kernel_rfl) ⟨⟨_,rfl,Chh N⟩,⟨_,rfl,Che N⟩,trivial⟩) (by decide) (by decide) (by decide) (fun R x C=>Cwp @Adg @Aeb @Agi @Aep @Aer N R x C),Tryz.f38,Tryz.func38,rfl,by decide⟩
theorem Cw0(N:Nat):Aay Tryz.prog (B7e N):=trivial
theorem Cr3(N:Nat):Aar Tryz.prog 42 (B7d N) :=
 ⟨Aao (fn:=Tryz.f42) (c:=B7c) (dom:=(Aan [])) (rs:=[.tmp 2]) mixed htt (Aag (Aak (Cw0 N))) (Aah rfl) Tryz.func42 rfl rfl (by kernel_rfl) (Aai (l:=[]) (by kernel_rfl) trivial) (by decide) (by decide) (by decide) (fun R x C=>Cwm N R x C),Tryz.f42,Tryz.func42,rfl,by decide⟩
theorem Cop(N:Nat):Aay Tryz.prog (Bx8 N):=trivial
theorem Ckp(N:Nat):Aar Tryz.prog 78 (Bx7 N) :=
 ⟨Aao (fn:=Tryz.f78) (c:=Bx6) (dom:=(Aan [])) (rs:=[.tmp 2]) mixed htt (Aag (Aak (Cop N))) (Aah rfl) Tryz.func78 rfl rfl (by kernel_rfl) (Aai (l:=[]) (by kernel_rfl) trivial) (by decide) (by decide) (by decide) (fun R x C=>Cnv N R x C),Tryz.f78,Tryz.func78,rfl,by decide⟩
theorem Bi1(N:Nat):Aay Tryz.prog (Cyh N):=trivial
theorem Ckq(N:Nat):Ab1 Tryz.prog 57 [] (sub Anb [1,0,1,0,1,1,1,1,1,1,1]) (Aab Ama (Byb N)) :=
 Agn (dom:=(Aan [24,18,12])) mixed htt (Aag (Aak (Bi1 N))) (Aah rfl) (by kernel_rfl) (Aai (l:=[]) (by kernel_rfl) trivial) Bya (fun R x K=>Cnx @Ae0 @Afg @Afh N R x K)
theorem Ckr(N:Nat):Ab1 Tryz.prog 57 [] (sub Anb [1,0,1,0,1,1,1,1,1]) (Aab Amb (Byd N)) :=
 Agn (dom:=(Aan [24,18,12])) mixed htt (Aag (Aak (Bi1 N))) (Aah rfl) (by kernel_rfl) (Aai (l:=[(24,sub Anb [1,0,1,0,1,1,1,1,1,1,1])]) (by kernel_rfl) ⟨⟨_,rfl,Ckq N⟩,trivial⟩) Byc (fun R x K=>Cn1 @Ae0 @Afg @Afh N R x K)
theorem Cks(N:Nat):Ab1 Tryz.prog 57 [] (sub Anb [1,0,1,0,1,1,1]) (Aab Amc (Byf N)) :=
 Agn (dom:=(Aan [24,18,12])) mixed htt (Aag (Aak (Bi1 N))) (Aah rfl) (by kernel_rfl) (Aai (l:=[(18,sub Anb [1,0,1,0,1,1,1,1,1])]) (by kernel_rfl) ⟨⟨_,rfl,Ckr N⟩,trivial⟩) Bye (fun R x K=>Cnq @Ae0 @Afg @Afh N R x K)
theorem Cw1(N:Nat):Aar Tryz.prog 135 (Cen N) :=
 ⟨Aao (fn:=Tryz.f135) (c:=Anb) (dom:=(Aan [24,18,12])) (rs:=[.tmp 6]) mixed htt (Aag (Aak (Bi1 N))) (Aah rfl) Tryz.func135 rfl rfl (by kernel_rfl) (Aai (l:=[(12,sub Anb [1,0,1,0,1,1,1])]) (by kernel_rfl) ⟨⟨_,rfl,Cks N⟩,trivial⟩) (by decide) (by decide) (by decide) (fun R x C=>Cy6 @Ae0 @Afg @Afh N R x C),Tryz.f135,Tryz.func135,rfl,by decide⟩
theorem B9p(N:Nat):Aay Tryz.prog (B7g N):=⟨Cw1 N,trivial⟩
theorem B47(N:Nat):Aar Tryz.prog 80 (Bjo N) :=
 ⟨Aao (fn:=Tryz.f80) (c:=Bjm) (dom:=(Aan [])) (rs:=[.tmp 4]) mixed htt (Aag (Aak (B9p N))) (Aah rfl) Tryz.func80 rfl rfl (by kernel_rfl) (Aai (l:=[]) (by kernel_rfl) trivial) (by decide) (by decide) (by decide) (fun R x C=>B9a @An1 N R x C),Tryz.f80,Tryz.func80,rfl,by decide⟩
theorem Coq(N:Nat):Aay Tryz.prog (Cmy N):=⟨B47 N,trivial⟩
theorem Bvl(N:Nat):Aar Tryz.prog 79 (Bhn N) :=
 ⟨Aao (fn:=Tryz.f79) (c:=Bx9) (dom:=(Aan [])) (rs:=[.tmp 3]) mixed htt (Aag (Aak (Coq N))) (Aah rfl) Tryz.func79 rfl rfl (by kernel_rfl) (Aai (l:=[]) (by kernel_rfl) trivial) (by decide) (by decide) (by decide) (fun R x C=>Cn5 @Ahj N R x C),Tryz.f79,Tryz.func79,rfl,by decide⟩
theorem B9q(N:Nat):Aay Tryz.prog (Bjq N):=trivial
theorem A3d(N:Nat):Aar Tryz.prog 82 (Axi N) :=
 ⟨Aao (fn:=Tryz.f82) (c:=Bjp) (dom:=(Aan [])) (rs:=[.tmp 4]) mixed htt (Aag (Aak (B9q N))) (Aah rfl) Tryz.func82 rfl rfl (by kernel_rfl) (Aai (l:=[]) (by kernel_rfl) trivial) (by decide) (by decide) (by decide) (fun R x C=>B9c N R x C),Tryz.f82,Tryz.func82,rfl,by decide⟩
theorem Cor(N:Nat):Aay Tryz.prog (Cm0 N):=⟨A3d N,trivial⟩
theorem Ckt(N:Nat):Aar Tryz.prog 81 (Byh N) :=
 ⟨Aao (fn:=Tryz.f81) (c:=Byg) (dom:=(Aan [])) (rs:=[.tmp 3]) mixed htt (Aag (Aak (Cor N))) (Aah rfl) Tryz.func81 rfl rfl (by kernel_rfl) (Aai (l:=[]) (by kernel_rfl) trivial) (by decide) (by decide) (by decide) (fun R x C=>Cn6 @Abr N R x C),Tryz.f81,Tryz.func81,rfl,by decide⟩
theorem Cos(N:Nat):Aay Tryz.prog (Cm2 N):=⟨Bvl N,trivial⟩
theorem Cku(N:Nat):Aar Tryz.prog 83 (Byj N) :=
 ⟨Aao (fn:=Tryz.f83) (c:=Byi) (dom:=(Aan [])) (rs:=[.tmp 3]) mixed htt (Aag (Aak (Cos N))) (Aah rfl) Tryz.func83 rfl rfl (by kernel_rfl) (Aai (l:=[]) (by kernel_rfl) trivial) (by decide) (by decide) (by decide) (fun R x C=>Cn7 @Abd N R x C),Tryz.f83,Tryz.func83,rfl,by decide⟩
theorem Cot(N:Nat):Aay Tryz.prog (Bym N):=trivial
theorem Ckv(N:Nat):Aar Tryz.prog 84 (Byl N) :=
 ⟨Aao (fn:=Tryz.f84) (c:=Byk) (dom:=(Aan [])) (rs:=[.tmp 2]) mixed htt (Aag (Aak (Cot N))) (Aah rfl) Tryz.func84 rfl rfl (by kernel_rfl) (Aai (l:=[]) (by kernel_rfl) trivial) (by decide) (by decide) (by decide) (fun R x C=>Cn8 N R x C),Tryz.f84,Tryz.func84,rfl,by decide⟩
theorem Cou(N:Nat):Aay Tryz.prog (Cm7 N):=⟨A3d N,trivial⟩
theorem Ckw(N:Nat):Aar Tryz.prog 85 (Byo N) :=
 ⟨Aao (fn:=Tryz.f85) (c:=Byn) (dom:=(Aan [])) (rs:=[.tmp 3]) mixed htt (Aag (Aak (Cou N))) (Aah rfl) Tryz.func85 rfl rfl (by kernel_rfl) (Aai (l:=[]) (by kernel_rfl) trivial) (by decide) (by decide) (by decide) (fun R x C=>Cn2 @Abr N R x C),Tryz.f85,Tryz.func85,rfl,by decide⟩
theorem Cov(N:Nat):Aay Tryz.prog (Cm9 N):=⟨A3d N,trivial⟩
theorem Ckx(N:Nat):Aar Tryz.prog 86 (Byq N) :=
 ⟨Aao (fn:=Tryz.f86) (c:=Byp) (dom:=(Aan [])) (rs:=[.tmp 3]) mixed htt (Aag (Aak (Cov N))) (Aah rfl) Tryz.func86 rfl rfl (by kernel_rfl) (Aai (l:=[]) (by kernel_rfl) trivial) (by decide) (by decide) (by decide) (fun R x C=>Cnr @Abr N R x C),Tryz.f86,Tryz.func86,rfl,by decide⟩
theorem Cow(N:Nat):Aay Tryz.prog (Byt N):=trivial
theorem Cky(N:Nat):Aar Tryz.prog 44 (Bys N) :=
 ⟨Aao (fn:=Tryz.f44) (c:=Byr) (dom:=(Aan [])) (rs:=[.tmp 2]) mixed htt (Aag (Aak (Cow N))) (Aah rfl) Tryz.func44 rfl rfl (by kernel_rfl) (Aai (l:=[]) (by kernel_rfl) trivial) (by decide) (by decide) (by decide) (fun R x C=>Cn0 N R x C),Tryz.f44,Tryz.func44,rfl,by decide⟩
theorem Bfb(N:Nat):Aay Tryz.prog (Cjv N):=⟨Cky N,trivial⟩
theorem B48(N:Nat):Agw Tryz.prog 77 [] (sub Ah5 [1,0,1,0,0,1,0,0,1,0,1,0,1,0,1,0,0]) (Aab Ah1 (A5h N N)) :=
 Af9 (c:=sub Ah5 [1,0,1,0,0,1,0,0,1,0,1,0,1,0,1,0,0]) (dom:=(Aan [17,5])) mixed htt (Aag (Aak (Bfb N))) (Aah rfl) (by kernel_rfl) (Aai (l:=[]) (by kernel_rfl) trivial) Bjr (B:=(fun _ _ _=>none)) (Agw.none _ _ _ _) (fun _ _ _=>rfl) (fun R k x K=>B89 @Agj @Acz @Ac8 N R (fun a0 a1 a2 a3 a4 a5 a6=>Acz N k a0 a1 a2 a3 a4 a5 a6 (fun a=>K .ret (Aaf Asv ((a,()),(())))) (fun a b d e f=>K (.exit 3) (Aaf Asw ((a,b,d,(),e,f,()),(()))))) x K) N
theorem B49(N:Nat):Ab1 Tryz.prog 77 [] (sub Ah5 [1,0,1,0,0,1,0,0,1,0,1,0,1,0,1,0]) (Aab Ah1 (A5h N N)):=(B48 N).frag
theorem B9r(N:Nat):Agw Tryz.prog 77 [] (sub Ah5 [1,0,1,0,0]) (Aab Aii (A8j N N)) :=
 Af9 (c:=sub Ah5 [1,0,1,0,0]) (dom:=(Aan [17,5])) mixed htt (Aag (Aak (Bfb N))) (Aah rfl) (by kernel_rfl) (Aai (l:=[(17,sub Ah5 [1,0,1,0,0,1,0,0,1,0,1,0,1,0,1,0])]) (by kernel_rfl) ⟨⟨_,rfl,B49 N⟩,trivial⟩) Bmw (B:=(fun _ _ _=>none)) (Agw.none _ _ _ _) (fun _ _ _=>rfl) (fun R k x K=>Ccu @Agj @Acz @Ac8 N R (fun a0 a1 a2 a3=>Ac8 N k a0 a1 a2 a3 (fun a=>K .ret (Aaf Avm ((a,()),(())))) (K (.exit 0) (Aaf Avn ((()),(()))))) x K) N
theorem B9s(N:Nat):Ab1 Tryz.prog 77 [] (sub Ah5 [1,0,1,0]) (Aab Aii (A8j N N)):=(B9r N).frag
theorem Chi(N:Nat):Aar Tryz.prog 43 (Bu6 N) :=
 ⟨Aao (fn:=Tryz.f43) (c:=Ah5) (dom:=(Aan [17,5])) (rs:=[.tmp 8]) mixed htt (Aag (Aak (Bfb N))) (Aah rfl) Tryz.func43 rfl rfl (by kernel_rfl) (Aai (l:=[(5,sub Ah5 [1,0,1,0])]) (by kernel_rfl) ⟨⟨_,rfl,B9s N⟩,trivial⟩) (by decide) (by decide) (by decide) (fun R x C=>Ckc @Agj @Acz @Ac8 N R x C),Tryz.f43,Tryz.func43,rfl,by decide⟩
theorem B9t(N:Nat):Aay Tryz.prog (Cvs N):=⟨Cr2 N,Cr3 N,Ckp N,Bvl N,Ckt N,Cku N,Ckv N,Ckw N,Ckx N,Chi N,trivial⟩
theorem Chj(N:Nat):Agw Tryz.prog 55 [] (sub Auj [1,1,1,1,0,1,0,0]) (Aab Alf (Bd5 N N)) :=
 Af9 (c:=sub Auj [1,1,1,1,0,1,0,0]) (dom:=(Aan [13])) mixed htt (Aag (Aak (B9t N))) (Aah rfl) (by kernel_rfl) (Aai (l:=[]) (by kernel_rfl) trivial) Bu5 (B:=(fun _ _ _=>none)) (Agw.none _ _ _ _) (fun _ _ _=>rfl) (fun R k x K=>Cki @Ajg @Aj9 @Aez @Abd @Afz @Agy @Agz @Ag0 @Ag1 @Af7 @Afv N R (fun a0 a1 a2 a3 a4 a5 a6 a7 a8 a9 a10 a11 a12 a13=>Afv N k a0 a1 a2 a3 a4 a5 a6 a7 a8 a9 a10 a11 a12 a13 (fun a=>K .ret (Aaf Ayx ((a,()),(())))) (fun a b d e f g=>K (.exit 0) (Aaf Ayy (((),a,()),((b,d,e,f,g,()),()))))) x K) N
theorem Chk(N:Nat):Ab1 Tryz.prog 55 [] (sub Auj [1,1,1,1,0,1,0]) (Aab Alf (Bd5 N N)):=(Chj N).frag
theorem Cr4(N:Nat):Aar Tryz.prog 14 (B7l N) :=
 ⟨Aao (fn:=Tryz.f14) (c:=Auj) (dom:=(Aan [13])) (rs:=[.tmp 2]) mixed htt (Aag (Aak (B9t N))) (Aah rfl) Tryz.func14 rfl rfl (by kernel_rfl) (Aai (l:=[(13,sub Auj [1,1,1,1,0,1,0])]) (by kernel_rfl) ⟨⟨_,rfl,Chk N⟩,trivial⟩) (by decide) (by decide) (by decide) (fun R x C=>Cwk @Ajg @Aj9 @Aez @Abd @Afz @Agy @Agz @Ag0 @Ag1 @Af7 @Afv N R x C),Tryz.f14,Tryz.func14,rfl,by decide⟩
theorem Cw2(N:Nat):Aay Tryz.prog (B7o N):=trivial
theorem Bmm(N:Nat):Aar Tryz.prog 193 (Bea N) :=
 ⟨Aao (fn:=Tryz.f193) (c:=B7n) (dom:=(Aan [])) (rs:=[.tmp 2]) mixed htt (Aag (Aak (Cw2 N))) (Aah rfl) Tryz.func193 rfl rfl (by kernel_rfl) (Aai (l:=[]) (by kernel_rfl) trivial) (by decide) (by decide) (by decide) (fun R x C=>Cws N R x C),Tryz.f193,Tryz.func193,rfl,by decide⟩
theorem Cw3(N:Nat):Aay Tryz.prog (Cvx N):=⟨Bmm N,trivial⟩
theorem A19(N:Nat):Aar Tryz.prog 148 (Azr N) :=
 ⟨Aao (fn:=Tryz.f148) (c:=B7m) (dom:=(Aan [])) (rs:=[.tmp 2]) mixed htt (Aag (Aak (Cw3 N))) (Aah rfl) Tryz.func148 rfl rfl (by kernel_rfl) (Aai (l:=[]) (by kernel_rfl) trivial) (by decide) (by decide) (by decide) (fun R x C=>Cww @Aea N R x C),Tryz.f148,Tryz.func148,rfl,by decide⟩
theorem Cw4(N:Nat):Aay Tryz.prog (B7q N):=trivial
theorem B3h(N:Nat):Aar Tryz.prog 263 (Brl N) :=
 ⟨Aao (fn:=Tryz.f263) (c:=B7p) (dom:=(Aan [])) (rs:=[.tmp 4]) mixed htt (Aag (Aak (Cw4 N))) (Aah rfl) Tryz.func263 rfl rfl (by kernel_rfl) (Aai (l:=[]) (by kernel_rfl) trivial) (by decide) (by decide) (by decide) (fun R x C=>Cwn N R x C),Tryz.f263,Tryz.func263,rfl,by decide⟩
theorem Cza(N:Nat):Aay Tryz.prog (Ces N):=trivial
theorem Bfc(N:Nat):Aar Tryz.prog 167 (A9j N) :=
 ⟨Aao (fn:=Tryz.f167) (c:=Cer) (dom:=(Aan [])) (rs:=[.tmp 4]) mixed htt (Aag (Aak (Cza N))) (Aah rfl) Tryz.func167 rfl rfl (by kernel_rfl) (Aai (l:=[]) (by kernel_rfl) trivial) (by decide) (by decide) (by decide) (fun R x C=>Cy9 N R x C),Tryz.f167,Tryz.func167,rfl,by decide⟩
theorem Czb(N:Nat):Aay Tryz.prog (Cym N):=⟨B3h N,Bfc N,trivial⟩
theorem B9u(N:Nat):Aar Tryz.prog 182 (Bwe N) :=
 ⟨Aao (fn:=Tryz.f182) (c:=Ceq) (dom:=(Aan [])) (rs:=[.tmp 8]) mixed htt (Aag (Aak (Czb N))) (Aah rfl) Tryz.func182 rfl rfl (by kernel_rfl) (Aai (l:=[]) (by kernel_rfl) trivial) (by decide) (by decide) (by decide) (fun R x C=>Cy7 @Af0 @Aax N R x C),Tryz.f182,Tryz.func182,rfl,by decide⟩
theorem B9v(N:Nat):Aay Tryz.prog (Cv2 N):=⟨A19 N,B9u N,trivial⟩
theorem Chl(N:Nat):Agw Tryz.prog 57 [] (sub Aus [1,1,1,1,0,1,0,0]) (Aab Alg (Bef N N)) :=
 Af9 (c:=sub Aus [1,1,1,1,0,1,0,0]) (dom:=(Aan [13])) mixed htt (Aag (Aak (B9v N))) (Aah rfl) (by kernel_rfl) (Aai (l:=[]) (by kernel_rfl) trivial) Bu7 (B:=(fun _ _ _=>none)) (Agw.none _ _ _ _) (fun _ _ _=>rfl) (fun R k x K=>Cka @Abe @Agm @Af8 N R (fun a0 a1 a2 a3 a4 a5 a6=>Af8 N k a0 a1 a2 a3 a4 a5 a6 (fun a=>K (.exit 0) (Aaf Ay1 (((),()),(a,()))))) x K) N
theorem Chm(N:Nat):Ab1 Tryz.prog 57 [] (sub Aus [1,1,1,1,0,1,0]) (Aab Alg (Bef N N)):=(Chl N).frag
theorem Cr5(N:Nat):Aar Tryz.prog 303 (B7s N) :=
 ⟨Aao (fn:=Tryz.f303) (c:=Aus) (dom:=(Aan [13])) (rs:=[.tmp 4,.tmp 5]) mixed htt (Aag (Aak (B9v N))) (Aah rfl) Tryz.func303 rfl rfl (by kernel_rfl) (Aai (l:=[(13,sub Aus [1,1,1,1,0,1,0])]) (by kernel_rfl) ⟨⟨_,rfl,Chm N⟩,trivial⟩) (by decide) (by decide) (by decide) (fun R x C=>Cwr @Abe @Agm @Af8 N R x C),Tryz.f303,Tryz.func303,rfl,by decide⟩
theorem Czc(N:Nat):Aay Tryz.prog (Cyo N):=⟨A19 N,Cr5 N,trivial⟩
theorem Cw5(N:Nat):Aar Tryz.prog 280 (Ceu N) :=
 ⟨Aao (fn:=Tryz.f280) (c:=Cep) (dom:=(Aan [])) (rs:=[.tmp 4,.tmp 5]) mixed htt (Aag (Aak (Czc N))) (Aah rfl) Tryz.func280 rfl rfl (by kernel_rfl) (Aai (l:=[]) (by kernel_rfl) trivial) (by decide) (by decide) (by decide) (fun R x C=>Cy0 @Abe @Ame N R x C),Tryz.f280,Tryz.func280,rfl,by decide⟩
theorem Czd(N:Nat):Aay Tryz.prog (Cyq N):=⟨Bmm N,Bfc N,trivial⟩
theorem Bfd(N:Nat):Aar Tryz.prog 130 (A9k N) :=
 ⟨Aao (fn:=Tryz.f130) (c:=Cev) (dom:=(Aan [])) (rs:=[.tmp 4,.tmp 5]) mixed htt (Aag (Aak (Czd N))) (Aah rfl) Tryz.func130 rfl rfl (by kernel_rfl) (Aai (l:=[]) (by kernel_rfl) trivial) (by decide) (by decide) (by decide) (fun R x C=>Cy8 @Aea @Aax N R x C),Tryz.f130,Tryz.func130,rfl,by decide⟩
theorem B3i(N:Nat):Aay Tryz.prog (Cra N):=⟨A19 N,Cw5 N,Bfd N,trivial⟩
theorem Cdq(N:Nat):Agw Tryz.prog 40 [] (sub Ar9 [1,1,1,1,0,1,0,0]) (Aab Aka (Bbv N N)) :=
 Af9 (c:=sub Ar9 [1,1,1,1,0,1,0,0]) (dom:=(Aan [15])) mixed htt (Aag (Aak (B3i N))) (Aah rfl) (by kernel_rfl) (Aai (l:=[]) (by kernel_rfl) trivial) Bro (B:=(fun _ _ _=>none)) (Agw.none _ _ _ _) (fun _ _ _=>rfl) (fun R k x K=>Cgn @Abe @Akt @Abo @Afr N R (fun a0 a1 a2 a3 a4 a5=>Afr N k a0 a1 a2 a3 a4 a5 (fun a=>K (.exit 0) (Aaf Axm (((),()),(a,()))))) x K) N
theorem Cdr(N:Nat):Ab1 Tryz.prog 40 [] (sub Ar9 [1,1,1,1,0,1,0]) (Aab Aka (Bbv N N)):=(Cdq N).frag
theorem Bzm(N:Nat):Aar Tryz.prog 215 (Bl9 N) :=
 ⟨Aao (fn:=Tryz.f215) (c:=Ar9) (dom:=(Aan [15])) (rs:=[.tmp 4,.tmp 5]) mixed htt (Aag (Aak (B3i N))) (Aah rfl) Tryz.func215 rfl rfl (by kernel_rfl) (Aai (l:=[(15,sub Ar9 [1,1,1,1,0,1,0])]) (by kernel_rfl) ⟨⟨_,rfl,Cdr N⟩,trivial⟩) (by decide) (by decide) (by decide) (fun R x C=>Crr @Abe @Akt @Abo @Afr N R x C),Tryz.f215,Tryz.func215,rfl,by decide⟩
theorem Bzn(N:Nat):Aay Tryz.prog (Cne N):=⟨Bzl N,A19 N,Bzm N,trivial⟩
theorem B9w(N:Nat):Agw Tryz.prog 48 [] (sub Aqb [1,1,1,1,1,1,0,1,0,0]) (Aab Ajh (A8n N N)) :=
 Af9 (c:=sub Aqb [1,1,1,1,1,1,0,1,0,0]) (dom:=(Aan [19])) mixed htt (Aag (Aak (Bzn N))) (Aah rfl) (by kernel_rfl) (Aai (l:=[]) (by kernel_rfl) trivial) Bmy (B:=(fun _ _ _=>none)) (Agw.none _ _ _ _) (fun _ _ _=>rfl) (fun R k x K=>Ccq @Adg @Abe @Acq @Ae3 N R (fun a0 a1 a2 a3 a4 a5 a6=>Ae3 N k a0 a1 a2 a3 a4 a5 a6 (fun a b=>K (.exit 0) (Aaf Avo (((),a,()),(b,()))))) x K) N
theorem B9x(N:Nat):Ab1 Tryz.prog 48 [] (sub Aqb [1,1,1,1,1,1,0,1,0]) (Aab Ajh (A8n N N)):=(B9w N).frag
theorem Ckz(N:Nat):Aar Tryz.prog 149 (Byv N) :=
 ⟨Aao (fn:=Tryz.f149) (c:=Aqb) (dom:=(Aan [19])) (rs:=[.tmp 4,.tmp 5,.tmp 6]) mixed htt (Aag (Aak (Bzn N))) (Aah rfl) Tryz.func149 rfl rfl (by kernel_rfl) (Aai (l:=[(19,sub Aqb [1,1,1,1,1,1,0,1,0])]) (by kernel_rfl) ⟨⟨_,rfl,B9x N⟩,trivial⟩) (by decide) (by decide) (by decide) (fun R x C=>Cn4 @Adg @Abe @Acq @Ae3 N R x C),Tryz.f149,Tryz.func149,rfl,by decide⟩
theorem A4l(N:Nat):Aay Tryz.prog (Cjx N):=⟨Bzm N,trivial⟩
theorem B5a(N:Nat):Agw Tryz.prog 115 [] (sub Ae4 [1,1,1,1,1,0,1,0,0]) (Aab Ag3 (A5p N N)) :=
 Af9 (c:=sub Ae4 [1,1,1,1,1,0,1,0,0]) (dom:=(Aan [7,15,27])) mixed htt (Aag (Aak (A4l N))) (Aah rfl) (by kernel_rfl) (Aai (l:=[]) (by kernel_rfl) trivial) Bjv (B:=(fun _ _ _=>none)) (Agw.none _ _ _ _) (fun _ _ _=>rfl) (fun R k x K=>B83 @Acq @Acs @Ace @Ab9 N R (fun a0 a1 a2 a3 a4 a5 a6 a7 a8 a9 a10 a11 a12 a13 a14 a15 a16 a17 a18 a19 a20 a21 a22 a23 a24 a25=>Ab9 N k a0 a1 a2 a3 a4 a5 a6 a7 a8 a9 a10 a11 a12 a13 a14 a15 a16 a17 a18 a19 a20 a21 a22 a23 a24 a25 (fun a b d e f g h i j m n o p q r s t u v w=>K (.exit 4) (Aaf Asy (((),()),((a,b,(),d,e,f,(),(),(),(),g,h,i,j,m,n,o,(),(),p,q,r,(),(),(),()),s,t,u,v,w,()))))) x K) N
theorem B5b(N:Nat):Ab1 Tryz.prog 115 [] (sub Ae4 [1,1,1,1,1,0,1,0]) (Aab Ag3 (A5p N N)):=(B5a N).frag
theorem B5c(N:Nat):Agw Tryz.prog 115 [] (sub Ae4 [1,1,1,0,1,0,0]) (Aab Ag2 (A5m N N)) :=
 Af9 (c:=sub Ae4 [1,1,1,0,1,0,0]) (dom:=(Aan [7,15,27])) mixed htt (Aag (Aak (A4l N))) (Aah rfl) (by kernel_rfl) (Aai (l:=[]) (by kernel_rfl) trivial) Bjt (B:=(fun _ _ _=>none)) (Agw.none _ _ _ _) (fun _ _ _=>rfl) (fun R k x K=>B9f @Acq @Acs @Ace @Ab9 N R (fun a0 a1 a2 a3 a4 a5 a6 a7 a8 a9 a10 a11 a12 a13 a14 a15 a16 a17 a18 a19 a20 a21 a22 a23 a24 a25=>Ace N k a0 a1 a2 a3 a4 a5 a6 a7 a8 a9 a10 a11 a12 a13 a14 a15 a16 a17 a18 a19 a20 a21 a22 a23 a24 a25 (fun a b d e f g h i j m n o p q r s t u v w y z A=>K (.exit 2) (Aaf Asx ((a,(),(),()),((b,d,()),(e,f,(),g,h,i,(),(),(),(),j,m,n,o,p,q,r,(),(),s,t,u,(),(),(),()),v,w,y,z,A,()))))) x K) N
theorem B5d(N:Nat):Ab1 Tryz.prog 115 [] (sub Ae4 [1,1,1,0,1,0]) (Aab Ag2 (A5m N N)):=(B5c N).frag
theorem B9y(N:Nat):Agw Tryz.prog 115 [] (sub Ae4 [1,1,0,1,0,0]) (Aab Ahr (A8q N N)) :=
 Af9 (c:=sub Ae4 [1,1,0,1,0,0]) (dom:=(Aan [7,15,27])) mixed htt (Aag (Aak (A4l N))) (Aah rfl) (by kernel_rfl) (Aai (l:=[]) (by kernel_rfl) trivial) Bm0 (B:=(fun _ _ _=>none)) (Agw.none _ _ _ _) (fun _ _ _=>rfl) (fun R k x K=>Cc2 @Acq @Acs @Ace @Ab9 N R (fun a0 a1 a2 a3 a4 a5 a6 a7 a8 a9 a10 a11 a12 a13 a14 a15 a16 a17 a18 a19 a20 a21 a22 a23 a24=>Acs N k a0 a1 a2 a3 a4 a5 a6 a7 a8 a9 a10 a11 a12 a13 a14 a15 a16 a17 a18 a19 a20 a21 a22 a23 a24 (fun a b d e f g h i j m n o p q r s t u v w y z A C=>K (.exit 0) (Aaf Avp ((a,b,(),(),()),((d,e,()),(f,g,(),h,i,j,(),(),(),(),m,n,o,p,q,r,s,(),(),t,u,v,(),(),(),()),w,y,z,A,C,()))))) x K) N
theorem B9z(N:Nat):Ab1 Tryz.prog 115 [] (sub Ae4 [1,1,0,1,0]) (Aab Ahr (A8q N N)):=(B9y N).frag
theorem Chn(N:Nat):Aar Tryz.prog 150 (Bva N) :=
 ⟨Aao (fn:=Tryz.f150) (c:=Ae4) (dom:=(Aan [7,15,27])) (rs:=[.tmp 10]) mixed htt (Aag (Aak (A4l N))) (Aah rfl) Tryz.func150 rfl rfl (by kernel_rfl) (Aai (l:=[(7,sub Ae4 [1,1,0,1,0]),(15,sub Ae4 [1,1,1,0,1,0]),(27,sub Ae4 [1,1,1,1,1,0,1,0])]) (by kernel_rfl) ⟨⟨_,rfl,B9z N⟩,⟨_,rfl,B5d N⟩,⟨_,rfl,B5b N⟩,trivial⟩) (by decide) (by decide) (by decide) (fun R x C=>Cj5 @Acq @Acs @Ace @Ab9 N R x C),Tryz.f150,Tryz.func150,rfl,by decide⟩
theorem Cze(N:Nat):Aay Tryz.prog (Cys N):=⟨A19 N,Ckz N,Chn N,trivial⟩
theorem Cw6(N:Nat):Aar Tryz.prog 99 (Cex N) :=
 ⟨Aao (fn:=Tryz.f99) (c:=Ceo) (dom:=(Aan [])) (rs:=[.tmp 10,.tmp 11]) mixed htt (Aag (Aak (Cze N))) (Aah rfl) Tryz.func99 rfl rfl (by kernel_rfl) (Aai (l:=[]) (by kernel_rfl) trivial) (by decide) (by decide) (by decide) (fun R x C=>Cy3 @Abe @Ajm @Aio N R x C),Tryz.f99,Tryz.func99,rfl,by decide⟩
theorem Bw0(N:Nat):Aay Tryz.prog (A9p N):=trivial
theorem Btv(N:Nat):Aar Tryz.prog 103 (A9o N) :=
 ⟨Aao (fn:=Tryz.f103) (c:=A9m) (dom:=(Aan [])) (rs:=[.tmp 2]) mixed htt (Aag (Aak (Bw0 N))) (Aah rfl) Tryz.func103 rfl rfl (by kernel_rfl) (Aai (l:=[]) (by kernel_rfl) trivial) (by decide) (by decide) (by decide) (fun R x C=>Bwx N R x C),Tryz.f103,Tryz.func103,rfl,by decide⟩
theorem Cw7(N:Nat):Aay Tryz.prog (Cv4 N):=⟨Cr4 N,Cw6 N,Btv N,trivial⟩
theorem Cr6(N:Nat):Aar Tryz.prog 61 (B7u N) :=
 ⟨Aao (fn:=Tryz.f61) (c:=B67) (dom:=(Aan [])) (rs:=[.tmp 8,.tmp 9]) mixed htt (Aag (Aak (Cw7 N))) (Aah rfl) Tryz.func61 rfl rfl (by kernel_rfl) (Aai (l:=[]) (by kernel_rfl) trivial) (by decide) (by decide) (by decide) (fun R x C=>Cwq @Amd @Aku @Afj N R x C),Tryz.f61,Tryz.func61,rfl,by decide⟩
theorem Cds(N:Nat):Aay Tryz.prog (Bm4 N):=trivial
theorem Aon(N:Nat):Aar Tryz.prog 105 (Amn N) :=
 ⟨Aao (fn:=Tryz.f105) (c:=Bm3) (dom:=(Aan [])) (rs:=[]) mixed htt (Aag (Aak (Cds N))) (Aah rfl) Tryz.func105 rfl rfl (by kernel_rfl) (Aai (l:=[]) (by kernel_rfl) trivial) (by decide) (by decide) (by decide) (fun R x C=>Cc6 N R x C),Tryz.f105,Tryz.func105,rfl,by decide⟩
theorem B90(N:Nat):Aay Tryz.prog (B7w N):=⟨Aon N,trivial⟩
theorem B5e(N:Nat):Aar Tryz.prog 104 (Bjy N) :=
 ⟨Aao (fn:=Tryz.f104) (c:=Bjx) (dom:=(Aan [])) (rs:=[]) mixed htt (Aag (Aak (B90 N))) (Aah rfl) Tryz.func104 rfl rfl (by kernel_rfl) (Aai (l:=[]) (by kernel_rfl) trivial) (by decide) (by decide) (by decide) (fun R x C=>B85 @Aae N R x C),Tryz.f104,Tryz.func104,rfl,by decide⟩
theorem Big(N:Nat):Aay Tryz.prog (Cng N):=trivial
theorem B91(N:Nat):Ab1 Tryz.prog 28 [false] (sub An6 [1,0,1,0,1,1,1]) (Aab Akv (Bm6 N)) :=
 Agn (dom:=(Aan [14,8])) mixed htt (Aag (Aak (Big N))) (Aah rfl) (by kernel_rfl) (Aai (l:=[]) (by kernel_rfl) trivial) Bm5 (fun R x K=>Ccr @Ad7 @Afb N R x K)
theorem Cdt(N:Nat):Ab1 Tryz.prog 28 [false] (sub An6 [1,0,1,0,1]) (Aab Alt (Brs N)) :=
 Agn (dom:=(Aan [14,8])) mixed htt (Aag (Aak (Big N))) (Aah rfl) (by kernel_rfl) (Aai (l:=[(14,sub An6 [1,0,1,0,1,1,1])]) (by kernel_rfl) ⟨⟨_,rfl,B91 N⟩,trivial⟩) Brr (fun R x K=>Cgp @Ad7 @Afb N R x K)
theorem Bvm(N:Nat):Aar Tryz.prog 125 (Bh7 N) :=
 ⟨Aao (fn:=Tryz.f125) (c:=An6) (dom:=(Aan [14,8])) (rs:=[.tmp 6]) mixed htt (Aag (Aak (Big N))) (Aah rfl) Tryz.func125 rfl rfl (by kernel_rfl) (Aai (l:=[(8,sub An6 [1,0,1,0,1])]) (by kernel_rfl) ⟨⟨_,rfl,Cdt N⟩,trivial⟩) (by decide) (by decide) (by decide) (fun R x C=>Cns @Ad7 @Afb N R x C),Tryz.f125,Tryz.func125,rfl,by decide⟩
theorem Cdu(N:Nat):Aay Tryz.prog (Bm8 N):=trivial
theorem Aoo(N:Nat):Aar Tryz.prog 72 (Amo N) :=
 ⟨Aao (fn:=Tryz.f72) (c:=Bm7) (dom:=(Aan [])) (rs:=[.tmp 4,.tmp 5]) mixed htt (Aag (Aak (Cdu N))) (Aah rfl) Tryz.func72 rfl rfl (by kernel_rfl) (Aai (l:=[]) (by kernel_rfl) trivial) (by decide) (by decide) (by decide) (fun R x C=>Ccs N R x C),Tryz.f72,Tryz.func72,rfl,by decide⟩
theorem Ce7(N:Nat):Aay Tryz.prog (Cyu N):=⟨Bfd N,Bvm N,Aoo N,trivial⟩
theorem Cox(N:Nat):Ab1 Tryz.prog 56 [false] (sub A9q [1,0,1,0,1]) (Aab Asb (B23 N)) :=
 Agn (dom:=(Aan [8])) mixed htt (Aag (Aak (Ce7 N))) (Aah rfl) (by kernel_rfl) (Aai (l:=[]) (by kernel_rfl) trivial) B22 (fun R x K=>Crm @Abo @Aed @Aap @Ah2 N R x K)
theorem Cw8(N:Nat):Aar Tryz.prog 106 (Cey N) :=
 ⟨Aao (fn:=Tryz.f106) (c:=A9q) (dom:=(Aan [8])) (rs:=[.tmp 6,.tmp 7]) mixed htt (Aag (Aak (Ce7 N))) (Aah rfl) Tryz.func106 rfl rfl (by kernel_rfl) (Aai (l:=[(8,sub A9q [1,0,1,0,1])]) (by kernel_rfl) ⟨⟨_,rfl,Cox N⟩,trivial⟩) (by decide) (by decide) (by decide) (fun R x C=>Cy5 @Abo @Aed @Aap @Ah2 N R x C),Tryz.f106,Tryz.func106,rfl,by decide⟩
theorem Cw9(N:Nat):Aay Tryz.prog (B7y N):=trivial
theorem Asd(N:Nat):Aar Tryz.prog 168 (Aq6 N) :=
 ⟨Aao (fn:=Tryz.f168) (c:=B7x) (dom:=(Aan [])) (rs:=[.tmp 2]) mixed htt (Aag (Aak (Cw9 N))) (Aah rfl) Tryz.func168 rfl rfl (by kernel_rfl) (Aai (l:=[]) (by kernel_rfl) trivial) (by decide) (by decide) (by decide) (fun R x C=>Cwt N R x C),Tryz.f168,Tryz.func168,rfl,by decide⟩
theorem Cho(N:Nat):Aay Tryz.prog (Brw N):=trivial
theorem Cdv(N:Nat):Aar Tryz.prog 169 (Brv N) :=
 ⟨Aao (fn:=Tryz.f169) (c:=Bru) (dom:=(Aan [])) (rs:=[.tmp 0]) mixed htt (Aag (Aak (Cho N))) (Aah rfl) Tryz.func169 rfl rfl (by kernel_rfl) (Aai (l:=[]) (by kernel_rfl) trivial) (by decide) (by decide) (by decide) (fun R x C=>Cgu N R x C),Tryz.f169,Tryz.func169,rfl,by decide⟩
theorem B92(N:Nat):Aay Tryz.prog (Bj1 N):=trivial
theorem B5f(N:Nat):Aar Tryz.prog 224 (Bj0 N) :=
 ⟨Aao (fn:=Tryz.f224) (c:=Bjz) (dom:=(Aan [])) (rs:=[.tmp 6]) mixed htt (Aag (Aak (B92 N))) (Aah rfl) Tryz.func224 rfl rfl (by kernel_rfl) (Aai (l:=[]) (by kernel_rfl) trivial) (by decide) (by decide) (by decide) (fun R x C=>B86 N R x C),Tryz.f224,Tryz.func224,rfl,by decide⟩
theorem B93(N:Nat):Aay Tryz.prog (Bj4 N):=trivial
theorem B5g(N:Nat):Aar Tryz.prog 225 (Bj3 N) :=
 ⟨Aao (fn:=Tryz.f225) (c:=Bj2) (dom:=(Aan [])) (rs:=[.tmp 6]) mixed htt (Aag (Aak (B93 N))) (Aah rfl) Tryz.func225 rfl rfl (by kernel_rfl) (Aai (l:=[]) (by kernel_rfl) trivial) (by decide) (by decide) (by decide) (fun R x C=>B9i N R x C),Tryz.f225,Tryz.func225,rfl,by decide⟩
theorem B94(N:Nat):Aay Tryz.prog (Bj7 N):=trivial
theorem B5h(N:Nat):Aar Tryz.prog 226 (Bj6 N) :=
 ⟨Aao (fn:=Tryz.f226) (c:=Bj5) (dom:=(Aan [])) (rs:=[.tmp 6]) mixed htt (Aag (Aak (B94 N))) (Aah rfl) Tryz.func226 rfl rfl (by kernel_rfl) (Aai (l:=[]) (by kernel_rfl) trivial) (by decide) (by decide) (by decide) (fun R x C=>B9l N R x C),Tryz.f226,Tryz.func226,rfl,by decide⟩
theorem B95(N:Nat):Aay Tryz.prog (Bka N):=trivial
theorem B5i(N:Nat):Aar Tryz.prog 227 (Bj9 N) :=
 ⟨Aao (fn:=Tryz.f227) (c:=Bj8) (dom:=(Aan [])) (rs:=[.tmp 6]) mixed htt (Aag (Aak (B95 N))) (Aah rfl) Tryz.func227 rfl rfl (by kernel_rfl) (Aai (l:=[]) (by kernel_rfl) trivial) (by decide) (by decide) (by decide) (fun R x C=>B9d N R x C),Tryz.f227,Tryz.func227,rfl,by decide⟩
theorem B96(N:Nat):Aay Tryz.prog (Bkd N):=trivial
theorem B5j(N:Nat):Aar Tryz.prog 228 (Bkc N) :=
 ⟨Aao (fn:=Tryz.f228) (c:=Bkb) (dom:=(Aan [])) (rs:=[.tmp 6]) mixed htt (Aag (Aak (B96 N))) (Aah rfl) Tryz.func228 rfl rfl (by kernel_rfl) (Aai (l:=[]) (by kernel_rfl) trivial) (by decide) (by decide) (by decide) (fun R x C=>B87 N R x C),Tryz.f228,Tryz.func228,rfl,by decide⟩
theorem B97(N:Nat):Aay Tryz.prog (Bkg N):=trivial
theorem B5k(N:Nat):Aar Tryz.prog 229 (Bkf N) :=
 ⟨Aao (fn:=Tryz.f229) (c:=Bke) (dom:=(Aan [])) (rs:=[.tmp 6]) mixed htt (Aag (Aak (B97 N))) (Aah rfl) Tryz.func229 rfl rfl (by kernel_rfl) (Aai (l:=[]) (by kernel_rfl) trivial) (by decide) (by decide) (by decide) (fun R x C=>B9j N R x C),Tryz.f229,Tryz.func229,rfl,by decide⟩
theorem Ck0(N:Nat):Aay Tryz.prog (Bve N):=trivial
theorem Chp(N:Nat):Aar Tryz.prog 231 (Bvd N) :=
 ⟨Aao (fn:=Tryz.f231) (c:=Bvb) (dom:=(Aan [])) (rs:=[.tmp 4]) mixed htt (Aag (Aak (Ck0 N))) (Aah rfl) Tryz.func231 rfl rfl (by kernel_rfl) (Aai (l:=[]) (by kernel_rfl) trivial) (by decide) (by decide) (by decide) (fun R x C=>Ckk N R x C),Tryz.f231,Tryz.func231,rfl,by decide⟩
theorem B98(N:Nat):Aay Tryz.prog (B8k N):=⟨Chp N,trivial⟩
theorem B5l(N:Nat):Aar Tryz.prog 230 (Bkj N) :=
 ⟨Aao (fn:=Tryz.f230) (c:=Bkh) (dom:=(Aan [])) (rs:=[.tmp 6]) mixed htt (Aag (Aak (B98 N))) (Aah rfl) Tryz.func230 rfl rfl (by kernel_rfl) (Aai (l:=[]) (by kernel_rfl) trivial) (by decide) (by decide) (by decide) (fun R x C=>B9b @Aip N R x C),Tryz.f230,Tryz.func230,rfl,by decide⟩
theorem B99(N:Nat):Aay Tryz.prog (Bkm N):=trivial
theorem B5m(N:Nat):Aar Tryz.prog 232 (Bkl N) :=
 ⟨Aao (fn:=Tryz.f232) (c:=Bkk) (dom:=(Aan [])) (rs:=[.tmp 6]) mixed htt (Aag (Aak (B99 N))) (Aah rfl) Tryz.func232 rfl rfl (by kernel_rfl) (Aai (l:=[]) (by kernel_rfl) trivial) (by decide) (by decide) (by decide) (fun R x C=>B9m N R x C),Tryz.f232,Tryz.func232,rfl,by decide⟩
theorem Caa(N:Nat):Aay Tryz.prog (Bkp N):=trivial
theorem B5n(N:Nat):Aar Tryz.prog 233 (Bko N) :=
 ⟨Aao (fn:=Tryz.f233) (c:=Bkn) (dom:=(Aan [])) (rs:=[.tmp 6]) mixed htt (Aag (Aak (Caa N))) (Aah rfl) Tryz.func233 rfl rfl (by kernel_rfl) (Aai (l:=[]) (by kernel_rfl) trivial) (by decide) (by decide) (by decide) (fun R x C=>B9e N R x C),Tryz.f233,Tryz.func233,rfl,by decide⟩
theorem B5o(N:Nat):Aay Tryz.prog (Bfq N):=trivial
theorem B1q(N:Nat):Aar Tryz.prog 234 (Bfp N) :=
 ⟨Aao (fn:=Tryz.f234) (c:=Bfo) (dom:=(Aan [])) (rs:=[.tmp 6]) mixed htt (Aag (Aak (B5o N))) (Aah rfl) Tryz.func234 rfl rfl (by kernel_rfl) (Aai (l:=[]) (by kernel_rfl) trivial) (by decide) (by decide) (by decide) (fun R x C=>B4x N R x C),Tryz.f234,Tryz.func234,rfl,by decide⟩
theorem B5p(N:Nat):Aay Tryz.prog (Bft N):=trivial
theorem B1r(N:Nat):Aar Tryz.prog 235 (Bfs N) :=
 ⟨Aao (fn:=Tryz.f235) (c:=Bfr) (dom:=(Aan [])) (rs:=[.tmp 6]) mixed htt (Aag (Aak (B5p N))) (Aah rfl) Tryz.func235 rfl rfl (by kernel_rfl) (Aai (l:=[]) (by kernel_rfl) trivial) (by decide) (by decide) (by decide) (fun R x C=>B4q N R x C),Tryz.f235,Tryz.func235,rfl,by decide⟩
theorem B5q(N:Nat):Aay Tryz.prog (B3u N):=⟨Asd N,trivial⟩
theorem B1s(N:Nat):Aar Tryz.prog 236 (Bfw N) :=
 ⟨Aao (fn:=Tryz.f236) (c:=Bfu) (dom:=(Aan [])) (rs:=[.tmp 6]) mixed htt (Aag (Aak (B5q N))) (Aah rfl) Tryz.func236 rfl rfl (by kernel_rfl) (Aai (l:=[]) (by kernel_rfl) trivial) (by decide) (by decide) (by decide) (fun R x C=>B4v @Aa1 N R x C),Tryz.f236,Tryz.func236,rfl,by decide⟩
theorem B5r(N:Nat):Aay Tryz.prog (B3w N):=⟨Asd N,trivial⟩
theorem B1t(N:Nat):Aar Tryz.prog 237 (Bfz N) :=
 ⟨Aao (fn:=Tryz.f237) (c:=Bfx) (dom:=(Aan [])) (rs:=[.tmp 6]) mixed htt (Aag (Aak (B5r N))) (Aah rfl) Tryz.func237 rfl rfl (by kernel_rfl) (Aai (l:=[]) (by kernel_rfl) trivial) (by decide) (by decide) (by decide) (fun R x C=>B41 @Aa1 N R x C),Tryz.f237,Tryz.func237,rfl,by decide⟩
theorem B5s(N:Nat):Aay Tryz.prog (B3y N):=⟨Asd N,trivial⟩
theorem B1u(N:Nat):Aar Tryz.prog 238 (Bf2 N) :=
 ⟨Aao (fn:=Tryz.f238) (c:=Bf0) (dom:=(Aan [])) (rs:=[.tmp 6]) mixed htt (Aag (Aak (B5s N))) (Aah rfl) Tryz.func238 rfl rfl (by kernel_rfl) (Aai (l:=[]) (by kernel_rfl) trivial) (by decide) (by decide) (by decide) (fun R x C=>B4p @Aa1 N R x C),Tryz.f238,Tryz.func238,rfl,by decide⟩
theorem B5t(N:Nat):Aay Tryz.prog (B30 N):=⟨Asd N,trivial⟩
theorem B1v(N:Nat):Aar Tryz.prog 239 (Bf5 N) :=
 ⟨Aao (fn:=Tryz.f239) (c:=Bf3) (dom:=(Aan [])) (rs:=[.tmp 6]) mixed htt (Aag (Aak (B5t N))) (Aah rfl) Tryz.func239 rfl rfl (by kernel_rfl) (Aai (l:=[]) (by kernel_rfl) trivial) (by decide) (by decide) (by decide) (fun R x C=>B4w @Aa1 N R x C),Tryz.f239,Tryz.func239,rfl,by decide⟩
theorem B5u(N:Nat):Aay Tryz.prog (B32 N):=⟨Asd N,trivial⟩
theorem B1w(N:Nat):Aar Tryz.prog 240 (Bf8 N) :=
 ⟨Aao (fn:=Tryz.f240) (c:=Bf6) (dom:=(Aan [])) (rs:=[.tmp 6]) mixed htt (Aag (Aak (B5u N))) (Aah rfl) Tryz.func240 rfl rfl (by kernel_rfl) (Aai (l:=[]) (by kernel_rfl) trivial) (by decide) (by decide) (by decide) (fun R x C=>B42 @Aa1 N R x C),Tryz.f240,Tryz.func240,rfl,by decide⟩
theorem B5v(N:Nat):Aay Tryz.prog (B34 N):=⟨Asd N,trivial⟩
theorem B1x(N:Nat):Aar Tryz.prog 241 (Bgb N) :=
 ⟨Aao (fn:=Tryz.f241) (c:=Bf9) (dom:=(Aan [])) (rs:=[.tmp 6]) mixed htt (Aag (Aak (B5v N))) (Aah rfl) Tryz.func241 rfl rfl (by kernel_rfl) (Aai (l:=[]) (by kernel_rfl) trivial) (by decide) (by decide) (by decide) (fun R x C=>B4u @Aa1 N R x C),Tryz.f241,Tryz.func241,rfl,by decide⟩
theorem B5w(N:Nat):Aay Tryz.prog (Bge N):=trivial
theorem B1y(N:Nat):Aar Tryz.prog 242 (Bgd N) :=
 ⟨Aao (fn:=Tryz.f242) (c:=Bgc) (dom:=(Aan [])) (rs:=[.tmp 6]) mixed htt (Aag (Aak (B5w N))) (Aah rfl) Tryz.func242 rfl rfl (by kernel_rfl) (Aai (l:=[]) (by kernel_rfl) trivial) (by decide) (by decide) (by decide) (fun R x C=>B4y N R x C),Tryz.f242,Tryz.func242,rfl,by decide⟩
theorem B5x(N:Nat):Aay Tryz.prog (Bgh N):=trivial
theorem B1z(N:Nat):Aar Tryz.prog 243 (Bgg N) :=
 ⟨Aao (fn:=Tryz.f243) (c:=Bgf) (dom:=(Aan [])) (rs:=[.tmp 6]) mixed htt (Aag (Aak (B5x N))) (Aah rfl) Tryz.func243 rfl rfl (by kernel_rfl) (Aai (l:=[]) (by kernel_rfl) trivial) (by decide) (by decide) (by decide) (fun R x C=>B43 N R x C),Tryz.f243,Tryz.func243,rfl,by decide⟩
theorem Cab(N:Nat):Aay Tryz.prog (C5g N):=⟨Bfc N,Asd N,Cdv N,B5f N,B5g N,B5h N,B5i N,B5j N,B5k N,B5l N,B5m N,B5n N,B1q N,B1r N,B1s N,B1t N,B1u N,B1v N,B1w N,B1x N,B1y N,B1z N,trivial⟩
theorem Cr7(N:Nat):Ab1 Tryz.prog 89 [] (sub A0f [1,1,0,1,0,1,1,1,1,1,1,1,1,1,1,1,1,1,1,1,1,1,1,1]) (Aab Aq7 (B70 N)) :=
 Agn (dom:=(Aan [46,50])) mixed htt (Aag (Aak (Cab N))) (Aah rfl) (by kernel_rfl) (Aai (l:=[]) (by kernel_rfl) trivial) B7z (fun R x K=>Cwo @Aax @Aa1 @Afs @Aee @Aef @Aeg @Aeh @Aei @Aej @Aek @Ael @Aem @Adt @Adu @Adv @Adw @Adx @Ady @Adz @Ad0 @Ad1 @Ad2 @Ags @Ahw N R x K)
theorem Cr8(N:Nat):Ab1 Tryz.prog 89 [] (sub A0f [1,1,1]) (Aab Aq8 (B8t N)) :=
 Agn (dom:=(Aan [46,50])) mixed htt (Aag (Aak (Cab N))) (Aah rfl) (by kernel_rfl) (Aai (l:=[]) (by kernel_rfl) trivial) B8r (fun R x K=>Cwl @Aax @Aa1 @Afs @Aee @Aef @Aeg @Aeh @Aei @Aej @Aek @Ael @Aem @Adt @Adu @Adv @Adw @Adx @Ady @Adz @Ad0 @Ad1 @Ad2 @Ags @Ahw N R x K)
theorem C20(N:Nat):Aar Tryz.prog 107 (Cp6 N) :=
 ⟨Aao (fn:=Tryz.f107) (c:=A0f) (dom:=(Aan [46,50])) (rs:=[.tmp 8,.tmp 9]) mixed htt (Aag (Aak (Cab N))) (Aah rfl) Tryz.func107 rfl rfl (by kernel_rfl) (Aai (l:=[(46,sub A0f [1,1,0,1,0,1,1,1,1,1,1,1,1,1,1,1,1,1,1,1,1,1,1,1]),(50,sub A0f [1,1,1])]) (by kernel_rfl) ⟨⟨_,rfl,Cr7 N⟩,⟨_,rfl,Cr8 N⟩,trivial⟩) (by decide) (by decide) (by decide) (fun R x C=>C5l @Aax @Aa1 @Afs @Aee @Aef @Aeg @Aeh @Aei @Aej @Aek @Ael @Aem @Adt @Adu @Adv @Adw @Adx @Ady @Adz @Ad0 @Ad1 @Ad2 @Ags @Ahw N R x C),Tryz.f107,Tryz.func107,rfl,by decide⟩
theorem Bs5(N:Nat):Aay Tryz.prog (A57 N):=trivial
theorem Bow(N:Nat):Aar Tryz.prog 153 (A56 N) :=
 ⟨Aao (fn:=Tryz.f153) (c:=A55) (dom:=(Aan [])) (rs:=[.tmp 5]) mixed htt (Aag (Aak (Bs5 N))) (Aah rfl) Tryz.func153 rfl rfl (by kernel_rfl) (Aai (l:=[]) (by kernel_rfl) trivial) (by decide) (by decide) (by decide) (fun R x C=>Bsx N R x C),Tryz.f153,Tryz.func153,rfl,by decide⟩
theorem Cac(N:Nat):Aay Tryz.prog (Bkr N):=trivial
theorem Bgw(N:Nat):Aar Tryz.prog 113 (A6b N) :=
 ⟨Aao (fn:=Tryz.f113) (c:=Bkq) (dom:=(Aan [])) (rs:=[.tmp 6]) mixed htt (Aag (Aak (Cac N))) (Aah rfl) Tryz.func113 rfl rfl (by kernel_rfl) (Aai (l:=[]) (by kernel_rfl) trivial) (by decide) (by decide) (by decide) (fun R x C=>B88 N R x C),Tryz.f113,Tryz.func113,rfl,by decide⟩
theorem Bs6(N:Nat):Aay Tryz.prog (Br1 N):=⟨Bvm N,Bgw N,trivial⟩
theorem Box(N:Nat):Aar Tryz.prog 154 (A6c N) :=
 ⟨Aao (fn:=Tryz.f154) (c:=A58) (dom:=(Aan [])) (rs:=[.tmp 5]) mixed htt (Aag (Aak (Bs6 N))) (Aah rfl) Tryz.func154 rfl rfl (by kernel_rfl) (Aai (l:=[]) (by kernel_rfl) trivial) (by decide) (by decide) (by decide) (fun R x C=>Bst @Aed @Ac0 N R x C),Tryz.f154,Tryz.func154,rfl,by decide⟩
theorem Bs7(N:Nat):Aay Tryz.prog (A6f N):=trivial
theorem Boy(N:Nat):Aar Tryz.prog 155 (A6e N) :=
 ⟨Aao (fn:=Tryz.f155) (c:=A6d) (dom:=(Aan [])) (rs:=[.tmp 5]) mixed htt (Aag (Aak (Bs7 N))) (Aah rfl) Tryz.func155 rfl rfl (by kernel_rfl) (Aai (l:=[]) (by kernel_rfl) trivial) (by decide) (by decide) (by decide) (fun R x C=>Bsu N R x C),Tryz.f155,Tryz.func155,rfl,by decide⟩
theorem Bs8(N:Nat):Aay Tryz.prog (A6i N):=trivial
theorem Boz(N:Nat):Aar Tryz.prog 156 (A6h N) :=
 ⟨Aao (fn:=Tryz.f156) (c:=A6g) (dom:=(Aan [])) (rs:=[.tmp 5]) mixed htt (Aag (Aak (Bs8 N))) (Aah rfl) Tryz.func156 rfl rfl (by kernel_rfl) (Aai (l:=[]) (by kernel_rfl) trivial) (by decide) (by decide) (by decide) (fun R x C=>Bsy N R x C),Tryz.f156,Tryz.func156,rfl,by decide⟩
theorem Bs9(N:Nat):Aay Tryz.prog (Br9 N):=⟨Aoo N,trivial⟩
theorem Bo0(N:Nat):Aar Tryz.prog 157 (A6k N) :=
 ⟨Aao (fn:=Tryz.f157) (c:=A6j) (dom:=(Aan [])) (rs:=[.tmp 5]) mixed htt (Aag (Aak (Bs9 N))) (Aah rfl) Tryz.func157 rfl rfl (by kernel_rfl) (Aai (l:=[]) (by kernel_rfl) trivial) (by decide) (by decide) (by decide) (fun R x C=>Bsw @Aap N R x C),Tryz.f157,Tryz.func157,rfl,by decide⟩
theorem Bta(N:Nat):Aay Tryz.prog (Bsb N):=⟨Bgw N,trivial⟩
theorem Bo1(N:Nat):Aar Tryz.prog 158 (A6m N) :=
 ⟨Aao (fn:=Tryz.f158) (c:=A6l) (dom:=(Aan [])) (rs:=[.tmp 5]) mixed htt (Aag (Aak (Bta N))) (Aah rfl) Tryz.func158 rfl rfl (by kernel_rfl) (Aai (l:=[]) (by kernel_rfl) trivial) (by decide) (by decide) (by decide) (fun R x C=>Bs1 @Ac0 N R x C),Tryz.f158,Tryz.func158,rfl,by decide⟩
theorem Bkz(N:Nat):Aay Tryz.prog (B80 N):=trivial
theorem Bw1(N:Nat):Ab1 Tryz.prog 34 [false] (sub Aq9 [1,1,1,1]) (Aab Ajq (Bce N)) :=
 Agn (dom:=(Aan [10])) mixed htt (Aag (Aak (Bkz N))) (Aah rfl) (by kernel_rfl) (Aai (l:=[]) (by kernel_rfl) trivial) Bcd (fun R x K=>Bzg @Adm N R x K)
theorem Bgx(N:Nat):Aar Tryz.prog 180 (A6r N) :=
 ⟨Aao (fn:=Tryz.f180) (c:=Aq9) (dom:=(Aan [10])) (rs:=[.tmp 6,.tmp 7]) mixed htt (Aag (Aak (Bkz N))) (Aah rfl) Tryz.func180 rfl rfl (by kernel_rfl) (Aai (l:=[(10,sub Aq9 [1,1,1,1])]) (by kernel_rfl) ⟨⟨_,rfl,Bw1 N⟩,trivial⟩) (by decide) (by decide) (by decide) (fun R x C=>B9h @Adm N R x C),Tryz.f180,Tryz.func180,rfl,by decide⟩
theorem Czf(N:Nat):Aay Tryz.prog (Cyw N):=⟨B3h N,trivial⟩
theorem Cxa(N:Nat):Aar Tryz.prog 181 (Ce2 N) :=
 ⟨Aao (fn:=Tryz.f181) (c:=Cez) (dom:=(Aan [])) (rs:=[.tmp 6]) mixed htt (Aag (Aak (Czf N))) (Aah rfl) Tryz.func181 rfl rfl (by kernel_rfl) (Aai (l:=[]) (by kernel_rfl) trivial) (by decide) (by decide) (by decide) (fun R x C=>Cy2 @Af0 N R x C),Tryz.f181,Tryz.func181,rfl,by decide⟩
theorem Cdw(N:Nat):Aay Tryz.prog (Cb2 N):=⟨Bgx N,Aoo N,Cxa N,trivial⟩
theorem Cad(N:Nat):Aar Tryz.prog 115 (Bnc N) :=
 ⟨Aao (fn:=Tryz.f115) (c:=Bm9) (dom:=(Aan [])) (rs:=[.tmp 6,.tmp 7]) mixed htt (Aag (Aak (Cdw N))) (Aah rfl) Tryz.func115 rfl rfl (by kernel_rfl) (Aai (l:=[]) (by kernel_rfl) trivial) (by decide) (by decide) (by decide) (fun R x C=>Ccz @Acf @Aap @Aoi N R x C),Tryz.f115,Tryz.func115,rfl,by decide⟩
theorem Btb(N:Nat):Aay Tryz.prog (Bsd N):=⟨Cad N,trivial⟩
theorem Bo2(N:Nat):Aar Tryz.prog 159 (A6s N) :=
 ⟨Aao (fn:=Tryz.f159) (c:=A6n) (dom:=(Aan [])) (rs:=[.tmp 5]) mixed htt (Aag (Aak (Btb N))) (Aah rfl) Tryz.func159 rfl rfl (by kernel_rfl) (Aai (l:=[]) (by kernel_rfl) trivial) (by decide) (by decide) (by decide) (fun R x C=>Bs0 @Ag8 N R x C),Tryz.f159,Tryz.func159,rfl,by decide⟩
theorem B10(N:Nat):Aay Tryz.prog (B07 N):=⟨Bgx N,Aoo N,B9u N,trivial⟩
theorem Bzo(N:Nat):Aar Tryz.prog 117 (Beq N) :=
 ⟨Aao (fn:=Tryz.f117) (c:=Ben) (dom:=(Aan [])) (rs:=[.tmp 8]) mixed htt (Aag (Aak (B10 N))) (Aah rfl) Tryz.func117 rfl rfl (by kernel_rfl) (Aai (l:=[]) (by kernel_rfl) trivial) (by decide) (by decide) (by decide) (fun R x C=>B1o @Acf @Aap @Agm N R x C),Tryz.f117,Tryz.func117,rfl,by decide⟩
theorem Btc(N:Nat):Aay Tryz.prog (Bsf N):=⟨Bzo N,trivial⟩
theorem Bo3(N:Nat):Aar Tryz.prog 160 (A6u N) :=
 ⟨Aao (fn:=Tryz.f160) (c:=A6t) (dom:=(Aan [])) (rs:=[.tmp 5]) mixed htt (Aag (Aak (Btc N))) (Aah rfl) Tryz.func160 rfl rfl (by kernel_rfl) (Aai (l:=[]) (by kernel_rfl) trivial) (by decide) (by decide) (by decide) (fun R x C=>Bsv @Aft N R x C),Tryz.f160,Tryz.func160,rfl,by decide⟩
theorem Btd(N:Nat):Aay Tryz.prog (A6w N):=trivial
theorem Aor(N:Nat):Aar Tryz.prog 152 (Alz N) :=
 ⟨Aao (fn:=Tryz.f152) (c:=A6v) (dom:=(Aan [])) (rs:=[.tmp 5]) mixed htt (Aag (Aak (Btd N))) (Aah rfl) Tryz.func152 rfl rfl (by kernel_rfl) (Aai (l:=[]) (by kernel_rfl) trivial) (by decide) (by decide) (by decide) (fun R x C=>Bs2 N R x C),Tryz.f152,Tryz.func152,rfl,by decide⟩
theorem Bo4(N:Nat):Aay Tryz.prog (Bod N):=⟨Aor N,trivial⟩
theorem Bmn(N:Nat):Aar Tryz.prog 161 (A38 N) :=
 ⟨Aao (fn:=Tryz.f161) (c:=A37) (dom:=(Aan [])) (rs:=[.tmp 5]) mixed htt (Aag (Aak (Bo4 N))) (Aah rfl) Tryz.func161 rfl rfl (by kernel_rfl) (Aai (l:=[]) (by kernel_rfl) trivial) (by decide) (by decide) (by decide) (fun R x C=>Bor @Aat N R x C),Tryz.f161,Tryz.func161,rfl,by decide⟩
theorem Bo5(N:Nat):Aay Tryz.prog (Bof N):=⟨Aor N,trivial⟩
theorem Bmo(N:Nat):Aar Tryz.prog 162 (A4a N) :=
 ⟨Aao (fn:=Tryz.f162) (c:=A39) (dom:=(Aan [])) (rs:=[.tmp 6]) mixed htt (Aag (Aak (Bo5 N))) (Aah rfl) Tryz.func162 rfl rfl (by kernel_rfl) (Aai (l:=[]) (by kernel_rfl) trivial) (by decide) (by decide) (by decide) (fun R x C=>Bos @Aat N R x C),Tryz.f162,Tryz.func162,rfl,by decide⟩
theorem Bo6(N:Nat):Aay Tryz.prog (Boh N):=⟨Aor N,trivial⟩
theorem Bmp(N:Nat):Aar Tryz.prog 163 (A4c N) :=
 ⟨Aao (fn:=Tryz.f163) (c:=A4b) (dom:=(Aan [])) (rs:=[.tmp 6]) mixed htt (Aag (Aak (Bo6 N))) (Aah rfl) Tryz.func163 rfl rfl (by kernel_rfl) (Aai (l:=[]) (by kernel_rfl) trivial) (by decide) (by decide) (by decide) (fun R x C=>Bot @Aat N R x C),Tryz.f163,Tryz.func163,rfl,by decide⟩
theorem Chq(N:Nat):Aay Tryz.prog (Bsm N):=trivial
theorem Cdx(N:Nat):Aar Tryz.prog 187 (Bsl N) :=
 ⟨Aao (fn:=Tryz.f187) (c:=Bsj) (dom:=(Aan [])) (rs:=[.tmp 2]) mixed htt (Aag (Aak (Chq N))) (Aah rfl) Tryz.func187 rfl rfl (by kernel_rfl) (Aai (l:=[]) (by kernel_rfl) trivial) (by decide) (by decide) (by decide) (fun R x C=>Cgy N R x C),Tryz.f187,Tryz.func187,rfl,by decide⟩
theorem Bnz(N:Nat):Aay Tryz.prog (Cb4 N):=⟨Bfd N,trivial⟩
theorem B11(N:Nat):Ab1 Tryz.prog 30 [false] (sub Asi [1,1]) (Aab Ak8 (Bgj N)) :=
 Agn (dom:=(Aan [6])) mixed htt (Aag (Aak (Bnz N))) (Aah rfl) (by kernel_rfl) (Aai (l:=[]) (by kernel_rfl) trivial) Bgi (fun R x K=>B4t @Abo @Afl N R x K)
theorem Cae(N:Nat):Aar Tryz.prog 188 (Bne N) :=
 ⟨Aao (fn:=Tryz.f188) (c:=Asi) (dom:=(Aan [6])) (rs:=[.tmp 4]) mixed htt (Aag (Aak (Bnz N))) (Aah rfl) Tryz.func188 rfl rfl (by kernel_rfl) (Aai (l:=[(6,sub Asi [1,1])]) (by kernel_rfl) ⟨⟨_,rfl,B11 N⟩,trivial⟩) (by decide) (by decide) (by decide) (fun R x C=>Ccx @Abo @Afl N R x C),Tryz.f188,Tryz.func188,rfl,by decide⟩
theorem Bzp(N:Nat):Aay Tryz.prog (Bch N):=trivial
theorem Bw2(N:Nat):Aar Tryz.prog 269 (Bcg N) :=
 ⟨Aao (fn:=Tryz.f269) (c:=Bcf) (dom:=(Aan [])) (rs:=[.tmp 4]) mixed htt (Aag (Aak (Bzp N))) (Aah rfl) Tryz.func269 rfl rfl (by kernel_rfl) (Aai (l:=[]) (by kernel_rfl) trivial) (by decide) (by decide) (by decide) (fun R x C=>Bzf N R x C),Tryz.f269,Tryz.func269,rfl,by decide⟩
theorem Btw(N:Nat):Aay Tryz.prog (Btn N):=⟨Aoo N,trivial⟩
theorem Ag4(N:Nat):Aar Tryz.prog 298 (Agd N) :=
 ⟨Aao (fn:=Tryz.f298) (c:=A72) (dom:=(Aan [])) (rs:=[.tmp 4,.tmp 5]) mixed htt (Aag (Aak (Btw N))) (Aah rfl) Tryz.func298 rfl rfl (by kernel_rfl) (Aai (l:=[]) (by kernel_rfl) trivial) (by decide) (by decide) (by decide) (fun R x C=>Btu @Aap N R x C),Tryz.f298,Tryz.func298,rfl,by decide⟩
theorem B12(N:Nat):Aay Tryz.prog (B09 N):=⟨Ag4 N,trivial⟩
theorem Bcn(N:Nat):Aar Tryz.prog 299 (A1k N) :=
 ⟨Aao (fn:=Tryz.f299) (c:=Ber) (dom:=(Aan [])) (rs:=[.tmp 4,.tmp 5]) mixed htt (Aag (Aak (B12 N))) (Aah rfl) Tryz.func299 rfl rfl (by kernel_rfl) (Aai (l:=[]) (by kernel_rfl) trivial) (by decide) (by decide) (by decide) (fun R x C=>B1k @Aaa N R x C),Tryz.f299,Tryz.func299,rfl,by decide⟩
theorem Coy(N:Nat):Aay Tryz.prog (By1 N):=trivial
theorem A4m(N:Nat):Aar Tryz.prog 101 (Azy N) :=
 ⟨Aao (fn:=Tryz.f101) (c:=By0) (dom:=(Aan [])) (rs:=[.tmp 5]) mixed htt (Aag (Aak (Coy N))) (Aah rfl) Tryz.func101 rfl rfl (by kernel_rfl) (Aai (l:=[]) (by kernel_rfl) trivial) (by decide) (by decide) (by decide) (fun R x C=>Cn3 N R x C),Tryz.f101,Tryz.func101,rfl,by decide⟩
theorem Coz(N:Nat):Aay Tryz.prog (By4 N):=trivial
theorem Ck1(N:Nat):Aar Tryz.prog 102 (By3 N) :=
 ⟨Aao (fn:=Tryz.f102) (c:=By2) (dom:=(Aan [])) (rs:=[]) mixed htt (Aag (Aak (Coz N))) (Aah rfl) Tryz.func102 rfl rfl (by kernel_rfl) (Aai (l:=[]) (by kernel_rfl) trivial) (by decide) (by decide) (by decide) (fun R x C=>Cn9 N R x C),Tryz.f102,Tryz.func102,rfl,by decide⟩
theorem A3e(N:Nat):Aay Tryz.prog (B4d N):=⟨Bcn N,Ag4 N,A4m N,Ck1 N,trivial⟩
theorem Btx(N:Nat):Ab1 Tryz.prog 212 [] (sub Aja [1,1,1,1,1,1,1,1,1,1,1,1,1]) (Aab Ah3 (A9t N)) :=
 Agn (dom:=(Aan [44,26])) mixed htt (Aag (Aak (A3e N))) (Aah rfl) (by kernel_rfl) (Aai (l:=[]) (by kernel_rfl) trivial) A9s (fun R x K=>Bwz @Abf @Aaa @Aa4 @Agl @Abk @Abu N R x K)
theorem Bty(N:Nat):Ab1 Tryz.prog 212 [] (sub Aja [1,1,1,1,1,1,1]) (Aab Ah4 (A9w N)) :=
 Agn (dom:=(Aan [44,26])) mixed htt (Aag (Aak (A3e N))) (Aah rfl) (by kernel_rfl) (Aai (l:=[(44,sub Aja [1,1,1,1,1,1,1,1,1,1,1,1,1])]) (by kernel_rfl) ⟨⟨_,rfl,Btx N⟩,trivial⟩) A9u (fun R x K=>Bwy @Abf @Aaa @Aa4 @Agl @Abk @Abu N R x K)
theorem B13(N:Nat):Aar Tryz.prog 270 (Bgk N) :=
 ⟨Aao (fn:=Tryz.f270) (c:=Aja) (dom:=(Aan [44,26])) (rs:=[.tmp 6]) mixed htt (Aag (Aak (A3e N))) (Aah rfl) Tryz.func270 rfl rfl (by kernel_rfl) (Aai (l:=[(26,sub Aja [1,1,1,1,1,1,1])]) (by kernel_rfl) ⟨⟨_,rfl,Bty N⟩,trivial⟩) (by decide) (by decide) (by decide) (fun R x C=>B4z @Abf @Aaa @Aa4 @Agl @Abk @Abu N R x C),Tryz.f270,Tryz.func270,rfl,by decide⟩
theorem Cdy(N:Nat):Aay Tryz.prog (Cb6 N):=⟨A4m N,Aon N,trivial⟩
theorem Bk0(N:Nat):Aar Tryz.prog 191 (A8y N) :=
 ⟨Aao (fn:=Tryz.f191) (c:=Bnf) (dom:=(Aan [])) (rs:=[]) mixed htt (Aag (Aak (Cdy N))) (Aah rfl) Tryz.func191 rfl rfl (by kernel_rfl) (Aai (l:=[]) (by kernel_rfl) trivial) (by decide) (by decide) (by decide) (fun R x C=>Cc0 @Aa4 @Aae N R x C),Tryz.f191,Tryz.func191,rfl,by decide⟩
theorem Bzq(N:Nat):Aay Tryz.prog (By6 N):=⟨Bcn N,trivial⟩
theorem Bw3(N:Nat):Aar Tryz.prog 271 (Bcj N) :=
 ⟨Aao (fn:=Tryz.f271) (c:=Bci) (dom:=(Aan [])) (rs:=[.tmp 4]) mixed htt (Aag (Aak (Bzq N))) (Aah rfl) Tryz.func271 rfl rfl (by kernel_rfl) (Aai (l:=[]) (by kernel_rfl) trivial) (by decide) (by decide) (by decide) (fun R x C=>Bzh @Abf N R x C),Tryz.f271,Tryz.func271,rfl,by decide⟩
theorem Cdz(N:Nat):Aay Tryz.prog (Bni N):=trivial
theorem Caf(N:Nat):Aar Tryz.prog 216 (Bnh N) :=
 ⟨Aao (fn:=Tryz.f216) (c:=Bng) (dom:=(Aan [])) (rs:=[.tmp 2,.tmp 3]) mixed htt (Aag (Aak (Cdz N))) (Aah rfl) Tryz.func216 rfl rfl (by kernel_rfl) (Aai (l:=[]) (by kernel_rfl) trivial) (by decide) (by decide) (by decide) (fun R x C=>Cc1 N R x C),Tryz.f216,Tryz.func216,rfl,by decide⟩
theorem Cd0(N:Nat):Aay Tryz.prog (Bnl N):=trivial
theorem Cag(N:Nat):Aar Tryz.prog 217 (Bnk N) :=
 ⟨Aao (fn:=Tryz.f217) (c:=Bnj) (dom:=(Aan [])) (rs:=[.tmp 4,.tmp 5]) mixed htt (Aag (Aak (Cd0 N))) (Aah rfl) Tryz.func217 rfl rfl (by kernel_rfl) (Aai (l:=[]) (by kernel_rfl) trivial) (by decide) (by decide) (by decide) (fun R x C=>Cc5 N R x C),Tryz.f217,Tryz.func217,rfl,by decide⟩
theorem A9a(N:Nat):Aay Tryz.prog (Cce N):=⟨Ag4 N,trivial⟩
theorem Bzr(N:Nat):Ab1 Tryz.prog 37 (List.replicate 32 true) (sub Akx [1,1,1,1]) (Aab Aiw (Bet N)) :=
 Agn (dom:=(Aan [12,8])) mixed htt (Aag (Aak (A9a N))) (Aah rfl) (by kernel_rfl) (Aai (l:=[]) (by kernel_rfl) trivial) Bes (fun R x K=>B1i @Aaa @Ada @Adc N R x K)
theorem B14(N:Nat):Ab1 Tryz.prog 37 (List.replicate 32 true) (sub Akx [1,1,1]) (Aab Ajc (Bgn N)) :=
 Agn (dom:=(Aan [12,8])) mixed htt (Aag (Aak (A9a N))) (Aah rfl) (by kernel_rfl) (Aai (l:=[(12,sub Akx [1,1,1,1])]) (by kernel_rfl) ⟨⟨_,rfl,Bzr N⟩,trivial⟩) Bgl (fun R x K=>B4n @Aaa @Ada @Adc N R x K)
theorem Cah(N:Nat):Aar Tryz.prog 218 (Bnm N) :=
 ⟨Aao (fn:=Tryz.f218) (c:=Akx) (dom:=(Aan [12,8])) (rs:=[.tmp 4,.tmp 5]) mixed htt (Aag (Aak (A9a N))) (Aah rfl) Tryz.func218 rfl rfl (by kernel_rfl) (Aai (l:=[(8,sub Akx [1,1,1])]) (by kernel_rfl) ⟨⟨_,rfl,B14 N⟩,trivial⟩) (by decide) (by decide) (by decide) (fun R x C=>Ccv @Aaa @Ada @Adc N R x C),Tryz.f218,Tryz.func218,rfl,by decide⟩
theorem Bn0(N:Nat):Aay Tryz.prog (Ccg N):=⟨Ag4 N,trivial⟩
theorem Bzs(N:Nat):Ab1 Tryz.prog 24 [] (sub Asn [1,1,1]) (Aab Akc (Bev N)) :=
 Agn (dom:=(Aan [10])) mixed htt (Aag (Aak (Bn0 N))) (Aah rfl) (by kernel_rfl) (Aai (l:=[]) (by kernel_rfl) trivial) Beu (fun R x K=>B1m @Aaa @Ad3 N R x K)
theorem Cai(N:Nat):Aar Tryz.prog 219 (Bnn N) :=
 ⟨Aao (fn:=Tryz.f219) (c:=Asn) (dom:=(Aan [10])) (rs:=[.tmp 4,.tmp 5]) mixed htt (Aag (Aak (Bn0 N))) (Aah rfl) Tryz.func219 rfl rfl (by kernel_rfl) (Aai (l:=[(10,sub Asn [1,1,1])]) (by kernel_rfl) ⟨⟨_,rfl,Bzs N⟩,trivial⟩) (by decide) (by decide) (by decide) (fun R x C=>Ccw @Aaa @Ad3 N R x C),Tryz.f219,Tryz.func219,rfl,by decide⟩
theorem Bn1(N:Nat):Aay Tryz.prog (Cci N):=trivial
theorem Bzt(N:Nat):Agw Tryz.prog 49 [] (sub Amr [1,1,1,1,0,1,0,0]) (Aab Ahy (A1q N N)) :=
 Af9 (c:=sub Amr [1,1,1,1,0,1,0,0]) (dom:=(Aan [13])) mixed htt (Aag (Aak (Bn1 N))) (Aah rfl) (by kernel_rfl) (Aai (l:=[]) (by kernel_rfl) trivial) Bew (B:=(fun _ _ _=>none)) (Agw.none _ _ _ _) (fun _ _ _=>rfl) (fun R k x K=>B1j @Ad4 N R (fun a0 a1 a2=>Ad4 N k a0 a1 a2 (fun a s=>K (.exit 0) (Aaf Aqo ((a,()),Abh s)))) x K) N
theorem Bzu(N:Nat):Ab1 Tryz.prog 49 [] (sub Amr [1,1,1,1,0,1,0]) (Aab Ahy (A1q N N)):=(Bzt N).frag
theorem Bk1(N:Nat):Aar Tryz.prog 281 (A86 N) :=
 ⟨Aao (fn:=Tryz.f281) (c:=Amr) (dom:=(Aan [13])) (rs:=[.tmp 4]) mixed htt (Aag (Aak (Bn1 N))) (Aah rfl) Tryz.func281 rfl rfl (by kernel_rfl) (Aai (l:=[(13,sub Amr [1,1,1,1,0,1,0])]) (by kernel_rfl) ⟨⟨_,rfl,Bzu N⟩,trivial⟩) (by decide) (by decide) (by decide) (fun R x C=>Cc4 @Ad4 N R x C),Tryz.f281,Tryz.func281,rfl,by decide⟩
theorem B5y(N:Nat):Aay Tryz.prog (B4g N):=⟨Ag4 N,Bk1 N,trivial⟩
theorem B15(N:Nat):Aar Tryz.prog 220 (Bgp N) :=
 ⟨Aao (fn:=Tryz.f220) (c:=Bgo) (dom:=(Aan [])) (rs:=[.tmp 4,.tmp 5]) mixed htt (Aag (Aak (B5y N))) (Aah rfl) Tryz.func220 rfl rfl (by kernel_rfl) (Aai (l:=[]) (by kernel_rfl) trivial) (by decide) (by decide) (by decide) (fun R x C=>B40 @Aaa @Acg N R x C),Tryz.f220,Tryz.func220,rfl,by decide⟩
theorem B16(N:Nat):Aay Tryz.prog (Be1 N):=trivial
theorem Bzv(N:Nat):Aar Tryz.prog 221 (Be0 N) :=
 ⟨Aao (fn:=Tryz.f221) (c:=Bez) (dom:=(Aan [])) (rs:=[.tmp 4,.tmp 5]) mixed htt (Aag (Aak (B16 N))) (Aah rfl) Tryz.func221 rfl rfl (by kernel_rfl) (Aai (l:=[]) (by kernel_rfl) trivial) (by decide) (by decide) (by decide) (fun R x C=>B1l N R x C),Tryz.f221,Tryz.func221,rfl,by decide⟩
theorem Cr9(N:Nat):Aay Tryz.prog (Crd N):=⟨Bmm N,Bfc N,trivial⟩
theorem Co0(N:Nat):Aar Tryz.prog 282 (B25 N) :=
 ⟨Aao (fn:=Tryz.f282) (c:=B24) (dom:=(Aan [])) (rs:=[.tmp 8,.tmp 9,.tmp 10]) mixed htt (Aag (Aak (Cr9 N))) (Aah rfl) Tryz.func282 rfl rfl (by kernel_rfl) (Aai (l:=[]) (by kernel_rfl) trivial) (by decide) (by decide) (by decide) (fun R x C=>Cri @Aea @Aax N R x C),Tryz.f282,Tryz.func282,rfl,by decide⟩
theorem Bgy(N:Nat):Aay Tryz.prog (B4i N):=⟨Ag4 N,Co0 N,trivial⟩
theorem Bw4(N:Nat):Agw Tryz.prog 47 [false] (sub Ala [1,1,0,1,0,0]) (Aab Ahb (Az5 N N)) :=
 Af9 (c:=sub Ala [1,1,0,1,0,0]) (dom:=(Aan [7])) mixed htt (Aag (Aak (Bgy N))) (Aah rfl) (by kernel_rfl) (Aai (l:=[]) (by kernel_rfl) trivial) Bck (B:=(fun _ _ _=>none)) (Agw.none _ _ _ _) (fun _ _ _=>rfl) (fun R k x K=>Bzd @Aaa @Agt @Acr N R (fun a0 a1 a2 a3=>Acr N k a0 a1 a2 a3 (fun a b d s=>K .ret (Aaf Apl ((a,b,()),Afd s d))) (fun a b s=>K (.exit 0) (Aaf Apm (((),(),()),Cl8 s a b)))) x K) N
theorem Bw5(N:Nat):Ab1 Tryz.prog 47 [false] (sub Ala [1,1,0,1,0]) (Aab Ahb (Az5 N N)):=(Bw4 N).frag
theorem B17(N:Nat):Aar Tryz.prog 222 (Bgr N) :=
 ⟨Aao (fn:=Tryz.f222) (c:=Ala) (dom:=(Aan [7])) (rs:=[.tmp 4,.tmp 5]) mixed htt (Aag (Aak (Bgy N))) (Aah rfl) Tryz.func222 rfl rfl (by kernel_rfl) (Aai (l:=[(7,sub Ala [1,1,0,1,0])]) (by kernel_rfl) ⟨⟨_,rfl,Bw5 N⟩,trivial⟩) (by decide) (by decide) (by decide) (fun R x C=>B4o @Aaa @Agt @Acr N R x C),Tryz.f222,Tryz.func222,rfl,by decide⟩
theorem Bco(N:Nat):Aay Tryz.prog (By8 N):=⟨Ag4 N,Bk1 N,trivial⟩
theorem Bo7(N:Nat):Ab1 Tryz.prog 46 [] (sub Aol [1,1,1,1,1,1]) (Aab Aia (A6y N)) :=
 Agn (dom:=(Aan [16])) mixed htt (Aag (Aak (Bco N))) (Aah rfl) (by kernel_rfl) (Aai (l:=[]) (by kernel_rfl) trivial) A6x (fun R x K=>Bsz @Aaa @Acg @Ach N R x K)
theorem Bw6(N:Nat):Aar Tryz.prog 223 (Bcm N) :=
 ⟨Aao (fn:=Tryz.f223) (c:=Aol) (dom:=(Aan [16])) (rs:=[.tmp 4,.tmp 5]) mixed htt (Aag (Aak (Bco N))) (Aah rfl) Tryz.func223 rfl rfl (by kernel_rfl) (Aai (l:=[(16,sub Aol [1,1,1,1,1,1])]) (by kernel_rfl) ⟨⟨_,rfl,Bo7 N⟩,trivial⟩) (by decide) (by decide) (by decide) (fun R x C=>Bze @Aaa @Acg @Ach N R x C),Tryz.f223,Tryz.func223,rfl,by decide⟩
theorem At0(N:Nat):Aay Tryz.prog (B1g N):=⟨Bw2 N,B13 N,Aon N,Ag4 N,Bk0 N,A4m N,Bw3 N,Caf N,Cag N,Cah N,Cai N,B15 N,Bzv N,B17 N,Bw6 N,trivial⟩
theorem Bte(N:Nat):Ab1 Tryz.prog 128 (List.replicate 32 true) (sub Af1 [1,1,1,0,1,0,1,1,1,0,1,1]) (Aab Age (A75 N)) :=
 Agn (dom:=(Aan [26,46,42])) mixed htt (Aag (Aak (At0 N))) (Aah rfl) (by kernel_rfl) (Aai (l:=[]) (by kernel_rfl) trivial) A74 (fun R x K=>Bts @Ab2 @Ab7 @Aae @Aaa @Abi @Aa4 @Abp @Adk @Ac9 @Acu @Acv @Ab8 @Ab4 @Acc @Abq @Aa9 @Abb @Aav N R x K)
theorem Btf(N:Nat):Ab1 Tryz.prog 128 (List.replicate 32 true) (sub Af1 [1,1,1,1,1]) (Aab Agf (A78 N)) :=
 Agn (dom:=(Aan [26,46,42])) mixed htt (Aag (Aak (At0 N))) (Aah rfl) (by kernel_rfl) (Aai (l:=[]) (by kernel_rfl) trivial) A76 (fun R x K=>Btr @Ab2 @Ab7 @Aae @Aaa @Abi @Aa4 @Abp @Adk @Ac9 @Acu @Acv @Ab8 @Ab4 @Acc @Abq @Aa9 @Abb @Aav N R x K)
theorem Btg(N:Nat):Ab1 Tryz.prog 128 (List.replicate 32 true) (sub Af1 [1,1,1,1]) (Aab Agg (A8b N)) :=
 Agn (dom:=(Aan [26,46,42])) mixed htt (Aag (Aak (At0 N))) (Aah rfl) (by kernel_rfl) (Aai (l:=[(46,sub Af1 [1,1,1,1,1])]) (by kernel_rfl) ⟨⟨_,rfl,Btf N⟩,trivial⟩) A79 (fun R x K=>Btt @Ab2 @Ab7 @Aae @Aaa @Abi @Aa4 @Abp @Adk @Ac9 @Acu @Acv @Ab8 @Ab4 @Acc @Abq @Aa9 @Abb @Aav N R x K)
theorem Bzw(N:Nat):Aar Tryz.prog 189 (Be3 N) :=
 ⟨Aao (fn:=Tryz.f189) (c:=Af1) (dom:=(Aan [26,46,42])) (rs:=[]) mixed htt (Aag (Aak (At0 N))) (Aah rfl) Tryz.func189 rfl rfl (by kernel_rfl) (Aai (l:=[(26,sub Af1 [1,1,1,0,1,0,1,1,1,0,1,1]),(42,sub Af1 [1,1,1,1])]) (by kernel_rfl) ⟨⟨_,rfl,Bte N⟩,⟨_,rfl,Btg N⟩,trivial⟩) (by decide) (by decide) (by decide) (fun R x C=>B1n @Ab2 @Ab7 @Aae @Aaa @Abi @Aa4 @Abp @Adk @Ac9 @Acu @Acv @Ab8 @Ab4 @Acc @Abq @Aa9 @Abb @Aav N R x C),Tryz.f189,Tryz.func189,rfl,by decide⟩
theorem Caj(N:Nat):Aay Tryz.prog (B82 N):=⟨Cdx N,Aon N,Cae N,Bzw N,trivial⟩
theorem B5z(N:Nat):Aar Tryz.prog 128 (Bku N) :=
 ⟨Aao (fn:=Tryz.f128) (c:=Bks) (dom:=(Aan [])) (rs:=[]) mixed htt (Aag (Aak (Caj N))) (Aah rfl) Tryz.func128 rfl rfl (by kernel_rfl) (Aai (l:=[]) (by kernel_rfl) trivial) (by decide) (by decide) (by decide) (fun R x C=>B9k @Ag9 @Aae @Aha @Ad5 N R x C),Tryz.f128,Tryz.func128,rfl,by decide⟩
theorem Bo8(N:Nat):Aay Tryz.prog (Boj N):=⟨B5z N,trivial⟩
theorem Bmq(N:Nat):Aar Tryz.prog 164 (A4f N) :=
 ⟨Aao (fn:=Tryz.f164) (c:=A4d) (dom:=(Aan [])) (rs:=[.tmp 5]) mixed htt (Aag (Aak (Bo8 N))) (Aah rfl) Tryz.func164 rfl rfl (by kernel_rfl) (Aai (l:=[]) (by kernel_rfl) trivial) (by decide) (by decide) (by decide) (fun R x C=>Bop @Af2 N R x C),Tryz.f164,Tryz.func164,rfl,by decide⟩
theorem Cd1(N:Nat):Aay Tryz.prog (Bns N):=trivial
theorem Cak(N:Nat):Aar Tryz.prog 190 (Bnr N) :=
 ⟨Aao (fn:=Tryz.f190) (c:=Bnp) (dom:=(Aan [])) (rs:=[.tmp 2]) mixed htt (Aag (Aak (Cd1 N))) (Aah rfl) Tryz.func190 rfl rfl (by kernel_rfl) (Aai (l:=[]) (by kernel_rfl) trivial) (by decide) (by decide) (by decide) (fun R x C=>Ccy N R x C),Tryz.f190,Tryz.func190,rfl,by decide⟩
theorem Cd2(N:Nat):Aay Tryz.prog (Bnw N):=trivial
theorem Cal(N:Nat):Aar Tryz.prog 192 (Bnv N) :=
 ⟨Aao (fn:=Tryz.f192) (c:=Bnt) (dom:=(Aan [])) (rs:=[.tmp 4]) mixed htt (Aag (Aak (Cd2 N))) (Aah rfl) Tryz.func192 rfl rfl (by kernel_rfl) (Aai (l:=[]) (by kernel_rfl) trivial) (by decide) (by decide) (by decide) (fun R x C=>Cct N R x C),Tryz.f192,Tryz.func192,rfl,by decide⟩
theorem Co1(N:Nat):Aay Tryz.prog (Bzc N):=trivial
theorem Ck2(N:Nat):Aar Tryz.prog 100 (Bzb N) :=
 ⟨Aao (fn:=Tryz.f100) (c:=By9) (dom:=(Aan [])) (rs:=[.tmp 2,.tmp 3]) mixed htt (Aag (Aak (Co1 N))) (Aah rfl) Tryz.func100 rfl rfl (by kernel_rfl) (Aai (l:=[]) (by kernel_rfl) trivial) (by decide) (by decide) (by decide) (fun R x C=>Cnz N R x C),Tryz.f100,Tryz.func100,rfl,by decide⟩
theorem Csa(N:Nat):Aay Tryz.prog (Crf N):=⟨Ck2 N,trivial⟩
theorem Co2(N:Nat):Aar Tryz.prog 151 (B28 N) :=
 ⟨Aao (fn:=Tryz.f151) (c:=B26) (dom:=(Aan [])) (rs:=[.tmp 4,.tmp 5]) mixed htt (Aag (Aak (Csa N))) (Aah rfl) Tryz.func151 rfl rfl (by kernel_rfl) (Aai (l:=[]) (by kernel_rfl) trivial) (by decide) (by decide) (by decide) (fun R x C=>Crs @Aki N R x C),Tryz.f151,Tryz.func151,rfl,by decide⟩
theorem B50(N:Nat):Aay Tryz.prog (B4k N):=⟨Aoo N,Aon N,Cak N,Bk0 N,Cal N,Co2 N,A4m N,trivial⟩
theorem B18(N:Nat):Aar Tryz.prog 129 (Bgu N) :=
 ⟨Aao (fn:=Tryz.f129) (c:=Bgs) (dom:=(Aan [])) (rs:=[]) mixed htt (Aag (Aak (B50 N))) (Aah rfl) Tryz.func129 rfl rfl (by kernel_rfl) (Aai (l:=[]) (by kernel_rfl) trivial) (by decide) (by decide) (by decide) (fun R x C=>B4s @Aap @Aae @Ahc @Abi @Ae5 @Agu @Aa4 N R x C),Tryz.f129,Tryz.func129,rfl,by decide⟩
theorem Bo9(N:Nat):Aay Tryz.prog (Bol N):=⟨B18 N,trivial⟩
theorem Bmr(N:Nat):Aar Tryz.prog 165 (A4i N) :=
 ⟨Aao (fn:=Tryz.f165) (c:=A4g) (dom:=(Aan [])) (rs:=[.tmp 5]) mixed htt (Aag (Aak (Bo9 N))) (Aah rfl) Tryz.func165 rfl rfl (by kernel_rfl) (Aai (l:=[]) (by kernel_rfl) trivial) (by decide) (by decide) (by decide) (fun R x C=>Bou @Afm N R x C),Tryz.f165,Tryz.func165,rfl,by decide⟩
theorem A4n(N:Nat):Aay Tryz.prog (Bon N):=⟨Bfd N,Aor N,trivial⟩
theorem Bih(N:Nat):Agw Tryz.prog 67 [] (sub Ahz [1,1,0,1,0,0]) (Aab Ae6 (Ard N N)) :=
 Af9 (c:=sub Ahz [1,1,0,1,0,0]) (dom:=(Aan [7])) mixed htt (Aag (Aak (A4n N))) (Aah rfl) (by kernel_rfl) (Aai (l:=[]) (by kernel_rfl) trivial) A0g (B:=(fun _ _ _=>none)) (Agw.none _ _ _ _) (fun _ _ _=>rfl) (fun R k x K=>Bkw @Abo @Aat @Abl N R (fun a0 a1 a2 a3 a4=>Abl N k a0 a1 a2 a3 a4 (fun a s=>K (.exit 0) (Aaf Alk (((),a,()),Agx s)))) x K) N
theorem Bii(N:Nat):Ab1 Tryz.prog 67 [] (sub Ahz [1,1,0,1,0]) (Aab Ae6 (Ard N N)):=(Bih N).frag
theorem Bms(N:Nat):Aar Tryz.prog 166 (A4j N) :=
 ⟨Aao (fn:=Tryz.f166) (c:=Ahz) (dom:=(Aan [7])) (rs:=[.tmp 6]) mixed htt (Aag (Aak (A4n N))) (Aah rfl) Tryz.func166 rfl rfl (by kernel_rfl) (Aai (l:=[(7,sub Ahz [1,1,0,1,0])]) (by kernel_rfl) ⟨⟨_,rfl,Bii N⟩,trivial⟩) (by decide) (by decide) (by decide) (fun R x C=>Boq @Abo @Aat @Abl N R x C),Tryz.f166,Tryz.func166,rfl,by decide⟩
theorem Bgz(N:Nat):Aay Tryz.prog (B4m N):=⟨Cw8 N,C20 N,Bow N,Box N,Boy N,Boz N,Bo0 N,Bo1 N,Bo2 N,Bo3 N,Bmn N,Bmo N,Bmp N,Bmq N,Bmr N,Bms N,trivial⟩
theorem Btz(N:Nat):Ab1 Tryz.prog 106 (List.replicate 32 true) (sub Apo [1,1,1,1,1]) (Aab Ai0 (A9y N)) :=
 Agn (dom:=(Aan [12])) mixed htt (Aag (Aak (Bgz N))) (Aah rfl) (by kernel_rfl) (Aai (l:=[]) (by kernel_rfl) trivial) A9x (fun R x K=>Bww @Aic @Apb @Adh @Ac1 @Adi @Adj @Ac2 @Ac3 @Ac4 @Ac5 @Aci @Acj @Ack @Acl @Acm @Acn @Abv N R x K)
theorem B19(N:Nat):Aar Tryz.prog 63 (Bgv N) :=
 ⟨Aao (fn:=Tryz.f63) (c:=Apo) (dom:=(Aan [12])) (rs:=[.tmp 2]) mixed htt (Aag (Aak (Bgz N))) (Aah rfl) Tryz.func63 rfl rfl (by kernel_rfl) (Aai (l:=[(12,sub Apo [1,1,1,1,1])]) (by kernel_rfl) ⟨⟨_,rfl,Btz N⟩,trivial⟩) (by decide) (by decide) (by decide) (fun R x C=>B4r @Aic @Apb @Adh @Ac1 @Adi @Adj @Ac2 @Ac3 @Ac4 @Ac5 @Aci @Acj @Ack @Acl @Acm @Acn @Abv N R x C),Tryz.f63,Tryz.func63,rfl,by decide⟩
theorem Ce8(N:Nat):Aay Tryz.prog (Cyy N):=⟨B5e N,B19 N,Aon N,trivial⟩
theorem Co3(N:Nat):Agw Tryz.prog 41 (List.replicate 32 true) (sub Ayb [1,0,0]) (Aab Ano (Bmi N N)) :=
 Af9 (c:=sub Ayb [1,0,0]) (dom:=(Aan [3])) mixed htt (Aag (Aak (Ce8 N))) (Aah rfl) (by kernel_rfl) (Aai (l:=[]) (by kernel_rfl) trivial) B29 (B:=(fun _ _ _=>none)) (Agw.none _ _ _ _) (fun _ _ _=>rfl) (fun R k x K=>Crq @Aec @Adn @Aae @Aes N R (fun a0 a1 a2=>Aes N k a0 a1 a2 (fun s=>K (.exit 0) (Aaf A4k ((()),Abh s)))) x K) N
theorem Co4(N:Nat):Ab1 Tryz.prog 41 (List.replicate 32 true) (sub Ayb [1,0]) (Aab Ano (Bmi N N)):=(Co3 N).frag
theorem Cxb(N:Nat):Aar Tryz.prog 62 (Ce4 N) :=
 ⟨Aao (fn:=Tryz.f62) (c:=Ayb) (dom:=(Aan [3])) (rs:=[]) mixed htt (Aag (Aak (Ce8 N))) (Aah rfl) Tryz.func62 rfl rfl (by kernel_rfl) (Aai (l:=[(3,sub Ayb [1,0])]) (by kernel_rfl) ⟨⟨_,rfl,Co4 N⟩,trivial⟩) (by decide) (by decide) (by decide) (fun R x C=>Cy1 @Aec @Adn @Aae @Aes N R x C),Tryz.f62,Tryz.func62,rfl,by decide⟩
theorem Bvn(N:Nat):Aay Tryz.prog (Cj2 N):=trivial
theorem Cam(N:Nat):Ab1 Tryz.prog 26 [false] (sub Axz [1,1,1]) (Aab Ams (Bny N)) :=
 Agn (dom:=(Aan [8])) mixed htt (Aag (Aak (Bvn N))) (Aah rfl) (by kernel_rfl) (Aai (l:=[]) (by kernel_rfl) trivial) Bnx (fun R x K=>Cc3 @Afn N R x K)
theorem Chr(N:Nat):Aar Tryz.prog 64 (Bvh N) :=
 ⟨Aao (fn:=Tryz.f64) (c:=Axz) (dom:=(Aan [8])) (rs:=[.cell 2 42]) mixed htt (Aag (Aak (Bvn N))) (Aah rfl) Tryz.func64 rfl rfl (by kernel_rfl) (Aai (l:=[(8,sub Axz [1,1,1])]) (by kernel_rfl) ⟨⟨_,rfl,Cam N⟩,trivial⟩) (by decide) (by decide) (by decide) (fun R x C=>Cke @Afn N R x C),Tryz.f64,Tryz.func64,rfl,by decide⟩
theorem C21(N:Nat):Aay Tryz.prog (C2w N):=⟨Cr6 N,Cxb N,Chr N,trivial⟩
theorem Czg(N:Nat):Aar Tryz.prog 22 (Cj4 N) :=
 ⟨Aao (fn:=Tryz.f22) (c:=Cjj) (dom:=(Aan [])) (rs:=[.cell 8 42,.tmp 9]) mixed htt (Aag (Aak (C21 N))) (Aah rfl) Tryz.func22 rfl rfl (by kernel_rfl) (Aai (l:=[]) (by kernel_rfl) trivial) (by decide) (by decide) (by decide) (fun R x C=>C2x @Akb @Am4 @Ah6 N R x C),Tryz.f22,Tryz.func22,rfl,by decide⟩
theorem Chs(N:Nat):Aay Tryz.prog (Bsr N):=trivial
theorem Cd3(N:Nat):Aar Tryz.prog 24 (Bsq N) :=
 ⟨Aao (fn:=Tryz.f24) (c:=Bso) (dom:=(Aan [])) (rs:=[.tmp 4]) mixed htt (Aag (Aak (Chs N))) (Aah rfl) Tryz.func24 rfl rfl (by kernel_rfl) (Aai (l:=[]) (by kernel_rfl) trivial) (by decide) (by decide) (by decide) (fun R x C=>Cgz N R x C),Tryz.f24,Tryz.func24,rfl,by decide⟩
theorem Cht(N:Nat):Aay Tryz.prog (Cgj N):=⟨Cob N,Coc N,Czg N,Cd3 N,trivial⟩
theorem Cd4(N:Nat):Aar Tryz.prog 7 (Bss N) :=
 ⟨Aao (fn:=Tryz.f7) (c:=Bqc) (dom:=(Aan [])) (rs:=[.tmp 4]) mixed htt (Aag (Aak (Cht N))) (Aah rfl) Tryz.func7 rfl rfl (by kernel_rfl) (Aai (l:=[]) (by kernel_rfl) trivial) (by decide) (by decide) (by decide) (fun R x C=>Cgs @Aig @Al1 @Aiq N R x C),Tryz.f7,Tryz.func7,rfl,by decide⟩
end
end Q

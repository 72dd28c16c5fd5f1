/- Part O of the proof. -/
import Derived.Test.YtjdklngopfpjgaaGreatDoorE1
import Derived.Test.YtjdklngopfpjgaaGreatDoorE2
import Derived.Test.YtjdklngopfpjgaaGreatDoorSh
import Derived.WalkKit
import Derived.Laws.Externs
import Derived.Test.YtjdklngopfpjgaaGreatDoorAW
import Derived.Test.YtjdklngopfpjgaaGreatDoorAD
open Go Go.AX Go.Proofs
namespace Q
noncomputable section
set_option maxRecDepth 100000
set_option linter.unusedVariables false
theorem htt:Akq Tryz.prog tt:=B4f (l:=types) (by kernel_rfl)
theorem mixed:Tryz.prog.follows .mixedOrders=true:=by kernel_rfl
theorem Bp9(N:Nat):Ada Tryz.prog (B85 N):=trivial
theorem By0(N:Nat):Aee Tryz.prog 57 [] (sub Aph [1,1,0,1,0,0]) (Aaa Akh (A6i N N)) :=
 Ado (c:=sub Aph [1,1,0,1,0,0]) (dom:=(Aau [7])) mixed htt (Aae (Aam (Bp9 N))) (Aaf rfl) (by kernel_rfl) (Aah (l:=[]) (by kernel_rfl) trivial) Bi3 (B:=(fun _ _ _=>none)) (Aee.none _ _ _ _) (fun _ _ _=>rfl) (fun R k x K=>B2s @Afl N R (fun a0 a1 a2 a3 a4 a5 a6=>Afl N k a0 a1 a2 a3 a4 a5 a6 (fun a b d e f g=>K (.exit 0) (Aab Atn (((),a,()),((b,d,e,f,g,()),()))))) x K) N
theorem By1(N:Nat):Aa1 Tryz.prog 57 [] (sub Aph [1,1,0,1,0]) (Aaa Akh (A6i N N)):=(By0 N).frag
theorem B6g(N:Nat):Abk Tryz.prog 10 (Bpc N) :=
 ⟨Abn (fn:=Tryz.f10) (c:=Aph) (dom:=(Aau [7])) (rs:=[.tmp 2]) mixed htt (Aae (Aam (Bp9 N))) (Aaf rfl) Tryz.func10 rfl rfl (by kernel_rfl) (Aah (l:=[(7,sub Aph [1,1,0,1,0])]) (by kernel_rfl) ⟨⟨_,rfl,By1 N⟩,trivial⟩) (by decide) (by decide) (by decide) (fun R x C=>Ca6 @Afl N R x C),Tryz.f10,Tryz.func10,rfl,by decide⟩
theorem Bqa(N:Nat):Ada Tryz.prog (B87 N):=trivial
theorem Buf(N:Nat):Aee Tryz.prog 50 [] (sub Api [1,1,1,0,1,0,0]) (Aaa Ajc (A3e N N)) :=
 Ado (c:=sub Api [1,1,1,0,1,0,0]) (dom:=(Aau [11])) mixed htt (Aae (Aam (Bqa N))) (Aaf rfl) (by kernel_rfl) (Aah (l:=[]) (by kernel_rfl) trivial) Bfn (B:=(fun _ _ _=>none)) (Aee.none _ _ _ _) (fun _ _ _=>rfl) (fun R k x K=>Byb @Aek N R (fun a0 a1 a2 a3=>Aek N k a0 a1 a2 a3 (fun a=>K (.exit 0) (Aab Ar3 ((a,()),(()))))) x K) N
theorem Bug(N:Nat):Aa1 Tryz.prog 50 [] (sub Api [1,1,1,0,1,0]) (Aaa Ajc (A3e N N)):=(Buf N).frag
theorem B6h(N:Nat):Abk Tryz.prog 103 (Bpf N) :=
 ⟨Abn (fn:=Tryz.f103) (c:=Api) (dom:=(Aau [11])) (rs:=[.tmp 2]) mixed htt (Aae (Aam (Bqa N))) (Aaf rfl) Tryz.func103 rfl rfl (by kernel_rfl) (Aah (l:=[(11,sub Api [1,1,1,0,1,0])]) (by kernel_rfl) ⟨⟨_,rfl,Bug N⟩,trivial⟩) (by decide) (by decide) (by decide) (fun R x C=>Cat @Aek N R x C),Tryz.f103,Tryz.func103,rfl,by decide⟩
theorem Bfk:(Tryz.prog.info? 80).map (·.size)=some 2:=by kernel_rfl
theorem Bw5:liesAt Tryz.prog Tryz.prog.depth 80 (2/Tryz.prog.cellsOf 80) 0 80 1=true:=by kernel_rfl
set_option maxHeartbeats 1000000 in
theorem A83(b:Nat)(w:World)(h0:w.cell? ⟨b,0,none⟩=some (.pointer (some ⟨b,0,none⟩))) :
  Calls Tryz.prog 100 #[.pointer (some ⟨b,0,none⟩)] w fun e w'=>e = .returned (.tuple #[])∧w'=w:=by
 obtain⟨j,hj,_⟩:=Option.map_eq_some_iff.1 Bfk
 go_enter Tryz.func100,Tryz.ntmps100
 go_wp2
 rw[Lib.run_neq_ptr_same w _ Tryz.underlying78 hj]
 go_wp2
 go_end0
 exact⟨rfl,rfl⟩
set_option maxHeartbeats 1000000 in
theorem A6b(b:Nat)(w:World)(h0:w.cell? ⟨b,0,none⟩=some (.pointer none))(hsh:w.shape? b=some (80,2))(hfz:w.frozen? ⟨b,0,none⟩=false) :
  Calls Tryz.prog 100 #[.pointer (some ⟨b,0,none⟩)] w fun e w'=>e = .returned (.tuple #[])∧w'=w.setCell ⟨b,0,none⟩ (.pointer (some ⟨b,0,none⟩)):=by
 obtain⟨j,hj,hjs⟩:=Option.map_eq_some_iff.1 Bfk
 go_enter Tryz.func100,Tryz.ntmps100
 go_wp2
 rw[Lib.run_to_unsafe w ⟨b,0,none⟩ Tryz.underlying78 Tryz.underlying161 hj (by rw[hjs];decide) hsh (Nat.zero_lt_succ 1)]
 simp only[Result.andThen]
 rw[Oper.upon_value]
 go_wp2
 rw[run_callFunc_extern Tryz.func158 (by kernel_rfl) (by kernel_rfl) (by kernel_rfl) (e:=Extern.AbiNoEscape.same) (by kernel_rfl)]
 rw[Lib.run_noEscape]
 simp only[Result.andThen]
 rw[Oper.upon_value]
 go_wp2
 rw[Lib.run_from_unsafe w ⟨b,0,none⟩ Tryz.underlying161 Tryz.underlying78 hj hsh Bw5]
 simp only[Result.andThen]
 rw[Oper.upon_value]
 go_wp2
 go_end0
 exact⟨rfl,rfl⟩
theorem Alu(N:Nat):Abk Tryz.prog 100 (Aja N) :=
 ⟨Cc2 A83 A6b,Tryz.f100,Tryz.func100,rfl,by decide⟩
theorem Bbc(N:Nat):Ada Tryz.prog (Au5 N):=⟨Alu N,trivial⟩
theorem A9y(N:Nat):Abk Tryz.prog 56 (Au4 N) :=
 ⟨Abn (fn:=Tryz.f56) (c:=Al4) (dom:=(Aau [])) (rs:=[.tmp 4]) mixed htt (Aae (Aam (Bbc N))) (Aaf rfl) Tryz.func56 rfl rfl (by kernel_rfl) (Aah (l:=[]) (by kernel_rfl) trivial) (by decide) (by decide) (by decide) (fun R x C=>Bbb N R x C),Tryz.f56,Tryz.func56,rfl,by decide⟩
theorem Boy(N:Nat):Abk Tryz.prog 222 (Arb N) :=
 ⟨Cc1 Tryz.strings_IndexByte,Tryz.f222,Tryz.func222,rfl,by decide⟩
theorem A8a(N:Nat):Ada Tryz.prog (Ar4 N):=⟨Alu N,trivial⟩
theorem Ari(N:Nat):Abk Tryz.prog 56 (Anb N) :=
 ⟨Abn (fn:=Tryz.f56) (c:=Al4) (dom:=(Aau [])) (rs:=[.tmp 4]) mixed htt (Aae (Aam (A8a N))) (Aaf rfl) Tryz.func56 rfl rfl (by kernel_rfl) (Aah (l:=[]) (by kernel_rfl) trivial) (by decide) (by decide) (by decide) (fun R x C=>A79 N R x C),Tryz.f56,Tryz.func56,rfl,by decide⟩
theorem Ays(N:Nat):Abk Tryz.prog 57 (Afa N) :=
 ⟨Ckw Tryz.lays169 Tryz.Builder_Extra_169,Tryz.f57,Tryz.func57,rfl,by decide⟩
theorem Bwi(N:Nat):Ada Tryz.prog (Cfv N):=⟨B0u rfl (A9y N) (Ari N),Boy N,Ays N,trivial⟩
theorem B6i(N:Nat):Aee Tryz.prog 41 [] (sub Ate [1,1,1,0,1,0,0]) (Aaa Amc (Bb0 N N)) :=
 Ado (c:=sub Ate [1,1,1,0,1,0,0]) (dom:=(Aau [9])) mixed htt (Aae (Aam (Bwi N))) (Aaf rfl) (by kernel_rfl) (Aah (l:=[]) (by kernel_rfl) trivial) Bpg (B:=(fun _ _ _=>none)) (Aee.none _ _ _ _) (fun _ _ _=>rfl) (fun R k x K=>Caz @Abs @Aad @Agw N R (fun a0 a1 a2 a3=>Agw N k a0 a1 a2 a3 (fun a b=>K .ret (Aab Axp ((a,b,()),(())))) (fun a b=>K (.exit 0) (Aab Axq ((a,(),()),(((),(),()),b,()))))) x K) N
theorem B6j(N:Nat):Aa1 Tryz.prog 41 [] (sub Ate [1,1,1,0,1,0]) (Aaa Amc (Bb0 N N)):=(B6i N).frag
theorem Bsz(N:Nat):Abk Tryz.prog 160 (Bkz N) :=
 ⟨Abn (fn:=Tryz.f160) (c:=Ate) (dom:=(Aau [9])) (rs:=[.tmp 2,.tmp 3]) mixed htt (Aae (Aam (Bwi N))) (Aaf rfl) Tryz.func160 rfl rfl (by kernel_rfl) (Aah (l:=[(9,sub Ate [1,1,1,0,1,0])]) (by kernel_rfl) ⟨⟨_,rfl,B6j N⟩,trivial⟩) (by decide) (by decide) (by decide) (fun R x C=>Cga @Abs @Aad @Agw N R x C),Tryz.f160,Tryz.func160,rfl,by decide⟩
theorem Cbc(N:Nat):Ada Tryz.prog (Bpj N):=trivial
theorem Bnc(N:Nat):Abk Tryz.prog 161 (Bb2 N) :=
 ⟨Abn (fn:=Tryz.f161) (c:=Bpi) (dom:=(Aau [])) (rs:=[.cell 0 167]) mixed htt (Aae (Aam (Cbc N))) (Aaf rfl) Tryz.func161 rfl rfl (by kernel_rfl) (Aah (l:=[]) (by kernel_rfl) trivial) (by decide) (by decide) (by decide) (fun R x C=>Caw N R x C),Tryz.f161,Tryz.func161,rfl,by decide⟩
theorem Cj0(N:Nat):Ada Tryz.prog (B1n N):=trivial
theorem Bac(N:Nat):Abk Tryz.prog 224 (A6p N) :=
 ⟨Abn (fn:=Tryz.f224) (c:=B1m) (dom:=(Aau [])) (rs:=[.tmp 6]) mixed htt (Aae (Aam (Cj0 N))) (Aaf rfl) Tryz.func224 rfl rfl (by kernel_rfl) (Aah (l:=[]) (by kernel_rfl) trivial) (by decide) (by decide) (by decide) (fun R x C=>Cjx N R x C),Tryz.f224,Tryz.func224,rfl,by decide⟩
theorem Cew(N:Nat):Ada Tryz.prog (Cd9 N):=⟨Bac N,trivial⟩
theorem Bqb(N:Nat):Abk Tryz.prog 223 (Bfr N) :=
 ⟨Abn (fn:=Tryz.f223) (c:=Br9) (dom:=(Aau [])) (rs:=[.tmp 2]) mixed htt (Aae (Aam (Cew N))) (Aaf rfl) Tryz.func223 rfl rfl (by kernel_rfl) (Aah (l:=[]) (by kernel_rfl) trivial) (by decide) (by decide) (by decide) (fun R x C=>Cev @Abg N R x C),Tryz.f223,Tryz.func223,rfl,by decide⟩
theorem Bj8(N:Nat):Ada Tryz.prog (B1p N):=⟨Bac N,Bqb N,trivial⟩
theorem Bqp(N:Nat):Aa1 Tryz.prog 102 [] (sub Ar5 [1,1,1]) (Aaa Akw (Bau N)) :=
 Adc (dom:=(Aau [42])) mixed htt (Aae (Aam (Bj8 N))) (Aaf rfl) (by kernel_rfl) (Aah (l:=[]) (by kernel_rfl) trivial) Bat (fun R x K=>Bsy @Abg @Afb @Abx N R x K)
theorem By2(N:Nat):Abk Tryz.prog 162 (Bi7 N) :=
 ⟨Abn (fn:=Tryz.f162) (c:=Ar5) (dom:=(Aau [42])) (rs:=[.tmp 6]) mixed htt (Aae (Aam (Bj8 N))) (Aaf rfl) Tryz.func162 rfl rfl (by kernel_rfl) (Aah (l:=[(42,sub Ar5 [1,1,1])]) (by kernel_rfl) ⟨⟨_,rfl,Bqp N⟩,trivial⟩) (by decide) (by decide) (by decide) (fun R x C=>B2e @Abg @Afb @Abx N R x C),Tryz.f162,Tryz.func162,rfl,by decide⟩
theorem Bnd(N:Nat):Ada Tryz.prog (B40 N):=trivial
theorem Buh(N:Nat):Aee Tryz.prog 74 [] (sub An3 [1,1,1,0,1,0,0]) (Aaa Aje (A3l N N)) :=
 Ado (c:=sub An3 [1,1,1,0,1,0,0]) (dom:=(Aau [9])) mixed htt (Aae (Aam (Bnd N))) (Aaf rfl) (by kernel_rfl) (Aah (l:=[]) (by kernel_rfl) trivial) Bfu (B:=(fun _ _ _=>none)) (Aee.none _ _ _ _) (fun _ _ _=>rfl) (fun R k x K=>Bx7 @Ae2 N R (fun a0 a1 a2 a3 a4 a5 a6 a7 a8 a9 a10 a11 a12=>Ae2 N k a0 a1 a2 a3 a4 a5 a6 a7 a8 a9 a10 a11 a12 (fun a b d=>K .ret (Aab Ar9 (((),(),a,()),(b,d,())))) (fun a b d e f g h i j m=>K (.exit 0) (Aab Asa (((),(),(),a,b,()),((d,e,f,g,h,i,()),j,m,()))))) x K) N
theorem Bui(N:Nat):Aa1 Tryz.prog 74 [] (sub An3 [1,1,1,0,1,0]) (Aaa Aje (A3l N N)):=(Buh N).frag
theorem Bj9(N:Nat):Abk Tryz.prog 163 (A87 N) :=
 ⟨Abn (fn:=Tryz.f163) (c:=An3) (dom:=(Aau [9])) (rs:=[.tmp 2,.tmp 3,.tmp 4]) mixed htt (Aae (Aam (Bnd N))) (Aaf rfl) Tryz.func163 rfl rfl (by kernel_rfl) (Aah (l:=[(9,sub An3 [1,1,1,0,1,0])]) (by kernel_rfl) ⟨⟨_,rfl,Bui N⟩,trivial⟩) (by decide) (by decide) (by decide) (fun R x C=>B6d @Ae2 N R x C),Tryz.f163,Tryz.func163,rfl,by decide⟩
theorem Bs0(N:Nat):Ada Tryz.prog (Ceb N):=trivial
theorem By3(N:Nat):Aa1 Tryz.prog 39 [] (sub Ay6 [1,0,1,0,1]) (Aaa Anc (Bi9 N)) :=
 Adc (dom:=(Aau [12])) mixed htt (Aae (Aam (Bs0 N))) (Aaf rfl) (by kernel_rfl) (Aah (l:=[]) (by kernel_rfl) trivial) Bi8 (fun R x K=>B2u @Ae5 N R x K)
theorem Bqc(N:Nat):Abk Tryz.prog 170 (Bf0 N) :=
 ⟨Abn (fn:=Tryz.f170) (c:=Ay6) (dom:=(Aau [12])) (rs:=[.tmp 4]) mixed htt (Aae (Aam (Bs0 N))) (Aaf rfl) Tryz.func170 rfl rfl (by kernel_rfl) (Aah (l:=[(12,sub Ay6 [1,0,1,0,1])]) (by kernel_rfl) ⟨⟨_,rfl,By3 N⟩,trivial⟩) (by decide) (by decide) (by decide) (fun R x C=>Ces @Ae5 N R x C),Tryz.f170,Tryz.func170,rfl,by decide⟩
theorem A2z(N:Nat):Ada Tryz.prog (B9c N):=⟨Bqc N,trivial⟩
theorem Buj(N:Nat):Aee Tryz.prog 132 [] (sub Agz [1,0,1,0,0,1,0,0,1,0,1,0,1,0,0,1,0,0]) (Aaa Aho (A3n N N)) :=
 Ado (c:=sub Agz [1,0,1,0,0,1,0,0,1,0,1,0,1,0,0,1,0,0]) (dom:=(Aau [17,44,5])) mixed htt (Aae (Aam (A2z N))) (Aaf rfl) (by kernel_rfl) (Aah (l:=[]) (by kernel_rfl) trivial) Bfw (B:=(fun _ _ _=>none)) (Aee.none _ _ _ _) (fun _ _ _=>rfl) (fun R k x K=>Byt @Abz @Acv @Abr @Acl N R (fun a0 a1 a2 a3=>Acv N k a0 a1 a2 a3 (fun a=>K .ret (Aab Asb ((a,()),(())))) (fun a b=>K (.exit 3) (Aab Asc ((a,b,()),(()))))) x K) N
theorem Buk(N:Nat):Aa1 Tryz.prog 132 [] (sub Agz [1,0,1,0,0,1,0,0,1,0,1,0,1,0,0,1,0]) (Aaa Aho (A3n N N)):=(Buj N).frag
theorem Bul(N:Nat):Aa1 Tryz.prog 132 [] (sub Agz [1,0,1,0,0,1,0,0,1,1]) (Aaa Ajf (Bf2 N)) :=
 Adc (dom:=(Aau [17,44,5])) mixed htt (Aae (Aam (A2z N))) (Aaf rfl) (by kernel_rfl) (Aah (l:=[]) (by kernel_rfl) trivial) Bf1 (fun R x K=>Bx9 @Abz @Acv @Abr @Acl N R x K)
theorem By4(N:Nat):Aee Tryz.prog 132 [] (sub Agz [1,0,1,0,0]) (Aaa Ah7 (A6w N N)) :=
 Ado (c:=sub Agz [1,0,1,0,0]) (dom:=(Aau [17,44,5])) mixed htt (Aae (Aam (A2z N))) (Aaf rfl) (by kernel_rfl) (Aah (l:=[(17,sub Agz [1,0,1,0,0,1,0,0,1,0,1,0,1,0,0,1,0]),(44,sub Agz [1,0,1,0,0,1,0,0,1,1])]) (by kernel_rfl) ⟨⟨_,rfl,Buk N⟩,⟨_,rfl,Bul N⟩,trivial⟩) Bja (B:=(fun _ _ _=>none)) (Aee.none _ _ _ _) (fun _ _ _=>rfl) (fun R k x K=>B2q @Abz @Acv @Abr @Acl N R (fun a0 a1=>Acl N k a0 a1 (fun a=>K .ret (Aab Atq ((a,()),(())))) (fun a=>K (.exit 0) (Aab Atr ((a,()),(()))))) x K) N
theorem By5(N:Nat):Aa1 Tryz.prog 132 [] (sub Agz [1,0,1,0]) (Aaa Ah7 (A6w N N)):=(By4 N).frag
theorem B6k(N:Nat):Abk Tryz.prog 164 (Bpk N) :=
 ⟨Abn (fn:=Tryz.f164) (c:=Agz) (dom:=(Aau [17,44,5])) (rs:=[.tmp 2]) mixed htt (Aae (Aam (A2z N))) (Aaf rfl) Tryz.func164 rfl rfl (by kernel_rfl) (Aah (l:=[(5,sub Agz [1,0,1,0])]) (by kernel_rfl) ⟨⟨_,rfl,By5 N⟩,trivial⟩) (by decide) (by decide) (by decide) (fun R x C=>Cap @Abz @Acv @Abr @Acl N R x C),Tryz.f164,Tryz.func164,rfl,by decide⟩
theorem B2w(N:Nat):Ada Tryz.prog (B1s N):=⟨Bqb N,trivial⟩
theorem By6(N:Nat):Abk Tryz.prog 226 (Bjd N) :=
 ⟨Abn (fn:=Tryz.f226) (c:=Bjc) (dom:=(Aau [])) (rs:=[.tmp 2]) mixed htt (Aae (Aam (B2w N))) (Aaf rfl) Tryz.func226 rfl rfl (by kernel_rfl) (Aah (l:=[]) (by kernel_rfl) trivial) (by decide) (by decide) (by decide) (fun R x C=>B2l @Afb N R x C),Tryz.f226,Tryz.func226,rfl,by decide⟩
theorem Aww(N:Nat):Ada Tryz.prog (Bb6 N):=⟨By6 N,trivial⟩
theorem A8p(N:Nat):Aee Tryz.prog 19 [] (sub Ag0 [1,0,1,0,0]) (Aaa Ad8 (An8 N N)) :=
 Ado (c:=sub Ag0 [1,0,1,0,0]) (dom:=(Aau [5])) mixed htt (Aae (Aam (Aww N))) (Aaf rfl) (by kernel_rfl) (Aah (l:=[]) (by kernel_rfl) trivial) Auo (B:=(fun _ _ _=>none)) (Aee.none _ _ _ _) (fun _ _ _=>rfl) (fun R k x K=>A9x @Agc @Abi N R (fun a0 a1 a2=>Abi N k a0 a1 a2 (fun a=>K .ret (Aab Aki ((a,()),(())))) (K (.exit 0) (Aab Akj ((()),(()))))) x K) N
theorem A8q(N:Nat):Aa1 Tryz.prog 19 [] (sub Ag0 [1,0,1,0]) (Aaa Ad8 (An8 N N)):=(A8p N).frag
theorem Bbd(N:Nat):Abk Tryz.prog 240 (Awm N) :=
 ⟨Abn (fn:=Tryz.f240) (c:=Ag0) (dom:=(Aau [5])) (rs:=[.tmp 4]) mixed htt (Aae (Aam (Aww N))) (Aaf rfl) Tryz.func240 rfl rfl (by kernel_rfl) (Aah (l:=[(5,sub Ag0 [1,0,1,0])]) (by kernel_rfl) ⟨⟨_,rfl,A8q N⟩,trivial⟩) (by decide) (by decide) (by decide) (fun R x C=>Bdr @Agc @Abi N R x C),Tryz.f240,Tryz.func240,rfl,by decide⟩
theorem A8r(N:Nat):Ada Tryz.prog (A8j N):=⟨Bbd N,trivial⟩
theorem A8b(N:Nat):Abk Tryz.prog 225 (Atj N) :=
 ⟨Abn (fn:=Tryz.f225) (c:=Ati) (dom:=(Aau [])) (rs:=[.tmp 4]) mixed htt (Aae (Aam (A8r N))) (Aaf rfl) Tryz.func225 rfl rfl (by kernel_rfl) (Aah (l:=[]) (by kernel_rfl) trivial) (by decide) (by decide) (by decide) (fun R x C=>A8n @Adp N R x C),Tryz.f225,Tryz.func225,rfl,by decide⟩
theorem Bds(N:Nat):Ada Tryz.prog (B9g N):=⟨Bsz N,A8b N,Bac N,trivial⟩
theorem Bum(N:Nat):Aee Tryz.prog 78 [] (sub Aiu [1,1,1,0,1,0,0]) (Aaa Aid (A3q N N)) :=
 Ado (c:=sub Aiu [1,1,1,0,1,0,0]) (dom:=(Aau [5,27])) mixed htt (Aae (Aam (Bds N))) (Aaf rfl) (by kernel_rfl) (Aah (l:=[]) (by kernel_rfl) trivial) Bf3 (B:=(fun _ _ _=>none)) (Aee.none _ _ _ _) (fun _ _ _=>rfl) (fun R k x K=>Bys @Adb @Aa6 @Abg @Ad5 @Adh N R (fun a0 a1 a2 a3 a4 a5 a6 a7 a8 a9=>Adh N k a0 a1 a2 a3 a4 a5 a6 a7 a8 a9 (fun a=>K .ret (Aab Asg ((a,()),(())))) (K (.exit 2) (Aab Ash ((()),(()))))) x K) N
theorem Bun(N:Nat):Aa1 Tryz.prog 78 [] (sub Aiu [1,1,1,0,1,0]) (Aaa Aid (A3q N N)):=(Bum N).frag
theorem By7(N:Nat):Aee Tryz.prog 78 [] (sub Aiu [1,0,1,0,0]) (Aaa Ai7 (A61 N N)) :=
 Ado (c:=sub Aiu [1,0,1,0,0]) (dom:=(Aau [5,27])) mixed htt (Aae (Aam (Bds N))) (Aaf rfl) (by kernel_rfl) (Aah (l:=[]) (by kernel_rfl) trivial) Bje (B:=(fun _ _ _=>none)) (Aee.none _ _ _ _) (fun _ _ _=>rfl) (fun R k x K=>B2n @Adb @Aa6 @Abg @Ad5 @Adh N R (fun a0 a1 a2 a3 a4 a5 a6 a7 a8=>Ad5 N k a0 a1 a2 a3 a4 a5 a6 a7 a8 (fun a=>K .ret (Aab Att ((a,()),(())))) (fun a b d e f g=>K (.exit 0) (Aab Atu (((),()),((a,b,d,e,f,g,()),()))))) x K) N
theorem By8(N:Nat):Aa1 Tryz.prog 78 [] (sub Aiu [1,0,1,0]) (Aaa Ai7 (A61 N N)):=(By7 N).frag
theorem B6l(N:Nat):Abk Tryz.prog 165 (Bpl N) :=
 ⟨Abn (fn:=Tryz.f165) (c:=Aiu) (dom:=(Aau [5,27])) (rs:=[.tmp 2]) mixed htt (Aae (Aam (Bds N))) (Aaf rfl) Tryz.func165 rfl rfl (by kernel_rfl) (Aah (l:=[(5,sub Aiu [1,0,1,0]),(27,sub Aiu [1,1,1,0,1,0])]) (by kernel_rfl) ⟨⟨_,rfl,By8 N⟩,⟨_,rfl,Bun N⟩,trivial⟩) (by decide) (by decide) (by decide) (fun R x C=>Can @Adb @Aa6 @Abg @Ad5 @Adh N R x C),Tryz.f165,Tryz.func165,rfl,by decide⟩
theorem Bqd(N:Nat):Ada Tryz.prog (B9i N):=trivial
theorem Buo(N:Nat):Aa1 Tryz.prog 17 [] (sub Awo [1,0,1,0,1]) (Aaa Amf (Bf6 N)) :=
 Adc (dom:=(Aau [14])) mixed htt (Aae (Aam (Bqd N))) (Aaf rfl) (by kernel_rfl) (Aah (l:=[]) (by kernel_rfl) trivial) Bf5 (fun R x K=>Byd @Ad9 N R x K)
theorem Bne(N:Nat):Abk Tryz.prog 166 (Bcb N) :=
 ⟨Abn (fn:=Tryz.f166) (c:=Awo) (dom:=(Aau [14])) (rs:=[.tmp 2]) mixed htt (Aae (Aam (Bqd N))) (Aaf rfl) Tryz.func166 rfl rfl (by kernel_rfl) (Aah (l:=[(14,sub Awo [1,0,1,0,1])]) (by kernel_rfl) ⟨⟨_,rfl,Buo N⟩,trivial⟩) (by decide) (by decide) (by decide) (fun R x C=>Ca7 @Ad9 N R x C),Tryz.f166,Tryz.func166,rfl,by decide⟩
theorem A20(N:Nat):Ada Tryz.prog (B9k N):=⟨Bsz N,Bnc N,By2 N,Bj9 N,B6k N,B6l N,Bne N,trivial⟩
theorem Bup(N:Nat):Aa1 Tryz.prog 111 [] (sub Agy [1,1,1,1,1,1,1,0,1,0,0,1,1,0,0,1,1]) (Aaa Ajg (Bf8 N)) :=
 Adc (dom:=(Aau [13,40,33])) mixed htt (Aae (Aam (A20 N))) (Aaf rfl) (by kernel_rfl) (Aah (l:=[]) (by kernel_rfl) trivial) Bf7 (fun R x K=>Byn @Adb @Acn @Adw @Ab1 @Aen @Aeo @Ab4 @Ac6 @Adi @Acw N R x K)
theorem Buq(N:Nat):Aee Tryz.prog 111 [] (sub Agy [1,1,1,1,1,1,1,0,1,0,0]) (Aaa Ahp (A3v N N)) :=
 Ado (c:=sub Agy [1,1,1,1,1,1,1,0,1,0,0]) (dom:=(Aau [13,40,33])) mixed htt (Aae (Aam (A20 N))) (Aaf rfl) (by kernel_rfl) (Aah (l:=[(40,sub Agy [1,1,1,1,1,1,1,0,1,0,0,1,1,0,0,1,1])]) (by kernel_rfl) ⟨⟨_,rfl,Bup N⟩,trivial⟩) Bf9 (B:=(fun _ _ _=>none)) (Aee.none _ _ _ _) (fun _ _ _=>rfl) (fun R k x K=>Bym @Adb @Acn @Adw @Ab1 @Aen @Aeo @Ab4 @Ac6 @Adi @Acw N R (fun a0 a1 a2 a3 a4 a5=>Acw N k a0 a1 a2 a3 a4 a5 (fun a=>K .ret (Aab Asi ((a,()),(())))) (K (.exit 2) (Aab Asj ((()),(()))))) x K) N
theorem Bur(N:Nat):Aa1 Tryz.prog 111 [] (sub Agy [1,1,1,1,1,1,1,0,1,0]) (Aaa Ahp (A3v N N)):=(Buq N).frag
theorem Bus(N:Nat):Aee Tryz.prog 111 [] (sub Agy [1,1,1,0,1,0,0]) (Aaa Ahn (A3h N N)) :=
 Ado (c:=sub Agy [1,1,1,0,1,0,0]) (dom:=(Aau [13,40,33])) mixed htt (Aae (Aam (A20 N))) (Aaf rfl) (by kernel_rfl) (Aah (l:=[]) (by kernel_rfl) trivial) Bfs (B:=(fun _ _ _=>none)) (Aee.none _ _ _ _) (fun _ _ _=>rfl) (fun R k x K=>Byj @Adb @Acn @Adw @Ab1 @Aen @Aeo @Ab4 @Ac6 @Adi @Acw N R (fun a0 a1 a2 a3 a4 a5 a6 a7 a8 a9=>Ac6 N k a0 a1 a2 a3 a4 a5 a6 a7 a8 a9 (fun a=>K .ret (Aab Ar7 ((a,()),(())))) (fun a b d e f g=>K (.exit 0) (Aab Ar8 (((),()),((a,b,d,e,f,g,()),()))))) x K) N
theorem But(N:Nat):Aa1 Tryz.prog 111 [] (sub Agy [1,1,1,0,1,0]) (Aaa Ahn (A3h N N)):=(Bus N).frag
theorem B6m(N:Nat):Abk Tryz.prog 104 (Bpn N) :=
 ⟨Abn (fn:=Tryz.f104) (c:=Agy) (dom:=(Aau [13,40,33])) (rs:=[.tmp 2]) mixed htt (Aae (Aam (A20 N))) (Aaf rfl) Tryz.func104 rfl rfl (by kernel_rfl) (Aah (l:=[(13,sub Agy [1,1,1,0,1,0]),(33,sub Agy [1,1,1,1,1,1,1,0,1,0])]) (by kernel_rfl) ⟨⟨_,rfl,But N⟩,⟨_,rfl,Bur N⟩,trivial⟩) (by decide) (by decide) (by decide) (fun R x C=>Cay @Adb @Acn @Adw @Ab1 @Aen @Aeo @Ab4 @Ac6 @Adi @Acw N R x C),Tryz.f104,Tryz.func104,rfl,by decide⟩
theorem Bid(N:Nat):Ada Tryz.prog (Ced N):=⟨Bac N,trivial⟩
theorem B2x(N:Nat):Aa1 Tryz.prog 55 [] (sub Ao3 [1,0,1,0,1]) (Aaa Amr (Bl6 N)) :=
 Adc (dom:=(Aau [8,30])) mixed htt (Aae (Aam (Bid N))) (Aaf rfl) (by kernel_rfl) (Aah (l:=[]) (by kernel_rfl) trivial) Bl5 (fun R x K=>B59 @Abg @Afz @Aeu N R x K)
theorem By9(N:Nat):Aa1 Tryz.prog 55 [] (sub Ao3 [1,1]) (Aaa Al6 (Bjh N)) :=
 Adc (dom:=(Aau [8,30])) mixed htt (Aae (Aam (Bid N))) (Aaf rfl) (by kernel_rfl) (Aah (l:=[]) (by kernel_rfl) trivial) Bjg (fun R x K=>B2f @Abg @Afz @Aeu N R x K)
theorem Cbd(N:Nat):Abk Tryz.prog 167 (Bsa N) :=
 ⟨Abn (fn:=Tryz.f167) (c:=Ao3) (dom:=(Aau [8,30])) (rs:=[.tmp 8]) mixed htt (Aae (Aam (Bid N))) (Aaf rfl) Tryz.func167 rfl rfl (by kernel_rfl) (Aah (l:=[(8,sub Ao3 [1,0,1,0,1]),(30,sub Ao3 [1,1])]) (by kernel_rfl) ⟨⟨_,rfl,B2x N⟩,⟨_,rfl,By9 N⟩,trivial⟩) (by decide) (by decide) (by decide) (fun R x C=>Cer @Abg @Afz @Aeu N R x C),Tryz.f167,Tryz.func167,rfl,by decide⟩
theorem Bdt(N:Nat):Ada Tryz.prog (B9m N):=trivial
theorem Buu(N:Nat):Aa1 Tryz.prog 32 [] (sub Ano [1,0,1,0,1]) (Aaa Ak0 (Bgf N)) :=
 Adc (dom:=(Aau [16,18])) mixed htt (Aae (Aam (Bdt N))) (Aaf rfl) (by kernel_rfl) (Aah (l:=[]) (by kernel_rfl) trivial) Bge (fun R x K=>Byc @Aea @Ael N R x K)
theorem Buv(N:Nat):Aa1 Tryz.prog 32 [] (sub Ano [1,1]) (Aaa Ak1 (Bgh N)) :=
 Adc (dom:=(Aau [16,18])) mixed htt (Aae (Aam (Bdt N))) (Aaf rfl) (by kernel_rfl) (Aah (l:=[]) (by kernel_rfl) trivial) Bgg (fun R x K=>Byz @Aea @Ael N R x K)
theorem B6n(N:Nat):Abk Tryz.prog 168 (Bpo N) :=
 ⟨Abn (fn:=Tryz.f168) (c:=Ano) (dom:=(Aau [16,18])) (rs:=[.tmp 6]) mixed htt (Aae (Aam (Bdt N))) (Aaf rfl) Tryz.func168 rfl rfl (by kernel_rfl) (Aah (l:=[(16,sub Ano [1,0,1,0,1]),(18,sub Ano [1,1])]) (by kernel_rfl) ⟨⟨_,rfl,Buu N⟩,⟨_,rfl,Buv N⟩,trivial⟩) (by decide) (by decide) (by decide) (fun R x C=>Ca3 @Aea @Ael N R x C),Tryz.f168,Tryz.func168,rfl,by decide⟩
theorem Bqe(N:Nat):Ada Tryz.prog (B9o N):=trivial
theorem Bza(N:Nat):Aee Tryz.prog 14 [] (sub Apn [1,0,0,0]) (Aaa Akk (A65 N N)) :=
 Ado (c:=sub Apn [1,0,0,0]) (dom:=(Aau [3])) mixed htt (Aae (Aam (Bqe N))) (Aaf rfl) (by kernel_rfl) (Aah (l:=[]) (by kernel_rfl) trivial) Bji (B:=(fun _ _ _=>none)) (Aee.none _ _ _ _) (fun _ _ _=>rfl) (fun R k x K=>B2t @Afm N R (fun a0 a1=>Afm N k a0 a1 (fun a=>K (.exit 0) (Aab Atv ((a,()),(()))))) x K) N
theorem Bzb(N:Nat):Aa1 Tryz.prog 14 [] (sub Apn [1,0,0]) (Aaa Akk (A65 N N)):=(Bza N).frag
theorem B6o(N:Nat):Abk Tryz.prog 169 (Bpp N) :=
 ⟨Abn (fn:=Tryz.f169) (c:=Apn) (dom:=(Aau [3])) (rs:=[.tmp 4]) mixed htt (Aae (Aam (Bqe N))) (Aaf rfl) Tryz.func169 rfl rfl (by kernel_rfl) (Aah (l:=[(3,sub Apn [1,0,0])]) (by kernel_rfl) ⟨⟨_,rfl,Bzb N⟩,trivial⟩) (by decide) (by decide) (by decide) (fun R x C=>Cav @Afm N R x C),Tryz.f169,Tryz.func169,rfl,by decide⟩
theorem Bka(N:Nat):Ada Tryz.prog (B1v N):=⟨Bnc N,Bj9 N,Cbd N,B6n N,Bne N,B6o N,Bqc N,trivial⟩
theorem Bqq(N:Nat):Aee Tryz.prog 114 [] (sub Ane [1,1,1,1,0,1,0,0]) (Aaa Ah8 (Azi N N)) :=
 Ado (c:=sub Ane [1,1,1,1,0,1,0,0]) (dom:=(Aau [11])) mixed htt (Aae (Aam (Bka N))) (Aaf rfl) (by kernel_rfl) (Aah (l:=[]) (by kernel_rfl) trivial) Bav (B:=(fun _ _ _=>none)) (Aee.none _ _ _ _) (fun _ _ _=>rfl) (fun R k x K=>Bsp @Acn @Ab1 @Agv @Agg @Ab4 @Ady @Abz @Adn N R (fun a0 a1 a2 a3 a4 a5 a6 a7 a8 a9 a10 a11=>Adn N k a0 a1 a2 a3 a4 a5 a6 a7 a8 a9 a10 a11 (fun a=>K .ret (Aab Ap2 ((a,()),(())))) (K (.exit 0) (Aab Ap3 ((()),(()))))) x K) N
theorem Bqr(N:Nat):Aa1 Tryz.prog 114 [] (sub Ane [1,1,1,1,0,1,0]) (Aaa Ah8 (Azi N N)):=(Bqq N).frag
theorem Bzc(N:Nat):Abk Tryz.prog 105 (Bjl N) :=
 ⟨Abn (fn:=Tryz.f105) (c:=Ane) (dom:=(Aau [11])) (rs:=[.tmp 2]) mixed htt (Aae (Aam (Bka N))) (Aaf rfl) Tryz.func105 rfl rfl (by kernel_rfl) (Aah (l:=[(11,sub Ane [1,1,1,1,0,1,0])]) (by kernel_rfl) ⟨⟨_,rfl,Bqr N⟩,trivial⟩) (by decide) (by decide) (by decide) (fun R x C=>B2p @Acn @Ab1 @Agv @Agg @Ab4 @Ady @Abz @Adn N R x C),Tryz.f105,Tryz.func105,rfl,by decide⟩
theorem Cbe(N:Nat):Ada Tryz.prog (B9q N):=⟨B6h N,B6m N,Bzc N,trivial⟩
theorem B6p(N:Nat):Abk Tryz.prog 62 (Bpq N) :=
 ⟨Abn (fn:=Tryz.f62) (c:=Bpd) (dom:=(Aau [])) (rs:=[.tmp 2]) mixed htt (Aae (Aam (Cbe N))) (Aaf rfl) Tryz.func62 rfl rfl (by kernel_rfl) (Aah (l:=[]) (by kernel_rfl) trivial) (by decide) (by decide) (by decide) (fun R x C=>Caq @Aj0 @Aj1 @Ah3 N R x C),Tryz.f62,Tryz.func62,rfl,by decide⟩
theorem Bwj(N:Nat):Ada Tryz.prog (Cfx N):=trivial
theorem B6q(N:Nat):Aa1 Tryz.prog 37 [] (sub A17 [1,0,1,0,1]) (Aaa App (Bps N)) :=
 Adc (dom:=(Aau [8])) mixed htt (Aae (Aam (Bwj N))) (Aaf rfl) (by kernel_rfl) (Aah (l:=[]) (by kernel_rfl) trivial) Bpr (fun R x K=>Ca5 @Ahy N R x K)
theorem Cex(N:Nat):Abk Tryz.prog 29 (Bwa N) :=
 ⟨Abn (fn:=Tryz.f29) (c:=A17) (dom:=(Aau [8])) (rs:=[.tmp 4]) mixed htt (Aae (Aam (Bwj N))) (Aaf rfl) Tryz.func29 rfl rfl (by kernel_rfl) (Aah (l:=[(8,sub A17 [1,0,1,0,1])]) (by kernel_rfl) ⟨⟨_,rfl,B6q N⟩,trivial⟩) (by decide) (by decide) (by decide) (fun R x C=>Cge @Ahy N R x C),Tryz.f29,Tryz.func29,rfl,by decide⟩
theorem B6r(N:Nat):Ada Tryz.prog (B43 N):=⟨Cex N,trivial⟩
theorem B2y(N:Nat):Abk Tryz.prog 28 (Bl8 N) :=
 ⟨Abn (fn:=Tryz.f28) (c:=Bl7) (dom:=(Aau [])) (rs:=[.tmp 3]) mixed htt (Aae (Aam (B6r N))) (Aaf rfl) Tryz.func28 rfl rfl (by kernel_rfl) (Aah (l:=[]) (by kernel_rfl) trivial) (by decide) (by decide) (by decide) (fun R x C=>B52 @Ams N R x C),Tryz.f28,Tryz.func28,rfl,by decide⟩
theorem B6s(N:Nat):Ada Tryz.prog (Bmb N):=trivial
theorem B2z(N:Nat):Abk Tryz.prog 30 (Bma N) :=
 ⟨Abn (fn:=Tryz.f30) (c:=Bl9) (dom:=(Aau [])) (rs:=[.tmp 3]) mixed htt (Aae (Aam (B6s N))) (Aaf rfl) Tryz.func30 rfl rfl (by kernel_rfl) (Aah (l:=[]) (by kernel_rfl) trivial) (by decide) (by decide) (by decide) (fun R x C=>B53 N R x C),Tryz.f30,Tryz.func30,rfl,by decide⟩
theorem Bie(N:Nat):Ada Tryz.prog (Cef N):=⟨B6p N,B2y N,B2z N,trivial⟩
theorem Bzd(N:Nat):Aee Tryz.prog 123 [] (sub Ajq [1,1,1,1,1,1,0,1,0,0]) (Aaa Ai8 (A7c N N)) :=
 Ado (c:=sub Ajq [1,1,1,1,1,1,0,1,0,0]) (dom:=(Aau [11,35])) mixed htt (Aae (Aam (Bie N))) (Aaf rfl) (by kernel_rfl) (Aah (l:=[]) (by kernel_rfl) trivial) Bjm (B:=(fun _ _ _=>none)) (Aee.none _ _ _ _) (fun _ _ _=>rfl) (fun R k x K=>B2b @Agh @Ad1 @Af0 @Ad4 @Ad6 N R (fun a0 a1 a2 a3 a4 a5 a6 a7 a8 a9 a10 a11 a12=>Ad6 N k a0 a1 a2 a3 a4 a5 a6 a7 a8 a9 a10 a11 a12 (fun a b d e f g h=>K .ret (Aab Atx ((a,b,()),((d,e,f,g,h,()),())))) (fun a b d e f=>K (.exit 3) (Aab Aty ((()),((a,b,d,e,f,()),()))))) x K) N
theorem Bze(N:Nat):Aa1 Tryz.prog 123 [] (sub Ajq [1,1,1,1,1,1,0,1,0]) (Aaa Ai8 (A7c N N)):=(Bzd N).frag
theorem Bzf(N:Nat):Aee Tryz.prog 123 [] (sub Ajq [1,1,1,0,1,0,0]) (Aaa Ai6 (A6k N N)) :=
 Ado (c:=sub Ajq [1,1,1,0,1,0,0]) (dom:=(Aau [11,35])) mixed htt (Aae (Aam (Bie N))) (Aaf rfl) (by kernel_rfl) (Aah (l:=[]) (by kernel_rfl) trivial) Bi5 (B:=(fun _ _ _=>none)) (Aee.none _ _ _ _) (fun _ _ _=>rfl) (fun R k x K=>B2a @Agh @Ad1 @Af0 @Ad4 @Ad6 N R (fun a0 a1 a2 a3 a4 a5 a6 a7 a8 a9 a10 a11 a12 a13 a14 a15 a16 a17=>Ad4 N k a0 a1 a2 a3 a4 a5 a6 a7 a8 a9 a10 a11 a12 a13 a14 a15 a16 a17 (fun a b d e f g h i j m n o p q r s=>K (.exit 0) (Aab Ato (((),(),(),(),()),((a,b,d,e,f,()),(g,h,i,j,m,()),(n,o,(),p,q,r,()),s,()))))) x K) N
theorem Bzg(N:Nat):Aa1 Tryz.prog 123 [] (sub Ajq [1,1,1,0,1,0]) (Aaa Ai6 (A6k N N)):=(Bzf N).frag
theorem Cbf(N:Nat):Abk Tryz.prog 27 (Bsb N) :=
 ⟨Abn (fn:=Tryz.f27) (c:=Ajq) (dom:=(Aau [11,35])) (rs:=[.tmp 6,.tmp 7]) mixed htt (Aae (Aam (Bie N))) (Aaf rfl) Tryz.func27 rfl rfl (by kernel_rfl) (Aah (l:=[(11,sub Ajq [1,1,1,0,1,0]),(35,sub Ajq [1,1,1,1,1,1,0,1,0])]) (by kernel_rfl) ⟨⟨_,rfl,Bzg N⟩,⟨_,rfl,Bze N⟩,trivial⟩) (by decide) (by decide) (by decide) (fun R x C=>Cep @Agh @Ad1 @Af0 @Ad4 @Ad6 N R x C),Tryz.f27,Tryz.func27,rfl,by decide⟩
theorem B20(N:Nat):Ada Tryz.prog (Bjq N):=trivial
theorem Bzh(N:Nat):Abk Tryz.prog 64 (Bjp N) :=
 ⟨Abn (fn:=Tryz.f64) (c:=Bjo) (dom:=(Aau [])) (rs:=[.tmp 2]) mixed htt (Aae (Aam (B20 N))) (Aaf rfl) Tryz.func64 rfl rfl (by kernel_rfl) (Aah (l:=[]) (by kernel_rfl) trivial) (by decide) (by decide) (by decide) (fun R x C=>B2v N R x C),Tryz.f64,Tryz.func64,rfl,by decide⟩
theorem A2b(N:Nat):Ada Tryz.prog (Cfz N):=trivial
theorem B21(N:Nat):Aa1 Tryz.prog 24 [] (sub Ai9 [1,0,1,0,1,1,1,1,1,1,1,1,1]) (Aaa Aj2 (Bmd N)) :=
 Adc (dom:=(Aau [32,24,18,12])) mixed htt (Aae (Aam (A2b N))) (Aaf rfl) (by kernel_rfl) (Aah (l:=[]) (by kernel_rfl) trivial) Bmc (fun R x K=>B5y @Adf @Adt @Adu @Adv N R x K)
theorem B22(N:Nat):Aa1 Tryz.prog 24 [] (sub Ai9 [1,0,1,0,1,1,1,1,1,1,1]) (Aaa Aj3 (Bmf N)) :=
 Adc (dom:=(Aau [32,24,18,12])) mixed htt (Aae (Aam (A2b N))) (Aaf rfl) (by kernel_rfl) (Aah (l:=[(32,sub Ai9 [1,0,1,0,1,1,1,1,1,1,1,1,1])]) (by kernel_rfl) ⟨⟨_,rfl,B21 N⟩,trivial⟩) Bme (fun R x K=>B6a @Adf @Adt @Adu @Adv N R x K)
theorem B23(N:Nat):Aa1 Tryz.prog 24 [] (sub Ai9 [1,0,1,0,1,1,1,1,1]) (Aaa Aj4 (Bmh N)) :=
 Adc (dom:=(Aau [32,24,18,12])) mixed htt (Aae (Aam (A2b N))) (Aaf rfl) (by kernel_rfl) (Aah (l:=[(24,sub Ai9 [1,0,1,0,1,1,1,1,1,1,1])]) (by kernel_rfl) ⟨⟨_,rfl,B22 N⟩,trivial⟩) Bmg (fun R x K=>B6b @Adf @Adt @Adu @Adv N R x K)
theorem B24(N:Nat):Aa1 Tryz.prog 24 [] (sub Ai9 [1,0,1,0,1,1,1]) (Aaa Aj5 (Bmj N)) :=
 Adc (dom:=(Aau [32,24,18,12])) mixed htt (Aae (Aam (A2b N))) (Aaf rfl) (by kernel_rfl) (Aah (l:=[(18,sub Ai9 [1,0,1,0,1,1,1,1,1])]) (by kernel_rfl) ⟨⟨_,rfl,B23 N⟩,trivial⟩) Bmi (fun R x K=>B5z @Adf @Adt @Adu @Adv N R x K)
theorem Cey(N:Nat):Abk Tryz.prog 65 (Bwb N) :=
 ⟨Abn (fn:=Tryz.f65) (c:=Ai9) (dom:=(Aau [32,24,18,12])) (rs:=[.tmp 2]) mixed htt (Aae (Aam (A2b N))) (Aaf rfl) Tryz.func65 rfl rfl (by kernel_rfl) (Aah (l:=[(12,sub Ai9 [1,0,1,0,1,1,1])]) (by kernel_rfl) ⟨⟨_,rfl,B24 N⟩,trivial⟩) (by decide) (by decide) (by decide) (fun R x C=>Cgb @Adf @Adt @Adu @Adv N R x C),Tryz.f65,Tryz.func65,rfl,by decide⟩
theorem Bad(N:Nat):Ada Tryz.prog (Cf1 N):=trivial
theorem B25(N:Nat):Aa1 Tryz.prog 57 [] (sub Al8 [1,0,1,0,1,1,1,1,1,1,1]) (Aaa Alp (Bml N)) :=
 Adc (dom:=(Aau [24,18,12])) mixed htt (Aae (Aam (Bad N))) (Aaf rfl) (by kernel_rfl) (Aah (l:=[]) (by kernel_rfl) trivial) Bmk (fun R x K=>B6c @Aef @Aep @Aeq N R x K)
theorem B26(N:Nat):Aa1 Tryz.prog 57 [] (sub Al8 [1,0,1,0,1,1,1,1,1]) (Aaa Alq (Bmn N)) :=
 Adc (dom:=(Aau [24,18,12])) mixed htt (Aae (Aam (Bad N))) (Aaf rfl) (by kernel_rfl) (Aah (l:=[(24,sub Al8 [1,0,1,0,1,1,1,1,1,1,1])]) (by kernel_rfl) ⟨⟨_,rfl,B25 N⟩,trivial⟩) Bmm (fun R x K=>B50 @Aef @Aep @Aeq N R x K)
theorem B27(N:Nat):Aa1 Tryz.prog 57 [] (sub Al8 [1,0,1,0,1,1,1]) (Aaa Alr (Bmp N)) :=
 Adc (dom:=(Aau [24,18,12])) mixed htt (Aae (Aam (Bad N))) (Aaf rfl) (by kernel_rfl) (Aah (l:=[(18,sub Al8 [1,0,1,0,1,1,1,1,1])]) (by kernel_rfl) ⟨⟨_,rfl,B26 N⟩,trivial⟩) Bmo (fun R x K=>B51 @Aef @Aep @Aeq N R x K)
theorem Cez(N:Nat):Abk Tryz.prog 66 (Bwc N) :=
 ⟨Abn (fn:=Tryz.f66) (c:=Al8) (dom:=(Aau [24,18,12])) (rs:=[.tmp 6]) mixed htt (Aae (Aam (Bad N))) (Aaf rfl) Tryz.func66 rfl rfl (by kernel_rfl) (Aah (l:=[(12,sub Al8 [1,0,1,0,1,1,1])]) (by kernel_rfl) ⟨⟨_,rfl,B27 N⟩,trivial⟩) (by decide) (by decide) (by decide) (fun R x C=>Cgc @Aef @Aep @Aeq N R x C),Tryz.f66,Tryz.func66,rfl,by decide⟩
theorem Cbg(N:Nat):Ada Tryz.prog (Bpv N):=trivial
theorem B6t(N:Nat):Abk Tryz.prog 63 (Bpu N) :=
 ⟨Abn (fn:=Tryz.f63) (c:=Bpt) (dom:=(Aau [])) (rs:=[.tmp 3]) mixed htt (Aae (Aam (Cbg N))) (Aaf rfl) Tryz.func63 rfl rfl (by kernel_rfl) (Aah (l:=[]) (by kernel_rfl) trivial) (by decide) (by decide) (by decide) (fun R x C=>Cbb N R x C),Tryz.f63,Tryz.func63,rfl,by decide⟩
theorem Aw7(N:Nat):Ada Tryz.prog (Cf3 N):=⟨Bzh N,Cey N,Cez N,B6t N,trivial⟩
theorem B28(N:Nat):Aa1 Tryz.prog 202 [] (sub Ahb [1,1,1,1,1,0,1,0,1,1,1,1,1,1,1,1,1]) (Aaa Aiz (Bmr N)) :=
 Adc (dom:=(Aau [46,36,30,24,64])) mixed htt (Aae (Aam (Aw7 N))) (Aaf rfl) (by kernel_rfl) (Aah (l:=[]) (by kernel_rfl) trivial) Bmq (fun R x K=>B56 @Ab2 @Ae3 @Aes @Ace @Ac7 @Ac8 @Ac9 @Acz @Aco N R x K)
theorem B29(N:Nat):Aa1 Tryz.prog 202 [] (sub Ahb [1,1,1,1,1,0,1,0,1,1,1,1,1]) (Aaa Ai0 (Bmt N)) :=
 Adc (dom:=(Aau [46,36,30,24,64])) mixed htt (Aae (Aam (Aw7 N))) (Aaf rfl) (by kernel_rfl) (Aah (l:=[(46,sub Ahb [1,1,1,1,1,0,1,0,1,1,1,1,1,1,1,1,1])]) (by kernel_rfl) ⟨⟨_,rfl,B28 N⟩,trivial⟩) Bms (fun R x K=>B5u @Ab2 @Ae3 @Aes @Ace @Ac7 @Ac8 @Ac9 @Acz @Aco N R x K)
theorem B3a(N:Nat):Aa1 Tryz.prog 202 [] (sub Ahb [1,1,1,1,1,0,1,0,1,1,1]) (Aaa Ai1 (Bmv N)) :=
 Adc (dom:=(Aau [46,36,30,24,64])) mixed htt (Aae (Aam (Aw7 N))) (Aaf rfl) (by kernel_rfl) (Aah (l:=[(36,sub Ahb [1,1,1,1,1,0,1,0,1,1,1,1,1])]) (by kernel_rfl) ⟨⟨_,rfl,B29 N⟩,trivial⟩) Bmu (fun R x K=>B57 @Ab2 @Ae3 @Aes @Ace @Ac7 @Ac8 @Ac9 @Acz @Aco N R x K)
theorem B3b(N:Nat):Aa1 Tryz.prog 202 [] (sub Ahb [1,1,1,1,1,0,1,0,1]) (Aaa Ai2 (Bmx N)) :=
 Adc (dom:=(Aau [46,36,30,24,64])) mixed htt (Aae (Aam (Aw7 N))) (Aaf rfl) (by kernel_rfl) (Aah (l:=[(30,sub Ahb [1,1,1,1,1,0,1,0,1,1,1])]) (by kernel_rfl) ⟨⟨_,rfl,B3a N⟩,trivial⟩) Bmw (fun R x K=>B5v @Ab2 @Ae3 @Aes @Ace @Ac7 @Ac8 @Ac9 @Acz @Aco N R x K)
theorem B3c(N:Nat):Aa1 Tryz.prog 202 [] (sub Ahb [1,1,1,1,1,1]) (Aaa Ai3 (Bmz N)) :=
 Adc (dom:=(Aau [46,36,30,24,64])) mixed htt (Aae (Aam (Aw7 N))) (Aaf rfl) (by kernel_rfl) (Aah (l:=[]) (by kernel_rfl) trivial) Bmy (fun R x K=>B58 @Ab2 @Ae3 @Aes @Ace @Ac7 @Ac8 @Ac9 @Acz @Aco N R x K)
theorem Ce0(N:Nat):Abk Tryz.prog 31 (Bwd N) :=
 ⟨Abn (fn:=Tryz.f31) (c:=Ahb) (dom:=(Aau [46,36,30,24,64])) (rs:=[.tmp 4]) mixed htt (Aae (Aam (Aw7 N))) (Aaf rfl) Tryz.func31 rfl rfl (by kernel_rfl) (Aah (l:=[(24,sub Ahb [1,1,1,1,1,0,1,0,1]),(64,sub Ahb [1,1,1,1,1,1])]) (by kernel_rfl) ⟨⟨_,rfl,B3b N⟩,⟨_,rfl,B3c N⟩,trivial⟩) (by decide) (by decide) (by decide) (fun R x C=>Cf9 @Ab2 @Ae3 @Aes @Ace @Ac7 @Ac8 @Ac9 @Acz @Aco N R x C),Tryz.f31,Tryz.func31,rfl,by decide⟩
theorem B6u(N:Nat):Ada Tryz.prog (Bm2 N):=trivial
theorem B3d(N:Nat):Abk Tryz.prog 33 (Bm1 N) :=
 ⟨Abn (fn:=Tryz.f33) (c:=Bm0) (dom:=(Aau [])) (rs:=[.tmp 2]) mixed htt (Aae (Aam (B6u N))) (Aaf rfl) Tryz.func33 rfl rfl (by kernel_rfl) (Aah (l:=[]) (by kernel_rfl) trivial) (by decide) (by decide) (by decide) (fun R x C=>B6e N R x C),Tryz.f33,Tryz.func33,rfl,by decide⟩
theorem A8c(N:Nat):Ada Tryz.prog (B10 N):=⟨B3d N,trivial⟩
theorem Bqs(N:Nat):Aee Tryz.prog 77 [] (sub Ahk [1,0,1,0,0,1,0,0,1,0,1,0,1,0,1,0,0]) (Aaa Ahc (Azk N N)) :=
 Ado (c:=sub Ahk [1,0,1,0,0,1,0,0,1,0,1,0,1,0,1,0,0]) (dom:=(Aau [17,5])) mixed htt (Aae (Aam (A8c N))) (Aaf rfl) (by kernel_rfl) (Aah (l:=[]) (by kernel_rfl) trivial) Baw (B:=(fun _ _ _=>none)) (Aee.none _ _ _ _) (fun _ _ _=>rfl) (fun R k x K=>Bsw @Af1 @Acr @Ac2 N R (fun a0 a1 a2 a3 a4 a5 a6=>Acr N k a0 a1 a2 a3 a4 a5 a6 (fun a=>K .ret (Aab Ap4 ((a,()),(())))) (fun a b d e f=>K (.exit 3) (Aab Ap5 ((a,b,d,(),e,f,()),(()))))) x K) N
theorem Bqt(N:Nat):Aa1 Tryz.prog 77 [] (sub Ahk [1,0,1,0,0,1,0,0,1,0,1,0,1,0,1,0]) (Aaa Ahc (Azk N N)):=(Bqs N).frag
theorem Bs1(N:Nat):Aee Tryz.prog 77 [] (sub Ahk [1,0,1,0,0]) (Aaa Ahz (A1v N N)) :=
 Ado (c:=sub Ahk [1,0,1,0,0]) (dom:=(Aau [17,5])) mixed htt (Aae (Aam (A8c N))) (Aaf rfl) (by kernel_rfl) (Aah (l:=[(17,sub Ahk [1,0,1,0,0,1,0,0,1,0,1,0,1,0,1,0])]) (by kernel_rfl) ⟨⟨_,rfl,Bqt N⟩,trivial⟩) Bd0 (B:=(fun _ _ _=>none)) (Aee.none _ _ _ _) (fun _ _ _=>rfl) (fun R k x K=>Bud @Af1 @Acr @Ac2 N R (fun a0 a1 a2 a3=>Ac2 N k a0 a1 a2 a3 (fun a=>K .ret (Aab Arc ((a,()),(())))) (K (.exit 0) (Aab Ard ((()),(()))))) x K) N
theorem Bs2(N:Nat):Aa1 Tryz.prog 77 [] (sub Ahk [1,0,1,0]) (Aaa Ahz (A1v N N)):=(Bs1 N).frag
theorem Bzi(N:Nat):Abk Tryz.prog 32 (Bjt N) :=
 ⟨Abn (fn:=Tryz.f32) (c:=Ahk) (dom:=(Aau [17,5])) (rs:=[.tmp 8]) mixed htt (Aae (Aam (A8c N))) (Aaf rfl) Tryz.func32 rfl rfl (by kernel_rfl) (Aah (l:=[(5,sub Ahk [1,0,1,0])]) (by kernel_rfl) ⟨⟨_,rfl,Bs2 N⟩,trivial⟩) (by decide) (by decide) (by decide) (fun R x C=>B2h @Af1 @Acr @Ac2 N R x C),Tryz.f32,Tryz.func32,rfl,by decide⟩
theorem Bs3(N:Nat):Ada Tryz.prog (Ceh N):=⟨Cbf N,Ce0 N,Bzi N,trivial⟩
theorem Bzj(N:Nat):Aee Tryz.prog 35 [] (sub Aqn [1,1,1,0,1,0,0]) (Aaa Akm (A7g N N)) :=
 Ado (c:=sub Aqn [1,1,1,0,1,0,0]) (dom:=(Aau [11])) mixed htt (Aae (Aam (Bs3 N))) (Aaf rfl) (by kernel_rfl) (Aah (l:=[]) (by kernel_rfl) trivial) Bjr (B:=(fun _ _ _=>none)) (Aee.none _ _ _ _) (fun _ _ _=>rfl) (fun R k x K=>B2d @Aiq @Akb @Afn @Ae6 N R (fun a0 a1 a2 a3 a4 a5 a6 a7 a8=>Ae6 N k a0 a1 a2 a3 a4 a5 a6 a7 a8 (fun a=>K .ret (Aab At0 ((a,()),(())))) (fun a b d e f g=>K (.exit 0) (Aab At1 (((),a,()),((b,d,e,f,g,()),()))))) x K) N
theorem Bzk(N:Nat):Aa1 Tryz.prog 35 [] (sub Aqn [1,1,1,0,1,0]) (Aaa Akm (A7g N N)):=(Bzj N).frag
theorem Bqf(N:Nat):Abk Tryz.prog 13 (Bgo N) :=
 ⟨Abn (fn:=Tryz.f13) (c:=Aqn) (dom:=(Aau [11])) (rs:=[.tmp 2]) mixed htt (Aae (Aam (Bs3 N))) (Aaf rfl) Tryz.func13 rfl rfl (by kernel_rfl) (Aah (l:=[(11,sub Aqn [1,1,1,0,1,0])]) (by kernel_rfl) ⟨⟨_,rfl,Bzk N⟩,trivial⟩) (by decide) (by decide) (by decide) (fun R x C=>Ceq @Aiq @Akb @Afn @Ae6 N R x C),Tryz.f13,Tryz.func13,rfl,by decide⟩
theorem B3e(N:Nat):Abk Tryz.prog 55 (Aqk N) :=
 ⟨Cpj Tryz.laysM171 (by kernel_rfl) rfl,Tryz.f55,Tryz.func55,rfl,by decide⟩
theorem A8s(N:Nat):Ada Tryz.prog (Atl N):=⟨Alu N,trivial⟩
theorem A8d(N:Nat):Abk Tryz.prog 54 (Atk N) :=
 ⟨Abn (fn:=Tryz.f54) (c:=Aku) (dom:=(Aau [])) (rs:=[.tmp 4,.tmp 5]) mixed htt (Aae (Aam (A8s N))) (Aaf rfl) Tryz.func54 rfl rfl (by kernel_rfl) (Aah (l:=[]) (by kernel_rfl) trivial) (by decide) (by decide) (by decide) (fun R x C=>A8o N R x C),Tryz.f54,Tryz.func54,rfl,by decide⟩
theorem A5r(N:Nat):Ada Tryz.prog (Aqy N):=⟨Alu N,trivial⟩
theorem A2c(N:Nat):Abk Tryz.prog 54 (Aqx N) :=
 ⟨Abn (fn:=Tryz.f54) (c:=Aku) (dom:=(Aau [])) (rs:=[.tmp 4,.tmp 5]) mixed htt (Aae (Aam (A5r N))) (Aaf rfl) Tryz.func54 rfl rfl (by kernel_rfl) (Aah (l:=[]) (by kernel_rfl) trivial) (by decide) (by decide) (by decide) (fun R x C=>A5q N R x C),Tryz.f54,Tryz.func54,rfl,by decide⟩
theorem Bae(N:Nat):Ada Tryz.prog (Cf5 N):=⟨B3e N,B0u rfl (A8d N) (A2c N),Ari N,Ays N,trivial⟩
theorem B3f(N:Nat):Aee Tryz.prog 47 [] (sub Ahd [1,1,0,1,0,0,1,1,0,0,1,1,0,1,0,0]) (Aaa Ai4 (A9m N N)) :=
 Ado (c:=sub Ahd [1,1,0,1,0,0,1,1,0,0,1,1,0,1,0,0]) (dom:=(Aau [15,7])) mixed htt (Aae (Aam (Bae N))) (Aaf rfl) (by kernel_rfl) (Aah (l:=[]) (by kernel_rfl) trivial) Bm3 (B:=(fun _ _ _=>none)) (Aee.none _ _ _ _) (fun _ _ _=>rfl) (fun R k x K=>B55 @Aay @Aas @Aad @Ac0 @Acm @Aeg N R (fun a0 a1 a2 a3 a4 a5 a6 a7=>Ac0 N k a0 a1 a2 a3 a4 a5 a6 a7 (fun a b d e f=>K (.exit 2) (Aab Avo ((a,(),b,d,e,()),(((),(),()),f,()))))) x K) N
theorem Bkb(N:Nat):Aa1 Tryz.prog 47 [] (sub Ahd [1,1,0,1,0,0,1,1,0,0,1,1,0,1,0]) (Aaa Ai4 (A9m N N)):=(B3f N).frag
theorem Bd8(N:Nat):Aee Tryz.prog 47 [] (sub Ahd [1,1,0,1,0,0]) (Aaa Adq (Avq N N)) :=
 Ado (c:=sub Ahd [1,1,0,1,0,0]) (dom:=(Aau [15,7])) mixed htt (Aae (Aam (Bae N))) (Aaf rfl) (by kernel_rfl) (Aah (l:=[(15,sub Ahd [1,1,0,1,0,0,1,1,0,0,1,1,0,1,0])]) (by kernel_rfl) ⟨⟨_,rfl,Bkb N⟩,trivial⟩) Bgp (B:=(fun _ _ _=>none)) (Aee.none _ _ _ _) (fun _ _ _=>rfl) (fun R k x K=>Byl @Aay @Aas @Aad @Ac0 @Acm @Aeg N R (fun a0 a1 a2 a3 a4=>Acm N k a0 a1 a2 a3 a4 (fun a=>K (.exit 0) (Aab Asp (((),()),(((),(),()),a,()))))) x K) N
theorem Buw(N:Nat):Aa1 Tryz.prog 47 [] (sub Ahd [1,1,0,1,0]) (Aaa Adq (Avq N N)):=(Bd8 N).frag
theorem B6v(N:Nat):Aee Tryz.prog 47 [] (sub Ahd [1,1,0,1,0,0]) (Aaa Ajt (Bcp N N)) :=
 Ado (c:=sub Ahd [1,1,0,1,0,0]) (dom:=(Aau [15,7])) mixed htt (Aae (Aam (Bae N))) (Aaf rfl) (by kernel_rfl) (Aah (l:=[(15,sub Ahd [1,1,0,1,0,0,1,1,0,0,1,1,0,1,0])]) (by kernel_rfl) ⟨⟨_,rfl,Bkb N⟩,trivial⟩) Bpw (B:=(Aaa Adq (Avq N N))) (Bd8 N) (fun _ _ _=>rfl) (fun R k x K=>Cax @Aay @Aas @Aad @Ac0 @Acm @Aeg N R (fun a0 a1 a2 a3=>Aeg N k a0 a1 a2 a3 (fun a=>K (.exit 0) (Aab Ax7 (((),()),(((),(),()),a,())))) (K (.exit 0) (Aab Ax8 (((),()),(((),(),()),()))))) x K) N
theorem B6w(N:Nat):Aa1 Tryz.prog 47 [] (sub Ahd [1,1,0,1,0]) (Aaa Ajt (Bcp N N)):=(B6v N).frag
theorem Ce1(N:Nat):Abk Tryz.prog 23 (Bwf N) :=
 ⟨Abn (fn:=Tryz.f23) (c:=Ahd) (dom:=(Aau [15,7])) (rs:=[.tmp 4]) mixed htt (Aae (Aam (Bae N))) (Aaf rfl) Tryz.func23 rfl rfl (by kernel_rfl) (Aah (l:=[(7,sub Ahd [1,1,0,1,0])]) (by kernel_rfl) ⟨⟨_,rfl,Ch4 (Buw N) (B6w N)⟩,trivial⟩) (by decide) (by decide) (by decide) (fun R x C=>Cf8 @Aay @Aas @Aad @Ac0 @Acm @Aeg N R x C),Tryz.f23,Tryz.func23,rfl,by decide⟩
theorem Cgf(N:Nat):Ada Tryz.prog (Cf7 N):=⟨Bqf N,Ce1 N,trivial⟩
theorem Ce2(N:Nat):Abk Tryz.prog 11 (Bwh N) :=
 ⟨Abn (fn:=Tryz.f11) (c:=Bv8) (dom:=(Aau [])) (rs:=[.tmp 2,.tmp 3]) mixed htt (Aae (Aam (Cgf N))) (Aaf rfl) Tryz.func11 rfl rfl (by kernel_rfl) (Aah (l:=[]) (by kernel_rfl) trivial) (by decide) (by decide) (by decide) (fun R x C=>Cgd @Agi @Amx N R x C),Tryz.f11,Tryz.func11,rfl,by decide⟩
theorem Bkc(N:Nat):Ada Tryz.prog (B12 N):=trivial
theorem Bqu(N:Nat):Aee Tryz.prog 60 [] (sub Ang [1,1,1,0,1,0,0]) (Aaa Ah9 (Azn N N)) :=
 Ado (c:=sub Ang [1,1,1,0,1,0,0]) (dom:=(Aau [11])) mixed htt (Aae (Aam (Bkc N))) (Aaf rfl) (by kernel_rfl) (Aah (l:=[]) (by kernel_rfl) trivial) Bay (B:=(fun _ _ _=>none)) (Aee.none _ _ _ _) (fun _ _ _=>rfl) (fun R k x K=>Bsx @Adr N R (fun a0 a1 a2 a3 a4 a5 a6 a7=>Adr N k a0 a1 a2 a3 a4 a5 a6 a7 (fun a=>K (.exit 0) (Aab Ap6 ((a,()),(()))))) x K) N
theorem Bqv(N:Nat):Aa1 Tryz.prog 60 [] (sub Ang [1,1,1,0,1,0]) (Aaa Ah9 (Azn N N)):=(Bqu N).frag
theorem Bzl(N:Nat):Abk Tryz.prog 106 (Bju N) :=
 ⟨Abn (fn:=Tryz.f106) (c:=Ang) (dom:=(Aau [11])) (rs:=[.tmp 2]) mixed htt (Aae (Aam (Bkc N))) (Aaf rfl) Tryz.func106 rfl rfl (by kernel_rfl) (Aah (l:=[(11,sub Ang [1,1,1,0,1,0])]) (by kernel_rfl) ⟨⟨_,rfl,Bqv N⟩,trivial⟩) (by decide) (by decide) (by decide) (fun R x C=>B2k @Adr N R x C),Tryz.f106,Tryz.func106,rfl,by decide⟩
theorem Bqg(N:Nat):Ada Tryz.prog (B9w N):=trivial
theorem Bzm(N:Nat):Aee Tryz.prog 60 [] (sub Apt [1,1,0,1,0,0]) (Aaa Akn (A7p N N)) :=
 Ado (c:=sub Apt [1,1,0,1,0,0]) (dom:=(Aau [7])) mixed htt (Aae (Aam (Bqg N))) (Aaf rfl) (by kernel_rfl) (Aah (l:=[]) (by kernel_rfl) trivial) Bjv (B:=(fun _ _ _=>none)) (Aee.none _ _ _ _) (fun _ _ _=>rfl) (fun R k x K=>B2g @Aev N R (fun a0 a1 a2=>Aev N k a0 a1 a2 (fun a b=>K .ret (Aab At5 ((a,b,()),(())))) (fun a b=>K (.exit 0) (Aab At6 ((a,b,()),(()))))) x K) N
theorem Bzn(N:Nat):Aa1 Tryz.prog 60 [] (sub Apt [1,1,0,1,0]) (Aaa Akn (A7p N N)):=(Bzm N).frag
theorem B6x(N:Nat):Abk Tryz.prog 171 (Bpy N) :=
 ⟨Abn (fn:=Tryz.f171) (c:=Apt) (dom:=(Aau [7])) (rs:=[.tmp 2,.tmp 3]) mixed htt (Aae (Aam (Bqg N))) (Aaf rfl) Tryz.func171 rfl rfl (by kernel_rfl) (Aah (l:=[(7,sub Apt [1,1,0,1,0])]) (by kernel_rfl) ⟨⟨_,rfl,Bzn N⟩,trivial⟩) (by decide) (by decide) (by decide) (fun R x C=>Ca8 @Aev N R x C),Tryz.f171,Tryz.func171,rfl,by decide⟩
theorem Cj1(N:Nat):Ada Tryz.prog (B14 N):=trivial
theorem Baf(N:Nat):Abk Tryz.prog 172 (A7r N) :=
 ⟨Abn (fn:=Tryz.f172) (c:=B13) (dom:=(Aau [])) (rs:=[.tmp 6]) mixed htt (Aae (Aam (Cj1 N))) (Aaf rfl) Tryz.func172 rfl rfl (by kernel_rfl) (Aah (l:=[]) (by kernel_rfl) trivial) (by decide) (by decide) (by decide) (fun R x C=>Cjy N R x C),Tryz.f172,Tryz.func172,rfl,by decide⟩
theorem Awx(N:Nat):Ada Tryz.prog (B9y N):=⟨B6x N,Baf N,trivial⟩
theorem Bux(N:Nat):Aee Tryz.prog 110 [] (sub Adx [1,1,0,1,0,0,1,0,0,1,1,1,0,0]) (Aaa Ag3 (A4v N N)) :=
 Ado (c:=sub Adx [1,1,0,1,0,0,1,0,0,1,1,1,0,0]) (dom:=(Aau [25,5,47,35])) mixed htt (Aae (Aam (Awx N))) (Aaf rfl) (by kernel_rfl) (Aah (l:=[]) (by kernel_rfl) trivial) Bgv (B:=(fun _ _ _=>none)) (Aee.none _ _ _ _) (fun _ _ _=>rfl) (fun R k x K=>Byp @Acs @Aaq @Ab6 @Acc @Ab7 @Abu N R (fun a0 a1 a2 a3 a4 a5 a6 a7 a8 a9=>Ab7 N k a0 a1 a2 a3 a4 a5 a6 a7 a8 a9 (fun a=>K .ret (Aab Asv ((a,()),(())))) (fun a b d e f g h=>K (.exit 6) (Aab Asw (((),a,()),((b,d,e,f,g,h,()),()))))) x K) N
theorem Buy(N:Nat):Aa1 Tryz.prog 110 [] (sub Adx [1,1,0,1,0,0,1,0,0,1,1,1,0]) (Aaa Ag3 (A4v N N)):=(Bux N).frag
theorem Buz(N:Nat):Aee Tryz.prog 110 [] (sub Adx [1,0,1,0,0,1,0,0,1,1,1,1,0,0]) (Aaa Ag2 (A4t N N)) :=
 Ado (c:=sub Adx [1,0,1,0,0,1,0,0,1,1,1,1,0,0]) (dom:=(Aau [25,5,47,35])) mixed htt (Aae (Aam (Awx N))) (Aaf rfl) (by kernel_rfl) (Aah (l:=[]) (by kernel_rfl) trivial) Bgt (B:=(fun _ _ _=>none)) (Aee.none _ _ _ _) (fun _ _ _=>rfl) (fun R k x K=>Bx2 @Acs @Aaq @Ab6 @Acc @Ab7 @Abu N R (fun a0 a1 a2 a3 a4 a5 a6 a7 a8 a9 a10=>Ab6 N k a0 a1 a2 a3 a4 a5 a6 a7 a8 a9 a10 (fun a=>K .ret (Aab Ast ((a,()),(())))) (fun a b d e f g h=>K (.exit 2) (Aab Asu (((),a,()),((b,d,e,f,g,h,()),()))))) x K) N
theorem Bu0(N:Nat):Aa1 Tryz.prog 110 [] (sub Adx [1,0,1,0,0,1,0,0,1,1,1,1,0]) (Aaa Ag2 (A4t N N)):=(Buz N).frag
theorem Bu1(N:Nat):Aee Tryz.prog 110 [] (sub Adx [1,1,0,1,0,0]) (Aaa Ag4 (A4x N N)) :=
 Ado (c:=sub Adx [1,1,0,1,0,0]) (dom:=(Aau [25,5,47,35])) mixed htt (Aae (Aam (Awx N))) (Aaf rfl) (by kernel_rfl) (Aah (l:=[(47,sub Adx [1,1,0,1,0,0,1,0,0,1,1,1,0])]) (by kernel_rfl) ⟨⟨_,rfl,Buy N⟩,trivial⟩) Bgx (B:=(fun _ _ _=>none)) (Aee.none _ _ _ _) (fun _ _ _=>rfl) (fun R k x K=>Bx4 @Acs @Aaq @Ab6 @Acc @Ab7 @Abu N R (fun a0 a1 a2 a3 a4 a5 a6=>Abu N k a0 a1 a2 a3 a4 a5 a6 (fun a=>K .ret (Aab Asx ((a,()),(())))) (fun a b d e f g=>K (.exit 4) (Aab Asy (((),()),((a,b,d,e,f,g,()),()))))) x K) N
theorem Bu2(N:Nat):Aa1 Tryz.prog 110 [] (sub Adx [1,1,0,1,0]) (Aaa Ag4 (A4x N N)):=(Bu1 N).frag
theorem Bzo(N:Nat):Aee Tryz.prog 110 [] (sub Adx [1,0,1,0,0]) (Aaa Ahl (A7t N N)) :=
 Ado (c:=sub Adx [1,0,1,0,0]) (dom:=(Aau [25,5,47,35])) mixed htt (Aae (Aam (Awx N))) (Aaf rfl) (by kernel_rfl) (Aah (l:=[(25,sub Adx [1,0,1,0,0,1,0,0,1,1,1,1,0])]) (by kernel_rfl) ⟨⟨_,rfl,Bu0 N⟩,trivial⟩) Bjx (B:=(fun _ _ _=>none)) (Aee.none _ _ _ _) (fun _ _ _=>rfl) (fun R k x K=>B2m @Acs @Aaq @Ab6 @Acc @Ab7 @Abu N R (fun a0 a1 a2 a3 a4 a5 a6=>Acc N k a0 a1 a2 a3 a4 a5 a6 (fun a=>K .ret (Aab At7 ((a,()),(())))) (fun a b d e f g=>K (.exit 0) (Aab At8 (((),()),((a,b,d,e,f,g,()),()))))) x K) N
theorem Bzp(N:Nat):Aa1 Tryz.prog 110 [] (sub Adx [1,0,1,0]) (Aaa Ahl (A7t N N)):=(Bzo N).frag
theorem B6y(N:Nat):Abk Tryz.prog 107 (Bpz N) :=
 ⟨Abn (fn:=Tryz.f107) (c:=Adx) (dom:=(Aau [25,5,47,35])) (rs:=[.tmp 2]) mixed htt (Aae (Aam (Awx N))) (Aaf rfl) Tryz.func107 rfl rfl (by kernel_rfl) (Aah (l:=[(5,sub Adx [1,0,1,0]),(35,sub Adx [1,1,0,1,0])]) (by kernel_rfl) ⟨⟨_,rfl,Bzp N⟩,⟨_,rfl,Bu2 N⟩,trivial⟩) (by decide) (by decide) (by decide) (fun R x C=>Ca1 @Acs @Aaq @Ab6 @Acc @Ab7 @Abu N R x C),Tryz.f107,Tryz.func107,rfl,by decide⟩
theorem Apg(N:Nat):Ada Tryz.prog (B16 N):=⟨Baf N,trivial⟩
theorem Bqw(N:Nat):Aa1 Tryz.prog 138 [] (sub Aej [1,1,1,0,1,0,1,1,1,1,1,1,1,1,1,1,1,1,1,1,1]) (Aaa Agm (Ba1 N)) :=
 Adc (dom:=(Aau [68,44,36,28,82])) mixed htt (Aae (Aam (Apg N))) (Aaf rfl) (by kernel_rfl) (Aah (l:=[]) (by kernel_rfl) trivial) Ba0 (fun R x K=>Bsq @Aaq @Abh @Abl @Abm @Aat @Aar N R x K)
theorem Bqx(N:Nat):Aa1 Tryz.prog 138 [] (sub Aej [1,1,1,0,1,0,1,1,1,1,1,1,1]) (Aaa Agn (Ba3 N)) :=
 Adc (dom:=(Aau [68,44,36,28,82])) mixed htt (Aae (Aam (Apg N))) (Aaf rfl) (by kernel_rfl) (Aah (l:=[(68,sub Aej [1,1,1,0,1,0,1,1,1,1,1,1,1,1,1,1,1,1,1,1,1])]) (by kernel_rfl) ⟨⟨_,rfl,Bqw N⟩,trivial⟩) Ba2 (fun R x K=>Bsr @Aaq @Abh @Abl @Abm @Aat @Aar N R x K)
theorem Bqy(N:Nat):Aa1 Tryz.prog 138 [] (sub Aej [1,1,1,0,1,0,1,1,1,1,1]) (Aaa Ago (Ba5 N)) :=
 Adc (dom:=(Aau [68,44,36,28,82])) mixed htt (Aae (Aam (Apg N))) (Aaf rfl) (by kernel_rfl) (Aah (l:=[(44,sub Aej [1,1,1,0,1,0,1,1,1,1,1,1,1])]) (by kernel_rfl) ⟨⟨_,rfl,Bqx N⟩,trivial⟩) Ba4 (fun R x K=>Bss @Aaq @Abh @Abl @Abm @Aat @Aar N R x K)
theorem Bqz(N:Nat):Aa1 Tryz.prog 138 [] (sub Aej [1,1,1,0,1,0,1,1,1]) (Aaa Agp (Ba7 N)) :=
 Adc (dom:=(Aau [68,44,36,28,82])) mixed htt (Aae (Aam (Apg N))) (Aaf rfl) (by kernel_rfl) (Aah (l:=[(36,sub Aej [1,1,1,0,1,0,1,1,1,1,1])]) (by kernel_rfl) ⟨⟨_,rfl,Bqy N⟩,trivial⟩) Ba6 (fun R x K=>Bst @Aaq @Abh @Abl @Abm @Aat @Aar N R x K)
theorem Bq0(N:Nat):Aa1 Tryz.prog 138 [] (sub Aej [1,1,1,1]) (Aaa Agq (Ba9 N)) :=
 Adc (dom:=(Aau [68,44,36,28,82])) mixed htt (Aae (Aam (Apg N))) (Aaf rfl) (by kernel_rfl) (Aah (l:=[]) (by kernel_rfl) trivial) Ba8 (fun R x K=>Bsu @Aaq @Abh @Abl @Abm @Aat @Aar N R x K)
theorem Bzq(N:Nat):Abk Tryz.prog 108 (Bjz N) :=
 ⟨Abn (fn:=Tryz.f108) (c:=Aej) (dom:=(Aau [68,44,36,28,82])) (rs:=[.tmp 4]) mixed htt (Aae (Aam (Apg N))) (Aaf rfl) Tryz.func108 rfl rfl (by kernel_rfl) (Aah (l:=[(28,sub Aej [1,1,1,0,1,0,1,1,1]),(82,sub Aej [1,1,1,1])]) (by kernel_rfl) ⟨⟨_,rfl,Bqz N⟩,⟨_,rfl,Bq0 N⟩,trivial⟩) (by decide) (by decide) (by decide) (fun R x C=>B2o @Aaq @Abh @Abl @Abm @Aat @Aar N R x C),Tryz.f108,Tryz.func108,rfl,by decide⟩
theorem B6z(N:Nat):Ada Tryz.prog (Bm6 N):=trivial
theorem Bkd(N:Nat):Abk Tryz.prog 173 (A9o N) :=
 ⟨Abn (fn:=Tryz.f173) (c:=Bm5) (dom:=(Aau [])) (rs:=[.tmp 2]) mixed htt (Aae (Aam (B6z N))) (Aaf rfl) Tryz.func173 rfl rfl (by kernel_rfl) (Aah (l:=[]) (by kernel_rfl) trivial) (by decide) (by decide) (by decide) (fun R x C=>B54 N R x C),Tryz.f173,Tryz.func173,rfl,by decide⟩
theorem A21(N:Nat):Ada Tryz.prog (B90 N):=⟨Bkd N,trivial⟩
theorem Bu3(N:Nat):Aa1 Tryz.prog 126 [] (sub Ah4 [1,1,0,1,0,0,1,0,0,1,1,1,1,1]) (Aaa Ajj (Bg2 N)) :=
 Adc (dom:=(Aau [44,20,7])) mixed htt (Aae (Aam (A21 N))) (Aaf rfl) (by kernel_rfl) (Aah (l:=[]) (by kernel_rfl) trivial) Bg1 (fun R x K=>Bx6 @Aa2 @Ab8 @Adj @Ac5 N R x K)
theorem Bu4(N:Nat):Aa1 Tryz.prog 126 [] (sub Ah4 [1,1,0,1,0,0,1,0,0,1,1,1]) (Aaa Ajk (Bg4 N)) :=
 Adc (dom:=(Aau [44,20,7])) mixed htt (Aae (Aam (A21 N))) (Aaf rfl) (by kernel_rfl) (Aah (l:=[(44,sub Ah4 [1,1,0,1,0,0,1,0,0,1,1,1,1,1])]) (by kernel_rfl) ⟨⟨_,rfl,Bu3 N⟩,trivial⟩) Bg3 (fun R x K=>Bx8 @Aa2 @Ab8 @Adj @Ac5 N R x K)
theorem Bzr(N:Nat):Aee Tryz.prog 126 [] (sub Ah4 [1,1,0,1,0,0]) (Aaa Aib (A7y N N)) :=
 Ado (c:=sub Ah4 [1,1,0,1,0,0]) (dom:=(Aau [44,20,7])) mixed htt (Aae (Aam (A21 N))) (Aaf rfl) (by kernel_rfl) (Aah (l:=[(20,sub Ah4 [1,1,0,1,0,0,1,0,0,1,1,1])]) (by kernel_rfl) ⟨⟨_,rfl,Bu4 N⟩,trivial⟩) Bj0 (B:=(fun _ _ _=>none)) (Aee.none _ _ _ _) (fun _ _ _=>rfl) (fun R k x K=>B2c @Aa2 @Ab8 @Adj @Ac5 N R (fun a0 a1 a2 a3 a4 a5 a6 a7 a8 a9=>Ac5 N k a0 a1 a2 a3 a4 a5 a6 a7 a8 a9 (fun a=>K .ret (Aab Aua ((a,()),(())))) (fun a b d e f g h i j=>K (.exit 0) (Aab Aub (((),a,b,d,()),((e,f,g,h,i,j,()),()))))) x K) N
theorem Bzs(N:Nat):Aa1 Tryz.prog 126 [] (sub Ah4 [1,1,0,1,0]) (Aaa Aib (A7y N N)):=(Bzr N).frag
theorem B60(N:Nat):Abk Tryz.prog 109 (Bp0 N) :=
 ⟨Abn (fn:=Tryz.f109) (c:=Ah4) (dom:=(Aau [44,20,7])) (rs:=[.tmp 2]) mixed htt (Aae (Aam (A21 N))) (Aaf rfl) Tryz.func109 rfl rfl (by kernel_rfl) (Aah (l:=[(7,sub Ah4 [1,1,0,1,0])]) (by kernel_rfl) ⟨⟨_,rfl,Bzs N⟩,trivial⟩) (by decide) (by decide) (by decide) (fun R x C=>Cao @Aa2 @Ab8 @Adj @Ac5 N R x C),Tryz.f109,Tryz.func109,rfl,by decide⟩
theorem Bqh(N:Nat):Ada Tryz.prog (B92 N):=trivial
theorem Bu5(N:Nat):Aa1 Tryz.prog 17 [] (sub Aws [1,0,1,0,1]) (Aaa Aml (Bg8 N)) :=
 Adc (dom:=(Aau [14])) mixed htt (Aae (Aam (Bqh N))) (Aaf rfl) (by kernel_rfl) (Aah (l:=[]) (by kernel_rfl) trivial) Bg7 (fun R x K=>Bye @Aeb N R x K)
theorem Bnf(N:Nat):Abk Tryz.prog 174 (Bc0 N) :=
 ⟨Abn (fn:=Tryz.f174) (c:=Aws) (dom:=(Aau [14])) (rs:=[.tmp 2]) mixed htt (Aae (Aam (Bqh N))) (Aaf rfl) Tryz.func174 rfl rfl (by kernel_rfl) (Aah (l:=[(14,sub Aws [1,0,1,0,1])]) (by kernel_rfl) ⟨⟨_,rfl,Bu5 N⟩,trivial⟩) (by decide) (by decide) (by decide) (fun R x C=>Cau @Aeb N R x C),Tryz.f174,Tryz.func174,rfl,by decide⟩
theorem Auy(N:Nat):Ada Tryz.prog (B5q N):=⟨Bnf N,trivial⟩
theorem Bs4(N:Nat):Aa1 Tryz.prog 121 [] (sub Adz [1,1,1,1,0,1,0,0,1,0,0,1]) (Aaa Ah1 (Bd3 N)) :=
 Adc (dom:=(Aau [7,24,17,37])) mixed htt (Aae (Aam (Auy N))) (Aaf rfl) (by kernel_rfl) (Aah (l:=[]) (by kernel_rfl) trivial) Bd2 (fun R x K=>Bue @Abj @Ab9 @Acd @Abv @Abq N R x K)
theorem Bs5(N:Nat):Aee Tryz.prog 121 [] (sub Adz [1,1,1,1,1,0,1,0,0]) (Aaa Agf (A11 N N)) :=
 Ado (c:=sub Adz [1,1,1,1,1,0,1,0,0]) (dom:=(Aau [7,24,17,37])) mixed htt (Aae (Aam (Auy N))) (Aaf rfl) (by kernel_rfl) (Aah (l:=[]) (by kernel_rfl) trivial) Bd6 (B:=(fun _ _ _=>none)) (Aee.none _ _ _ _) (fun _ _ _=>rfl) (fun R k x K=>Buc @Abj @Ab9 @Acd @Abv @Abq N R (fun a0 a1 a2 a3 a4 a5 a6 a7 a8 a9 a10=>Abq N k a0 a1 a2 a3 a4 a5 a6 a7 a8 a9 a10 (fun a b d=>K .ret (Aab Arg (((),a,()),(((),(),()),b,d,())))) (fun a b d e=>K (.exit 4) (Aab Arh (((),(),()),(((),(),()),((),(),()),a,b,d,e,()))))) x K) N
theorem Bs6(N:Nat):Aa1 Tryz.prog 121 [] (sub Adz [1,1,1,1,1,0,1,0]) (Aaa Agf (A11 N N)):=(Bs5 N).frag
theorem Bs7(N:Nat):Aee Tryz.prog 121 [] (sub Adz [1,1,1,1,0,1,0,0]) (Aaa Age (A1y N N)) :=
 Ado (c:=sub Adz [1,1,1,1,0,1,0,0]) (dom:=(Aau [7,24,17,37])) mixed htt (Aae (Aam (Auy N))) (Aaf rfl) (by kernel_rfl) (Aah (l:=[(24,sub Adz [1,1,1,1,0,1,0,0,1,0,0,1])]) (by kernel_rfl) ⟨⟨_,rfl,Bs4 N⟩,trivial⟩) Bd4 (B:=(fun _ _ _=>none)) (Aee.none _ _ _ _) (fun _ _ _=>rfl) (fun R k x K=>Bub @Abj @Ab9 @Acd @Abv @Abq N R (fun a0 a1 a2 a3 a4 a5 a6 a7 a8 a9 a10 a11=>Abv N k a0 a1 a2 a3 a4 a5 a6 a7 a8 a9 a10 a11 (fun a b d=>K .ret (Aab Are (((),a,()),(((),(),()),b,d,())))) (fun a b d e f g h i j m=>K (.exit 2) (Aab Arf (((),(),(),()),((a,b,d,e,f,g,()),((),(),()),((),(),()),h,i,j,m,()))))) x K) N
theorem Bs8(N:Nat):Aa1 Tryz.prog 121 [] (sub Adz [1,1,1,1,0,1,0]) (Aaa Age (A1y N N)):=(Bs7 N).frag
theorem Bu6(N:Nat):Aee Tryz.prog 121 [] (sub Adz [1,1,0,1,0,0]) (Aaa Ag5 (A45 N N)) :=
 Ado (c:=sub Adz [1,1,0,1,0,0]) (dom:=(Aau [7,24,17,37])) mixed htt (Aae (Aam (Auy N))) (Aaf rfl) (by kernel_rfl) (Aah (l:=[]) (by kernel_rfl) trivial) Bg5 (B:=(fun _ _ _=>none)) (Aee.none _ _ _ _) (fun _ _ _=>rfl) (fun R k x K=>Byq @Abj @Ab9 @Acd @Abv @Abq N R (fun a0 a1 a2 a3 a4 a5 a6 a7 a8 a9 a10=>Ab9 N k a0 a1 a2 a3 a4 a5 a6 a7 a8 a9 a10 (fun a b d e f g h i j m=>K (.exit 0) (Aab As3 (((),(),(),()),((a,b,d,e,f,g,()),((),(),()),((),(),()),h,i,j,m,()))))) x K) N
theorem Bu7(N:Nat):Aa1 Tryz.prog 121 [] (sub Adz [1,1,0,1,0]) (Aaa Ag5 (A45 N N)):=(Bu6 N).frag
theorem B3g(N:Nat):Abk Tryz.prog 110 (Bm7 N) :=
 ⟨Abn (fn:=Tryz.f110) (c:=Adz) (dom:=(Aau [7,24,17,37])) (rs:=[.cell 2 130,.tmp 3]) mixed htt (Aae (Aam (Auy N))) (Aaf rfl) Tryz.func110 rfl rfl (by kernel_rfl) (Aah (l:=[(7,sub Adz [1,1,0,1,0]),(17,sub Adz [1,1,1,1,0,1,0]),(37,sub Adz [1,1,1,1,1,0,1,0])]) (by kernel_rfl) ⟨⟨_,rfl,Bu7 N⟩,⟨_,rfl,Bs8 N⟩,⟨_,rfl,Bs6 N⟩,trivial⟩) (by decide) (by decide) (by decide) (fun R x C=>B5x @Abj @Ab9 @Acd @Abv @Abq N R x C),Tryz.f110,Tryz.func110,rfl,by decide⟩
theorem A22(N:Nat):Ada Tryz.prog (B94 N):=trivial
theorem Bu8(N:Nat):Aa1 Tryz.prog 55 [] (sub Aju [1,0,1,0,1,1,1,1,1,1,1,1,1,1,1]) (Aaa Ajl (Bha N)) :=
 Adc (dom:=(Aau [60,42,20])) mixed htt (Aae (Aam (A22 N))) (Aaf rfl) (by kernel_rfl) (Aah (l:=[]) (by kernel_rfl) trivial) Bg9 (fun R x K=>Bya @Adk @Abw @Aca N R x K)
theorem Bu9(N:Nat):Aa1 Tryz.prog 55 [] (sub Aju [1,0,1,0,1,1,1]) (Aaa Ajm (Bhc N)) :=
 Adc (dom:=(Aau [60,42,20])) mixed htt (Aae (Aam (A22 N))) (Aaf rfl) (by kernel_rfl) (Aah (l:=[(60,sub Aju [1,0,1,0,1,1,1,1,1,1,1,1,1,1,1])]) (by kernel_rfl) ⟨⟨_,rfl,Bu8 N⟩,trivial⟩) Bhb (fun R x K=>Byv @Adk @Abw @Aca N R x K)
theorem Bva(N:Nat):Aa1 Tryz.prog 55 [] (sub Aju [1,0,1,0,1]) (Aaa Ajn (Bhe N)) :=
 Adc (dom:=(Aau [60,42,20])) mixed htt (Aae (Aam (A22 N))) (Aaf rfl) (by kernel_rfl) (Aah (l:=[(42,sub Aju [1,0,1,0,1,1,1])]) (by kernel_rfl) ⟨⟨_,rfl,Bu9 N⟩,trivial⟩) Bhd (fun R x K=>Byw @Adk @Abw @Aca N R x K)
theorem B61(N:Nat):Abk Tryz.prog 175 (Bp1 N) :=
 ⟨Abn (fn:=Tryz.f175) (c:=Aju) (dom:=(Aau [60,42,20])) (rs:=[.tmp 4]) mixed htt (Aae (Aam (A22 N))) (Aaf rfl) Tryz.func175 rfl rfl (by kernel_rfl) (Aah (l:=[(20,sub Aju [1,0,1,0,1])]) (by kernel_rfl) ⟨⟨_,rfl,Bva N⟩,trivial⟩) (by decide) (by decide) (by decide) (fun R x C=>Ca2 @Adk @Abw @Aca N R x C),Tryz.f175,Tryz.func175,rfl,by decide⟩
theorem Bdu(N:Nat):Ada Tryz.prog (B96 N):=trivial
theorem Bvb(N:Nat):Aa1 Tryz.prog 22 [] (sub Anr [1,0,1,0,1,1,1]) (Aaa Alb (Bhg N)) :=
 Adc (dom:=(Aau [32,24])) mixed htt (Aae (Aam (Bdu N))) (Aaf rfl) (by kernel_rfl) (Aah (l:=[]) (by kernel_rfl) trivial) Bhf (fun R x K=>Byy @Ad0 @Ach N R x K)
theorem Bvc(N:Nat):Aa1 Tryz.prog 22 [] (sub Anr [1,0,1,0,1]) (Aaa Alc (Bhi N)) :=
 Adc (dom:=(Aau [32,24])) mixed htt (Aae (Aam (Bdu N))) (Aaf rfl) (by kernel_rfl) (Aah (l:=[(32,sub Anr [1,0,1,0,1,1,1])]) (by kernel_rfl) ⟨⟨_,rfl,Bvb N⟩,trivial⟩) Bhh (fun R x K=>Byx @Ad0 @Ach N R x K)
theorem B62(N:Nat):Abk Tryz.prog 176 (Bp2 N) :=
 ⟨Abn (fn:=Tryz.f176) (c:=Anr) (dom:=(Aau [32,24])) (rs:=[.tmp 2]) mixed htt (Aae (Aam (Bdu N))) (Aaf rfl) Tryz.func176 rfl rfl (by kernel_rfl) (Aah (l:=[(24,sub Anr [1,0,1,0,1])]) (by kernel_rfl) ⟨⟨_,rfl,Bvc N⟩,trivial⟩) (by decide) (by decide) (by decide) (fun R x C=>Car @Ad0 @Ach N R x C),Tryz.f176,Tryz.func176,rfl,by decide⟩
theorem Bqi(N:Nat):Ada Tryz.prog (B98 N):=⟨Baf N,trivial⟩
theorem Bzt(N:Nat):Aa1 Tryz.prog 35 [] (sub Awt [1,0,1,0,1]) (Aaa Ani (Bj3 N)) :=
 Adc (dom:=(Aau [8])) mixed htt (Aae (Aam (Bqi N))) (Aaf rfl) (by kernel_rfl) (Aah (l:=[]) (by kernel_rfl) trivial) Bj2 (fun R x K=>B2i @Aaq @Ag6 N R x K)
theorem B63(N:Nat):Abk Tryz.prog 177 (Bp3 N) :=
 ⟨Abn (fn:=Tryz.f177) (c:=Awt) (dom:=(Aau [8])) (rs:=[.tmp 4]) mixed htt (Aae (Aam (Bqi N))) (Aaf rfl) Tryz.func177 rfl rfl (by kernel_rfl) (Aah (l:=[(8,sub Awt [1,0,1,0,1])]) (by kernel_rfl) ⟨⟨_,rfl,Bzt N⟩,trivial⟩) (by decide) (by decide) (by decide) (fun R x C=>Cas @Aaq @Ag6 N R x C),Tryz.f177,Tryz.func177,rfl,by decide⟩
theorem Bqj(N:Nat):Ada Tryz.prog (Caa N):=trivial
theorem Bzu(N:Nat):Aee Tryz.prog 31 [] (sub Apu [1,0,0,0]) (Aaa Ako (A74 N N)) :=
 Ado (c:=sub Apu [1,0,0,0]) (dom:=(Aau [3])) mixed htt (Aae (Aam (Bqj N))) (Aaf rfl) (by kernel_rfl) (Aah (l:=[]) (by kernel_rfl) trivial) Bj4 (B:=(fun _ _ _=>none)) (Aee.none _ _ _ _) (fun _ _ _=>rfl) (fun R k x K=>B2j @Afo N R (fun a0 a1=>Afo N k a0 a1 (fun a b=>K (.exit 0) (Aab Auc ((a,b,()),(()))))) x K) N
theorem Bzv(N:Nat):Aa1 Tryz.prog 31 [] (sub Apu [1,0,0]) (Aaa Ako (A74 N N)):=(Bzu N).frag
theorem B64(N:Nat):Abk Tryz.prog 178 (Bp4 N) :=
 ⟨Abn (fn:=Tryz.f178) (c:=Apu) (dom:=(Aau [3])) (rs:=[.tmp 4]) mixed htt (Aae (Aam (Bqj N))) (Aaf rfl) Tryz.func178 rfl rfl (by kernel_rfl) (Aah (l:=[(3,sub Apu [1,0,0])]) (by kernel_rfl) ⟨⟨_,rfl,Bzv N⟩,trivial⟩) (by decide) (by decide) (by decide) (fun R x C=>Cba @Afo N R x C),Tryz.f178,Tryz.func178,rfl,by decide⟩
theorem Bs9(N:Nat):Ada Tryz.prog (Cej N):=⟨B61 N,B62 N,Baf N,B63 N,Bnf N,B64 N,Bkd N,trivial⟩
theorem B3h(N:Nat):Aee Tryz.prog 96 [] (sub Aq3 [1,1,0,1,0,0]) (Aaa Alt (A9v N N)) :=
 Ado (c:=sub Aq3 [1,1,0,1,0,0]) (dom:=(Aau [7])) mixed htt (Aae (Aam (Bs9 N))) (Aaf rfl) (by kernel_rfl) (Aah (l:=[]) (by kernel_rfl) trivial) Bm8 (B:=(fun _ _ _=>none)) (Aee.none _ _ _ _) (fun _ _ _=>rfl) (fun R k x K=>B5w @Agx @Afv @Aaq @Afw @Abj @Aer @Aa2 @Afc N R (fun a0 a1 a2 a3 a4 a5 a6 a7 a8 a9 a10=>Afc N k a0 a1 a2 a3 a4 a5 a6 a7 a8 a9 a10 (fun a=>K .ret (Aab Awb ((a,()),(())))) (K (.exit 0) (Aab Awc ((()),(()))))) x K) N
theorem B3i(N:Nat):Aa1 Tryz.prog 96 [] (sub Aq3 [1,1,0,1,0]) (Aaa Alt (A9v N N)):=(B3h N).frag
theorem Cbh(N:Nat):Abk Tryz.prog 111 (Bsh N) :=
 ⟨Abn (fn:=Tryz.f111) (c:=Aq3) (dom:=(Aau [7])) (rs:=[.tmp 4]) mixed htt (Aae (Aam (Bs9 N))) (Aaf rfl) Tryz.func111 rfl rfl (by kernel_rfl) (Aah (l:=[(7,sub Aq3 [1,1,0,1,0])]) (by kernel_rfl) ⟨⟨_,rfl,B3i N⟩,trivial⟩) (by decide) (by decide) (by decide) (fun R x C=>Ceo @Agx @Afv @Aaq @Afw @Abj @Aer @Aa2 @Afc N R x C),Tryz.f111,Tryz.func111,rfl,by decide⟩
theorem Bqk(N:Nat):Ada Tryz.prog (Cac N):=⟨Bzl N,B6y N,Bzq N,B60 N,B3g N,Cbh N,trivial⟩
theorem Bvd(N:Nat):Aee Tryz.prog 50 [] (sub Aps [1,1,1,0,1,0,0]) (Aaa Aji (A41 N N)) :=
 Ado (c:=sub Aps [1,1,1,0,1,0,0]) (dom:=(Aau [13])) mixed htt (Aae (Aam (Bqk N))) (Aaf rfl) (by kernel_rfl) (Aah (l:=[]) (by kernel_rfl) trivial) Bgz (B:=(fun _ _ _=>none)) (Aee.none _ _ _ _) (fun _ _ _=>rfl) (fun R k x K=>Byr @Agd @Ah0 @Aew @Ahi @Agr @Ait @Ae4 N R (fun a0 a1 a2 a3 a4 a5 a6=>Ae4 N k a0 a1 a2 a3 a4 a5 a6 (fun a=>K .ret (Aab As0 ((a,()),(())))) (fun a b d e f g=>K (.exit 0) (Aab As1 (((),()),((a,b,d,e,f,g,()),()))))) x K) N
theorem Bve(N:Nat):Aa1 Tryz.prog 50 [] (sub Aps [1,1,1,0,1,0]) (Aaa Aji (A41 N N)):=(Bvd N).frag
theorem B65(N:Nat):Abk Tryz.prog 67 (Bp5 N) :=
 ⟨Abn (fn:=Tryz.f67) (c:=Aps) (dom:=(Aau [13])) (rs:=[.tmp 2]) mixed htt (Aae (Aam (Bqk N))) (Aaf rfl) Tryz.func67 rfl rfl (by kernel_rfl) (Aah (l:=[(13,sub Aps [1,1,1,0,1,0])]) (by kernel_rfl) ⟨⟨_,rfl,Bve N⟩,trivial⟩) (by decide) (by decide) (by decide) (fun R x C=>Cam @Agd @Ah0 @Aew @Ahi @Agr @Ait @Ae4 N R x C),Tryz.f67,Tryz.func67,rfl,by decide⟩
theorem Bql(N:Nat):Ada Tryz.prog (Cae N):=⟨B65 N,trivial⟩
theorem Bvf(N:Nat):Aee Tryz.prog 43 [] (sub Apr [1,1,1,0,1,0,0]) (Aaa Ajh (A4r N N)) :=
 Ado (c:=sub Apr [1,1,1,0,1,0,0]) (dom:=(Aau [11])) mixed htt (Aae (Aam (Bql N))) (Aaf rfl) (by kernel_rfl) (Aah (l:=[]) (by kernel_rfl) trivial) Bgr (B:=(fun _ _ _=>none)) (Aee.none _ _ _ _) (fun _ _ _=>rfl) (fun R k x K=>Byu @Ahj @Aem N R (fun a0 a1 a2 a3 a4 a5 a6 a7 a8 a9 a10 a11=>Aem N k a0 a1 a2 a3 a4 a5 a6 a7 a8 a9 a10 a11 (fun a b d e f g=>K (.exit 0) (Aab Asq (((),()),((a,b,(),d,e,f,()),g,()))))) x K) N
theorem Bvg(N:Nat):Aa1 Tryz.prog 43 [] (sub Apr [1,1,1,0,1,0]) (Aaa Ajh (A4r N N)):=(Bvf N).frag
theorem B66(N:Nat):Abk Tryz.prog 34 (Bp6 N) :=
 ⟨Abn (fn:=Tryz.f34) (c:=Apr) (dom:=(Aau [11])) (rs:=[.tmp 2]) mixed htt (Aae (Aam (Bql N))) (Aaf rfl) Tryz.func34 rfl rfl (by kernel_rfl) (Aah (l:=[(11,sub Apr [1,1,1,0,1,0])]) (by kernel_rfl) ⟨⟨_,rfl,Bvg N⟩,trivial⟩) (by decide) (by decide) (by decide) (fun R x C=>Ca4 @Ahj @Aem N R x C),Tryz.f34,Tryz.func34,rfl,by decide⟩
theorem Cj2(N:Nat):Ada Tryz.prog (B19 N):=trivial
theorem A2d(N:Nat):Abk Tryz.prog 38 (A1h N) :=
 ⟨Abn (fn:=Tryz.f38) (c:=B18) (dom:=(Aau [])) (rs:=[.tmp 6]) mixed htt (Aae (Aam (Cj2 N))) (Aaf rfl) Tryz.func38 rfl rfl (by kernel_rfl) (Aah (l:=[]) (by kernel_rfl) trivial) (by decide) (by decide) (by decide) (fun R x C=>Cjz N R x C),Tryz.f38,Tryz.func38,rfl,by decide⟩
theorem Bzw(N:Nat):Ada Tryz.prog (Bxo N):=⟨A2d N,trivial⟩
theorem Bd9(N:Nat):Abk Tryz.prog 69 (A5c N) :=
 ⟨Abn (fn:=Tryz.f69) (c:=Bhm) (dom:=(Aau [])) (rs:=[.tmp 2]) mixed htt (Aae (Aam (Bzw N))) (Aaf rfl) Tryz.func69 rfl rfl (by kernel_rfl) (Aah (l:=[]) (by kernel_rfl) trivial) (by decide) (by decide) (by decide) (fun R x C=>Byf @Aaw N R x C),Tryz.f69,Tryz.func69,rfl,by decide⟩
theorem Ce3(N:Nat):Ada Tryz.prog (Cel N):=⟨Bd9 N,A2d N,trivial⟩
theorem Cbi(N:Nat):Abk Tryz.prog 68 (Bsj N) :=
 ⟨Abn (fn:=Tryz.f68) (c:=Bsi) (dom:=(Aau [])) (rs:=[.tmp 6]) mixed htt (Aae (Aam (Ce3 N))) (Aaf rfl) Tryz.func68 rfl rfl (by kernel_rfl) (Aah (l:=[]) (by kernel_rfl) trivial) (by decide) (by decide) (by decide) (fun R x C=>Ceu @Aan @Aaw N R x C),Tryz.f68,Tryz.func68,rfl,by decide⟩
theorem Cbj(N:Nat):Ada Tryz.prog (Cag N):=⟨A2d N,trivial⟩
theorem Bng(N:Nat):Abk Tryz.prog 37 (Bdk N) :=
 ⟨Abn (fn:=Tryz.f37) (c:=Bp7) (dom:=(Aau [])) (rs:=[.tmp 4]) mixed htt (Aae (Aam (Cbj N))) (Aaf rfl) Tryz.func37 rfl rfl (by kernel_rfl) (Aah (l:=[]) (by kernel_rfl) trivial) (by decide) (by decide) (by decide) (fun R x C=>Ca9 @Aaw N R x C),Tryz.f37,Tryz.func37,rfl,by decide⟩
theorem Ame(N:Nat):Ada Tryz.prog (Cai N):=⟨Cbi N,Bd9 N,A2d N,Bng N,trivial⟩
theorem Bvh(N:Nat):Aa1 Tryz.prog 172 [] (sub Acu [1,1,0,1,0,1,1,1,1,1,1,1,1,1,1,1,1,1,1,1,1,1,1,1,1,1,1,1,1,1,1,1]) (Aaa Afd (Bhq N)) :=
 Adc (dom:=(Aau [84,66,56,50,36,28,20,86])) mixed htt (Aae (Aam (Ame N))) (Aaf rfl) (by kernel_rfl) (Aah (l:=[]) (by kernel_rfl) trivial) Bhp (fun R x K=>Bx1 @Aa0 @Aan @Aaw @Aax @Abb @Abc @Abd @Abe @Aa7 @Aa8 @Aa3 @Aa4 N R x K)
theorem Bvi(N:Nat):Aa1 Tryz.prog 172 [] (sub Acu [1,1,0,1,0,1,1,1,1,1,1,1,1,1,1,1,1,1,1,1,1,1,1,1]) (Aaa Afe (Bhs N)) :=
 Adc (dom:=(Aau [84,66,56,50,36,28,20,86])) mixed htt (Aae (Aam (Ame N))) (Aaf rfl) (by kernel_rfl) (Aah (l:=[(84,sub Acu [1,1,0,1,0,1,1,1,1,1,1,1,1,1,1,1,1,1,1,1,1,1,1,1,1,1,1,1,1,1,1,1])]) (by kernel_rfl) ⟨⟨_,rfl,Bvh N⟩,trivial⟩) Bhr (fun R x K=>Bxy @Aa0 @Aan @Aaw @Aax @Abb @Abc @Abd @Abe @Aa7 @Aa8 @Aa3 @Aa4 N R x K)
theorem Bvj(N:Nat):Aa1 Tryz.prog 172 [] (sub Acu [1,1,0,1,0,1,1,1,1,1,1,1,1,1,1,1,1,1,1,1]) (Aaa Aff (Bhu N)) :=
 Adc (dom:=(Aau [84,66,56,50,36,28,20,86])) mixed htt (Aae (Aam (Ame N))) (Aaf rfl) (by kernel_rfl) (Aah (l:=[(66,sub Acu [1,1,0,1,0,1,1,1,1,1,1,1,1,1,1,1,1,1,1,1,1,1,1,1])]) (by kernel_rfl) ⟨⟨_,rfl,Bvi N⟩,trivial⟩) Bht (fun R x K=>Byg @Aa0 @Aan @Aaw @Aax @Abb @Abc @Abd @Abe @Aa7 @Aa8 @Aa3 @Aa4 N R x K)
theorem Bvk(N:Nat):Aa1 Tryz.prog 172 [] (sub Acu [1,1,0,1,0,1,1,1,1,1,1,1,1,1,1,1,1,1]) (Aaa Afg (Bhw N)) :=
 Adc (dom:=(Aau [84,66,56,50,36,28,20,86])) mixed htt (Aae (Aam (Ame N))) (Aaf rfl) (by kernel_rfl) (Aah (l:=[(56,sub Acu [1,1,0,1,0,1,1,1,1,1,1,1,1,1,1,1,1,1,1,1])]) (by kernel_rfl) ⟨⟨_,rfl,Bvj N⟩,trivial⟩) Bhv (fun R x K=>Byh @Aa0 @Aan @Aaw @Aax @Abb @Abc @Abd @Abe @Aa7 @Aa8 @Aa3 @Aa4 N R x K)
theorem Bvl(N:Nat):Aa1 Tryz.prog 172 [] (sub Acu [1,1,0,1,0,1,1,1,1,1,1,1]) (Aaa Afh (Bhy N)) :=
 Adc (dom:=(Aau [84,66,56,50,36,28,20,86])) mixed htt (Aae (Aam (Ame N))) (Aaf rfl) (by kernel_rfl) (Aah (l:=[(50,sub Acu [1,1,0,1,0,1,1,1,1,1,1,1,1,1,1,1,1,1])]) (by kernel_rfl) ⟨⟨_,rfl,Bvk N⟩,trivial⟩) Bhx (fun R x K=>Bxz @Aa0 @Aan @Aaw @Aax @Abb @Abc @Abd @Abe @Aa7 @Aa8 @Aa3 @Aa4 N R x K)
theorem Bvm(N:Nat):Aa1 Tryz.prog 172 [] (sub Acu [1,1,0,1,0,1,1,1,1,1]) (Aaa Afi (Bh0 N)) :=
 Adc (dom:=(Aau [84,66,56,50,36,28,20,86])) mixed htt (Aae (Aam (Ame N))) (Aaf rfl) (by kernel_rfl) (Aah (l:=[(36,sub Acu [1,1,0,1,0,1,1,1,1,1,1,1])]) (by kernel_rfl) ⟨⟨_,rfl,Bvl N⟩,trivial⟩) Bhz (fun R x K=>Byi @Aa0 @Aan @Aaw @Aax @Abb @Abc @Abd @Abe @Aa7 @Aa8 @Aa3 @Aa4 N R x K)
theorem Bvn(N:Nat):Aa1 Tryz.prog 172 [] (sub Acu [1,1,0,1,0,1,1,1]) (Aaa Afj (Bh2 N)) :=
 Adc (dom:=(Aau [84,66,56,50,36,28,20,86])) mixed htt (Aae (Aam (Ame N))) (Aaf rfl) (by kernel_rfl) (Aah (l:=[(28,sub Acu [1,1,0,1,0,1,1,1,1,1])]) (by kernel_rfl) ⟨⟨_,rfl,Bvm N⟩,trivial⟩) Bh1 (fun R x K=>Bx0 @Aa0 @Aan @Aaw @Aax @Abb @Abc @Abd @Abe @Aa7 @Aa8 @Aa3 @Aa4 N R x K)
theorem Bvo(N:Nat):Aa1 Tryz.prog 172 [] (sub Acu [1,1,1]) (Aaa Afk (Bh4 N)) :=
 Adc (dom:=(Aau [84,66,56,50,36,28,20,86])) mixed htt (Aae (Aam (Ame N))) (Aaf rfl) (by kernel_rfl) (Aah (l:=[]) (by kernel_rfl) trivial) Bh3 (fun R x K=>Byk @Aa0 @Aan @Aaw @Aax @Abb @Abc @Abd @Abe @Aa7 @Aa8 @Aa3 @Aa4 N R x K)
theorem B67(N:Nat):Abk Tryz.prog 35 (Bp8 N) :=
 ⟨Abn (fn:=Tryz.f35) (c:=Acu) (dom:=(Aau [84,66,56,50,36,28,20,86])) (rs:=[.tmp 4]) mixed htt (Aae (Aam (Ame N))) (Aaf rfl) Tryz.func35 rfl rfl (by kernel_rfl) (Aah (l:=[(20,sub Acu [1,1,0,1,0,1,1,1]),(86,sub Acu [1,1,1])]) (by kernel_rfl) ⟨⟨_,rfl,Bvn N⟩,⟨_,rfl,Bvo N⟩,trivial⟩) (by decide) (by decide) (by decide) (fun R x C=>Cal @Aa0 @Aan @Aaw @Aax @Abb @Abc @Abd @Abe @Aa7 @Aa8 @Aa3 @Aa4 N R x C),Tryz.f35,Tryz.func35,rfl,by decide⟩
theorem B68(N:Nat):Ada Tryz.prog (Bnb N):=trivial
theorem B3j(N:Nat):Abk Tryz.prog 36 (Bna N) :=
 ⟨Abn (fn:=Tryz.f36) (c:=Bm9) (dom:=(Aau [])) (rs:=[.tmp 2]) mixed htt (Aae (Aam (B68 N))) (Aaf rfl) Tryz.func36 rfl rfl (by kernel_rfl) (Aah (l:=[]) (by kernel_rfl) trivial) (by decide) (by decide) (by decide) (fun R x C=>B6f N R x C),Tryz.f36,Tryz.func36,rfl,by decide⟩
theorem A23(N:Nat):Ada Tryz.prog (Cak N):=⟨B66 N,B67 N,B3j N,Bng N,A2d N,trivial⟩
theorem Bvp(N:Nat):Aa1 Tryz.prog 107 [] (sub Ag1 [1,1,1,1,0,1,0,0,1,0,0,1,1,1]) (Aaa Ajo (Bh6 N)) :=
 Adc (dom:=(Aau [26,13,37])) mixed htt (Aae (Aam (A23 N))) (Aaf rfl) (by kernel_rfl) (Aah (l:=[]) (by kernel_rfl) trivial) Bh5 (fun R x K=>Bx5 @Ae0 @Ae1 @Adg @Aax @Aaw @Aci @Acx @Acy N R x K)
theorem Bvq(N:Nat):Aee Tryz.prog 107 [] (sub Ag1 [1,1,1,1,1,1,0,1,0,0]) (Aaa Aht (A5p N N)) :=
 Ado (c:=sub Ag1 [1,1,1,1,1,1,0,1,0,0]) (dom:=(Aau [26,13,37])) mixed htt (Aae (Aam (A23 N))) (Aaf rfl) (by kernel_rfl) (Aah (l:=[]) (by kernel_rfl) trivial) Bh9 (B:=(fun _ _ _=>none)) (Aee.none _ _ _ _) (fun _ _ _=>rfl) (fun R k x K=>Bx3 @Ae0 @Ae1 @Adg @Aax @Aaw @Aci @Acx @Acy N R (fun a0 a1 a2 a3 a4 a5=>Acy N k a0 a1 a2 a3 a4 a5 (fun a=>K .ret (Aab As7 ((a,()),(())))) (K (.exit 2) (Aab As8 ((()),(()))))) x K) N
theorem Bvr(N:Nat):Aa1 Tryz.prog 107 [] (sub Ag1 [1,1,1,1,1,1,0,1,0]) (Aaa Aht (A5p N N)):=(Bvq N).frag
theorem Bvs(N:Nat):Aee Tryz.prog 107 [] (sub Ag1 [1,1,1,1,0,1,0,0]) (Aaa Ahs (A5m N N)) :=
 Ado (c:=sub Ag1 [1,1,1,1,0,1,0,0]) (dom:=(Aau [26,13,37])) mixed htt (Aae (Aam (A23 N))) (Aaf rfl) (by kernel_rfl) (Aah (l:=[(26,sub Ag1 [1,1,1,1,0,1,0,0,1,0,0,1,1,1])]) (by kernel_rfl) ⟨⟨_,rfl,Bvp N⟩,trivial⟩) Bh7 (B:=(fun _ _ _=>none)) (Aee.none _ _ _ _) (fun _ _ _=>rfl) (fun R k x K=>Byo @Ae0 @Ae1 @Adg @Aax @Aaw @Aci @Acx @Acy N R (fun a0 a1 a2 a3 a4 a5 a6=>Acx N k a0 a1 a2 a3 a4 a5 a6 (fun a=>K .ret (Aab As5 ((a,()),(())))) (fun a b d e f g=>K (.exit 0) (Aab As6 (((),a,()),((b,d,e,f,g,()),()))))) x K) N
theorem Bvt(N:Nat):Aa1 Tryz.prog 107 [] (sub Ag1 [1,1,1,1,0,1,0]) (Aaa Ahs (A5m N N)):=(Bvs N).frag
theorem Bnh(N:Nat):Abk Tryz.prog 14 (Bdp N) :=
 ⟨Abn (fn:=Tryz.f14) (c:=Ag1) (dom:=(Aau [26,13,37])) (rs:=[.tmp 2]) mixed htt (Aae (Aam (A23 N))) (Aaf rfl) Tryz.func14 rfl rfl (by kernel_rfl) (Aah (l:=[(13,sub Ag1 [1,1,1,1,0,1,0]),(37,sub Ag1 [1,1,1,1,1,1,0,1,0])]) (by kernel_rfl) ⟨⟨_,rfl,Bvt N⟩,⟨_,rfl,Bvr N⟩,trivial⟩) (by decide) (by decide) (by decide) (fun R x C=>Ca0 @Ae0 @Ae1 @Adg @Aax @Aaw @Aci @Acx @Acy N R x C),Tryz.f14,Tryz.func14,rfl,by decide⟩
theorem B3k(N:Nat):Abk Tryz.prog 26 (A1j N) :=
 ⟨Clk,Tryz.f26,Tryz.func26,rfl,by decide⟩
theorem Bta(N:Nat):Ada Tryz.prog (Cen N):=⟨Bnh N,B3k N,trivial⟩
theorem Bzx(N:Nat):Aee Tryz.prog 52 [] (sub Aqz [1,1,1,1,0,1,0,0]) (Aaa Akp (A78 N N)) :=
 Ado (c:=sub Aqz [1,1,1,1,0,1,0,0]) (dom:=(Aau [13])) mixed htt (Aae (Aam (Bta N))) (Aaf rfl) (by kernel_rfl) (Aah (l:=[]) (by kernel_rfl) trivial) Bj6 (B:=(fun _ _ _=>none)) (Aee.none _ _ _ _) (fun _ _ _=>rfl) (fun R k x K=>B2r @Aeh @Aez N R (fun a0 a1 a2 a3 a4 a5 a6=>Aez N k a0 a1 a2 a3 a4 a5 a6 (fun a=>K (.exit 0) (Aab Aud (((),()),(a,()))))) x K) N
theorem Bzy(N:Nat):Aa1 Tryz.prog 52 [] (sub Aqz [1,1,1,1,0,1,0]) (Aaa Akp (A78 N N)):=(Bzx N).frag
theorem Cbk(N:Nat):Abk Tryz.prog 12 (Bsl N) :=
 ⟨Abn (fn:=Tryz.f12) (c:=Aqz) (dom:=(Aau [13])) (rs:=[.tmp 2,.tmp 3]) mixed htt (Aae (Aam (Bta N))) (Aaf rfl) Tryz.func12 rfl rfl (by kernel_rfl) (Aah (l:=[(13,sub Aqz [1,1,1,1,0,1,0])]) (by kernel_rfl) ⟨⟨_,rfl,Bzy N⟩,trivial⟩) (by decide) (by decide) (by decide) (fun R x C=>Cet @Aeh @Aez N R x C),Tryz.f12,Tryz.func12,rfl,by decide⟩
theorem B69(N:Nat):Abk Tryz.prog 15 (Bdq N) :=
 ⟨Go.CE.Aw.awake_ok,Tryz.f15,Tryz.func15,rfl,by decide⟩
theorem Btb(N:Nat):Ada Tryz.prog (Bso N):=⟨B6g N,Ce2 N,Cbk N,Bqf N,Bnh N,B69 N,trivial⟩
theorem Bq1(N:Nat):Abk Tryz.prog 4 (Bba N) :=
 ⟨Abn (fn:=Tryz.f4) (c:=Bap) (dom:=(Aau [])) (rs:=[.tmp 2]) mixed htt (Aae (Aam (Btb N))) (Aaf rfl) Tryz.func4 rfl rfl (by kernel_rfl) (Aah (l:=[]) (by kernel_rfl) trivial) (by decide) (by decide) (by decide) (fun R x C=>Bsv @Ajz @Anp @Amd @Agi @Aeh N R x C),Tryz.f4,Tryz.func4,rfl,by decide⟩
end
end Q

/- Part O of the proof. -/
import Derived.Test.YtjdklngopfpjgaaGreatDoorE1
import Derived.Test.YtjdklngopfpjgaaGreatDoorE2
import Derived.Test.YtjdklngopfpjgaaGreatDoorSh
import Derived.WalkKit
import Derived.Laws.Externs
import Derived.Test.YtjdklngopfpjgaaGreatDoorAW
import Derived.Test.YtjdklngopfpjgaaGreatDoorAD
open Go Go.AX Go.Proofs
namespace Q
noncomputable section
set_option maxRecDepth 100000
set_option linter.unusedVariables false
theorem htt:Aj4 Tryz.prog tt:=Cgm (l:=types) (by kernel_rfl)
theorem mixed:Tryz.prog.follows .mixedOrders=true:=by kernel_rfl
theorem Bpe (N:Nat):Acq Tryz.prog (B8q N):=trivial
theorem Bt6 (N:Nat):Ady Tryz.prog 59 [] (sub Aoq [1,1,1,0,1,0,0]) (Aaa Aiq (A20 N N)) :=
 Ade (c:=sub Aoq [1,1,1,0,1,0,0]) (dom:=(Aau [11])) mixed htt (Aae (Aam (Bpe N))) (Aah rfl) (by kernel_rfl) (Aai (l:=[]) (by kernel_rfl) trivial) Bfc (B:=(fun _ _ _=>none)) (Ady.none _ _ _ _) (fun _ _ _=>rfl) (fun R k x K=>Bx9 @Aeb N R (fun a0 a1 a2 a3 a4 a5 a6=>Aeb N k a0 a1 a2 a3 a4 a5 a6 (fun a=>K (.exit 0) (Aab Aq9 ((a,()),(()))))) x K) N
theorem Bt7 (N:Nat):Aa0 Tryz.prog 59 [] (sub Aoq [1,1,1,0,1,0]) (Aaa Aiq (A20 N N)):=(Bt6 N).frag
theorem B5t (N:Nat):Abd Tryz.prog 6 (Boj N) :=
 ⟨Aa9 (fn:=Tryz.f6) (c:=Aoq) (dom:=(Aau [11])) (rs:=[.tmp 2]) mixed htt (Aae (Aam (Bpe N))) (Aah rfl) Tryz.func6 rfl rfl (by kernel_rfl) (Aai (l:=[(11,sub Aoq [1,1,1,0,1,0])]) (by kernel_rfl) ⟨⟨_,rfl,Bt7 N⟩,trivial⟩) (by decide) (by decide) (by decide) (fun R x C=>Cap @Aeb N R x C),Tryz.f6,Tryz.func6,rfl,by decide⟩
theorem B5u (N:Nat):Abd Tryz.prog 7 (Bbp N) :=
 ⟨Go.CE.Aw.awake_ok,Tryz.f7,Tryz.func7,rfl,by decide⟩
theorem Bpf (N:Nat):Acq Tryz.prog (B8s N):=trivial
theorem Bt8 (N:Nat):Ady Tryz.prog 50 [] (sub Aor [1,1,1,0,1,0,0]) (Aaa Air (A23 N N)) :=
 Ade (c:=sub Aor [1,1,1,0,1,0,0]) (dom:=(Aau [11])) mixed htt (Aae (Aam (Bpf N))) (Aah rfl) (by kernel_rfl) (Aai (l:=[]) (by kernel_rfl) trivial) Bfe (B:=(fun _ _ _=>none)) (Ady.none _ _ _ _) (fun _ _ _=>rfl) (fun R k x K=>Byb @Aec N R (fun a0 a1 a2 a3=>Aec N k a0 a1 a2 a3 (fun a=>K (.exit 0) (Aab Arb ((a,()),(()))))) x K) N
theorem Bt9 (N:Nat):Aa0 Tryz.prog 50 [] (sub Aor [1,1,1,0,1,0]) (Aaa Air (A23 N N)):=(Bt8 N).frag
theorem B5v (N:Nat):Abd Tryz.prog 103 (Bom N) :=
 ⟨Aa9 (fn:=Tryz.f103) (c:=Aor) (dom:=(Aau [11])) (rs:=[.tmp 2]) mixed htt (Aae (Aam (Bpf N))) (Aah rfl) Tryz.func103 rfl rfl (by kernel_rfl) (Aai (l:=[(11,sub Aor [1,1,1,0,1,0])]) (by kernel_rfl) ⟨⟨_,rfl,Bt9 N⟩,trivial⟩) (by decide) (by decide) (by decide) (fun R x C=>Cae @Aec N R x C),Tryz.f103,Tryz.func103,rfl,by decide⟩
theorem Bfb:(Tryz.prog.info? 80).map (·.size)=some 2:=by kernel_rfl
theorem Bwu:liesAt Tryz.prog Tryz.prog.depth 80 (2/Tryz.prog.cellsOf 80) 0 80 1=true:=by kernel_rfl
set_option maxHeartbeats 1000000 in
theorem A78 (b:Nat) (w:World) (h0:w.cell? ⟨b,0,none⟩=some (.pointer (some ⟨b,0,none⟩))) :
  Calls Tryz.prog 100 #[.pointer (some ⟨b,0,none⟩)] w fun e w'=>e = .returned (.tuple #[])∧w'=w:=by
 obtain⟨j,hj,_⟩:=Option.map_eq_some_iff.1 Bfb
 go_enter Tryz.func100,Tryz.ntmps100
 go_wp2
 rw[Lib.run_neq_ptr_same w _ Tryz.underlying78 hj]
 go_wp2
 go_end0
 exact⟨rfl,rfl⟩
set_option maxHeartbeats 1000000 in
theorem A5d (b:Nat) (w:World) (h0:w.cell? ⟨b,0,none⟩=some (.pointer none)) (hsh:w.shape? b=some (80,2)) (hfz:w.frozen? ⟨b,0,none⟩=false) :
  Calls Tryz.prog 100 #[.pointer (some ⟨b,0,none⟩)] w fun e w'=>e = .returned (.tuple #[])∧w'=w.setCell ⟨b,0,none⟩ (.pointer (some ⟨b,0,none⟩)):=by
 obtain⟨j,hj,hjs⟩:=Option.map_eq_some_iff.1 Bfb
 go_enter Tryz.func100,Tryz.ntmps100
 go_wp2
 rw[Lib.run_to_unsafe w ⟨b,0,none⟩ Tryz.underlying78 Tryz.underlying161 hj (by rw[hjs];decide) hsh (Nat.zero_lt_succ 1)]
 simp only[Result.andThen]
 rw[Oper.upon_value]
 go_wp2
 rw[run_callFunc_extern Tryz.func158 (by kernel_rfl) (by kernel_rfl) (by kernel_rfl) (e:=Extern.AbiNoEscape.same) (by kernel_rfl)]
 rw[Lib.run_noEscape]
 simp only[Result.andThen]
 rw[Oper.upon_value]
 go_wp2
 rw[Lib.run_from_unsafe w ⟨b,0,none⟩ Tryz.underlying161 Tryz.underlying78 hj hsh Bwu]
 simp only[Result.andThen]
 rw[Oper.upon_value]
 go_wp2
 go_end0
 exact⟨rfl,rfl⟩
theorem Ak0 (N:Nat):Abd Tryz.prog 100 (Ain N) :=
 ⟨Ccp A78 A5d,Tryz.f100,Tryz.func100,rfl,by decide⟩
theorem Ba7 (N:Nat):Acq Tryz.prog (Auh N):=⟨Ak0 N,trivial⟩
theorem A9f (N:Nat):Abd Tryz.prog 56 (Aug N) :=
 ⟨Aa9 (fn:=Tryz.f56) (c:=Ak9) (dom:=(Aau [])) (rs:=[.tmp 4]) mixed htt (Aae (Aam (Ba7 N))) (Aah rfl) Tryz.func56 rfl rfl (by kernel_rfl) (Aai (l:=[]) (by kernel_rfl) trivial) (by decide) (by decide) (by decide) (fun R x C=>Ba6 N R x C),Tryz.f56,Tryz.func56,rfl,by decide⟩
theorem Bn7 (N:Nat):Abd Tryz.prog 222 (Aqi N) :=
 ⟨Cco Tryz.strings_IndexByte,Tryz.f222,Tryz.func222,rfl,by decide⟩
theorem A7c (N:Nat):Acq Tryz.prog (Arc N):=⟨Ak0 N,trivial⟩
theorem Aqq (N:Nat):Abd Tryz.prog 56 (Amh N) :=
 ⟨Aa9 (fn:=Tryz.f56) (c:=Ak9) (dom:=(Aau [])) (rs:=[.tmp 4]) mixed htt (Aae (Aam (A7c N))) (Aah rfl) Tryz.func56 rfl rfl (by kernel_rfl) (Aai (l:=[]) (by kernel_rfl) trivial) (by decide) (by decide) (by decide) (fun R x C=>A7b N R x C),Tryz.f56,Tryz.func56,rfl,by decide⟩
theorem Ayi (N:Nat):Abd Tryz.prog 57 (Aez N) :=
 ⟨Ckf Tryz.lays169 Tryz.Builder_Extra_169,Tryz.f57,Tryz.func57,rfl,by decide⟩
theorem Bv7 (N:Nat):Acq Tryz.prog (Cfj N):=⟨B0a rfl (A9f N) (Aqq N),Bn7 N,Ayi N,trivial⟩
theorem B5w (N:Nat):Ady Tryz.prog 41 [] (sub Ast [1,1,1,0,1,0,0]) (Aaa Alg (Bbu N N)) :=
 Ade (c:=sub Ast [1,1,1,0,1,0,0]) (dom:=(Aau [9])) mixed htt (Aae (Aam (Bv7 N))) (Aah rfl) (by kernel_rfl) (Aai (l:=[]) (by kernel_rfl) trivial) Bon (B:=(fun _ _ _=>none)) (Ady.none _ _ _ _) (fun _ _ _=>rfl) (fun R k x K=>B94 @Abo @Aad @Af7 N R (fun a0 a1 a2 a3=>Af7 N k a0 a1 a2 a3 (fun a b=>K .ret (Aab Axi ((a,b,()),(())))) (fun a b=>K (.exit 0) (Aab Axj ((a,(),()),(((),(),()),b,()))))) x K) N
theorem B5x (N:Nat):Aa0 Tryz.prog 41 [] (sub Ast [1,1,1,0,1,0]) (Aaa Alg (Bbu N N)):=(B5w N).frag
theorem Bsl (N:Nat):Abd Tryz.prog 160 (Bkk N) :=
 ⟨Aa9 (fn:=Tryz.f160) (c:=Ast) (dom:=(Aau [9])) (rs:=[.tmp 2,.tmp 3]) mixed htt (Aae (Aam (Bv7 N))) (Aah rfl) Tryz.func160 rfl rfl (by kernel_rfl) (Aai (l:=[(9,sub Ast [1,1,1,0,1,0])]) (by kernel_rfl) ⟨⟨_,rfl,B5x N⟩,trivial⟩) (by decide) (by decide) (by decide) (fun R x C=>Cft @Abo @Aad @Af7 N R x C),Tryz.f160,Tryz.func160,rfl,by decide⟩
theorem Cat (N:Nat):Acq Tryz.prog (Boq N):=trivial
theorem Bmq (N:Nat):Abd Tryz.prog 161 (Bbw N) :=
 ⟨Aa9 (fn:=Tryz.f161) (c:=Bop) (dom:=(Aau [])) (rs:=[.cell 0 167]) mixed htt (Aae (Aam (Cat N))) (Aah rfl) Tryz.func161 rfl rfl (by kernel_rfl) (Aai (l:=[]) (by kernel_rfl) trivial) (by decide) (by decide) (by decide) (fun R x C=>Caj N R x C),Tryz.f161,Tryz.func161,rfl,by decide⟩
theorem Cjj (N:Nat):Acq Tryz.prog (B03 N):=trivial
theorem A9u (N:Nat):Abd Tryz.prog 224 (A5n N) :=
 ⟨Aa9 (fn:=Tryz.f224) (c:=B02) (dom:=(Aau [])) (rs:=[.tmp 6]) mixed htt (Aae (Aam (Cjj N))) (Aah rfl) Tryz.func224 rfl rfl (by kernel_rfl) (Aai (l:=[]) (by kernel_rfl) trivial) (by decide) (by decide) (by decide) (fun R x C=>Cjg N R x C),Tryz.f224,Tryz.func224,rfl,by decide⟩
theorem Cem (N:Nat):Acq Tryz.prog (Cdy N):=⟨A9u N,trivial⟩
theorem Bpg (N:Nat):Abd Tryz.prog 223 (Bfi N) :=
 ⟨Aa9 (fn:=Tryz.f223) (c:=Brh) (dom:=(Aau [])) (rs:=[.tmp 2]) mixed htt (Aae (Aam (Cem N))) (Aah rfl) Tryz.func223 rfl rfl (by kernel_rfl) (Aai (l:=[]) (by kernel_rfl) trivial) (by decide) (by decide) (by decide) (fun R x C=>Cef @Aa6 N R x C),Tryz.f223,Tryz.func223,rfl,by decide⟩
theorem Bjr (N:Nat):Acq Tryz.prog (B05 N):=⟨A9u N,Bpg N,trivial⟩
theorem Bpt (N:Nat):Aa0 Tryz.prog 102 [] (sub Ard [1,1,1]) (Aaa Aj6 (Bad N)) :=
 Ad8 (dom:=(Aau [42])) mixed htt (Aae (Aam (Bjr N))) (Aah rfl) (by kernel_rfl) (Aai (l:=[]) (by kernel_rfl) trivial) Bac (fun R x K=>Bsk @Aa6 @Ae0 @Abt N R x K)
theorem Byf (N:Nat):Abd Tryz.prog 162 (Bip N) :=
 ⟨Aa9 (fn:=Tryz.f162) (c:=Ard) (dom:=(Aau [42])) (rs:=[.tmp 6]) mixed htt (Aae (Aam (Bjr N))) (Aah rfl) Tryz.func162 rfl rfl (by kernel_rfl) (Aai (l:=[(42,sub Ard [1,1,1])]) (by kernel_rfl) ⟨⟨_,rfl,Bpt N⟩,trivial⟩) (by decide) (by decide) (by decide) (fun R x C=>B1v @Aa6 @Ae0 @Abt N R x C),Tryz.f162,Tryz.func162,rfl,by decide⟩
theorem Bmr (N:Nat):Acq Tryz.prog (B38 N):=trivial
theorem Bua (N:Nat):Ady Tryz.prog 74 [] (sub Am6 [1,1,1,0,1,0,0]) (Aaa Ait (A3a N N)) :=
 Ade (c:=sub Am6 [1,1,1,0,1,0,0]) (dom:=(Aau [9])) mixed htt (Aae (Aam (Bmr N))) (Aah rfl) (by kernel_rfl) (Aai (l:=[]) (by kernel_rfl) trivial) Bfl (B:=(fun _ _ _=>none)) (Ady.none _ _ _ _) (fun _ _ _=>rfl) (fun R k x K=>Bxp @Aes N R (fun a0 a1 a2 a3 a4 a5 a6 a7 a8 a9 a10 a11 a12=>Aes N k a0 a1 a2 a3 a4 a5 a6 a7 a8 a9 a10 a11 a12 (fun a b d=>K .ret (Aab Arh (((),(),a,()),(b,d,())))) (fun a b d e f g h i j m=>K (.exit 0) (Aab Ari (((),(),(),a,b,()),((d,e,f,g,h,i,()),j,m,()))))) x K) N
theorem Bub (N:Nat):Aa0 Tryz.prog 74 [] (sub Am6 [1,1,1,0,1,0]) (Aaa Ait (A3a N N)):=(Bua N).frag
theorem Bjs (N:Nat):Abd Tryz.prog 163 (A8c N) :=
 ⟨Aa9 (fn:=Tryz.f163) (c:=Am6) (dom:=(Aau [9])) (rs:=[.tmp 2,.tmp 3,.tmp 4]) mixed htt (Aae (Aam (Bmr N))) (Aah rfl) Tryz.func163 rfl rfl (by kernel_rfl) (Aai (l:=[(9,sub Am6 [1,1,1,0,1,0])]) (by kernel_rfl) ⟨⟨_,rfl,Bub N⟩,trivial⟩) (by decide) (by decide) (by decide) (fun R x C=>B5f @Aes N R x C),Tryz.f163,Tryz.func163,rfl,by decide⟩
theorem Bsm (N:Nat):Acq Tryz.prog (Cd0 N):=trivial
theorem Byg (N:Nat):Aa0 Tryz.prog 39 [] (sub Ayv [1,0,1,0,1]) (Aaa Ami (Bir N)) :=
 Ad8 (dom:=(Aau [12])) mixed htt (Aae (Aam (Bsm N))) (Aah rfl) (by kernel_rfl) (Aai (l:=[]) (by kernel_rfl) trivial) Biq (fun R x K=>B2b @Aeu N R x K)
theorem Bph (N:Nat):Abd Tryz.prog 170 (Bfr N) :=
 ⟨Aa9 (fn:=Tryz.f170) (c:=Ayv) (dom:=(Aau [12])) (rs:=[.tmp 4]) mixed htt (Aae (Aam (Bsm N))) (Aah rfl) Tryz.func170 rfl rfl (by kernel_rfl) (Aai (l:=[(12,sub Ayv [1,0,1,0,1])]) (by kernel_rfl) ⟨⟨_,rfl,Byg N⟩,trivial⟩) (by decide) (by decide) (by decide) (fun R x C=>Cee @Aeu N R x C),Tryz.f170,Tryz.func170,rfl,by decide⟩
theorem A2k (N:Nat):Acq Tryz.prog (B8x N):=⟨Bph N,trivial⟩
theorem Buc (N:Nat):Ady Tryz.prog 132 [] (sub Aga [1,0,1,0,0,1,0,0,1,0,1,0,1,0,0,1,0,0]) (Aaa Ag4 (A3c N N)) :=
 Ade (c:=sub Aga [1,0,1,0,0,1,0,0,1,0,1,0,1,0,0,1,0,0]) (dom:=(Aau [17,44,5])) mixed htt (Aae (Aam (A2k N))) (Aah rfl) (by kernel_rfl) (Aai (l:=[]) (by kernel_rfl) trivial) Bfn (B:=(fun _ _ _=>none)) (Ady.none _ _ _ _) (fun _ _ _=>rfl) (fun R k x K=>Bx5 @Abv @Acw @Abm @Acl N R (fun a0 a1 a2 a3=>Acw N k a0 a1 a2 a3 (fun a=>K .ret (Aab Arj ((a,()),(())))) (fun a b=>K (.exit 3) (Aab Ark ((a,b,()),(()))))) x K) N
theorem Bud (N:Nat):Aa0 Tryz.prog 132 [] (sub Aga [1,0,1,0,0,1,0,0,1,0,1,0,1,0,0,1,0]) (Aaa Ag4 (A3c N N)):=(Buc N).frag
theorem Bue (N:Nat):Aa0 Tryz.prog 132 [] (sub Aga [1,0,1,0,0,1,0,0,1,1]) (Aaa Aiu (Bft N)) :=
 Ad8 (dom:=(Aau [17,44,5])) mixed htt (Aae (Aam (A2k N))) (Aah rfl) (by kernel_rfl) (Aai (l:=[]) (by kernel_rfl) trivial) Bfs (fun R x K=>Bx6 @Abv @Acw @Abm @Acl N R x K)
theorem Byh (N:Nat):Ady Tryz.prog 132 [] (sub Aga [1,0,1,0,0]) (Aaa Ahn (A5u N N)) :=
 Ade (c:=sub Aga [1,0,1,0,0]) (dom:=(Aau [17,44,5])) mixed htt (Aae (Aam (A2k N))) (Aah rfl) (by kernel_rfl) (Aai (l:=[(17,sub Aga [1,0,1,0,0,1,0,0,1,0,1,0,1,0,0,1,0]),(44,sub Aga [1,0,1,0,0,1,0,0,1,1])]) (by kernel_rfl) ⟨⟨_,rfl,Bud N⟩,⟨_,rfl,Bue N⟩,trivial⟩) Bis (B:=(fun _ _ _=>none)) (Ady.none _ _ _ _) (fun _ _ _=>rfl) (fun R k x K=>B1u @Abv @Acw @Abm @Acl N R (fun a0 a1=>Acl N k a0 a1 (fun a=>K .ret (Aab As2 ((a,()),(())))) (fun a=>K (.exit 0) (Aab As3 ((a,()),(()))))) x K) N
theorem Byi (N:Nat):Aa0 Tryz.prog 132 [] (sub Aga [1,0,1,0]) (Aaa Ahn (A5u N N)):=(Byh N).frag
theorem B5y (N:Nat):Abd Tryz.prog 164 (Bor N) :=
 ⟨Aa9 (fn:=Tryz.f164) (c:=Aga) (dom:=(Aau [17,44,5])) (rs:=[.tmp 2]) mixed htt (Aae (Aam (A2k N))) (Aah rfl) Tryz.func164 rfl rfl (by kernel_rfl) (Aai (l:=[(5,sub Aga [1,0,1,0])]) (by kernel_rfl) ⟨⟨_,rfl,Byi N⟩,trivial⟩) (by decide) (by decide) (by decide) (fun R x C=>Caa @Abv @Acw @Abm @Acl N R x C),Tryz.f164,Tryz.func164,rfl,by decide⟩
theorem B2d (N:Nat):Acq Tryz.prog (B08 N):=⟨Bpg N,trivial⟩
theorem Byj (N:Nat):Abd Tryz.prog 226 (Biv N) :=
 ⟨Aa9 (fn:=Tryz.f226) (c:=Biu) (dom:=(Aau [])) (rs:=[.tmp 2]) mixed htt (Aae (Aam (B2d N))) (Aah rfl) Tryz.func226 rfl rfl (by kernel_rfl) (Aai (l:=[]) (by kernel_rfl) trivial) (by decide) (by decide) (by decide) (fun R x C=>B2c @Ae0 N R x C),Tryz.f226,Tryz.func226,rfl,by decide⟩
theorem Awp (N:Nat):Acq Tryz.prog (Bb0 N):=⟨Byj N,trivial⟩
theorem A7t (N:Nat):Ady Tryz.prog 19 [] (sub Agb [1,0,1,0,0]) (Aaa Adz (Anb N N)) :=
 Ade (c:=sub Agb [1,0,1,0,0]) (dom:=(Aau [5])) mixed htt (Aae (Aam (Awp N))) (Aah rfl) (by kernel_rfl) (Aai (l:=[]) (by kernel_rfl) trivial) Atz (B:=(fun _ _ _=>none)) (Ady.none _ _ _ _) (fun _ _ _=>rfl) (fun R k x K=>A9e @Afl @Aa8 N R (fun a0 a1 a2=>Aa8 N k a0 a1 a2 (fun a=>K .ret (Aab Ajt ((a,()),(())))) (K (.exit 0) (Aab Aju ((()),(()))))) x K) N
theorem A7u (N:Nat):Aa0 Tryz.prog 19 [] (sub Agb [1,0,1,0]) (Aaa Adz (Anb N N)):=(A7t N).frag
theorem Ba8 (N:Nat):Abd Tryz.prog 240 (Awe N) :=
 ⟨Aa9 (fn:=Tryz.f240) (c:=Agb) (dom:=(Aau [5])) (rs:=[.tmp 4]) mixed htt (Aae (Aam (Awp N))) (Aah rfl) Tryz.func240 rfl rfl (by kernel_rfl) (Aai (l:=[(5,sub Agb [1,0,1,0])]) (by kernel_rfl) ⟨⟨_,rfl,A7u N⟩,trivial⟩) (by decide) (by decide) (by decide) (fun R x C=>Bdi @Afl @Aa8 N R x C),Tryz.f240,Tryz.func240,rfl,by decide⟩
theorem A7v (N:Nat):Acq Tryz.prog (A7n N):=⟨Ba8 N,trivial⟩
theorem A7d (N:Nat):Abd Tryz.prog 225 (Asw N) :=
 ⟨Aa9 (fn:=Tryz.f225) (c:=Asv) (dom:=(Aau [])) (rs:=[.tmp 4]) mixed htt (Aae (Aam (A7v N))) (Aah rfl) Tryz.func225 rfl rfl (by kernel_rfl) (Aai (l:=[]) (by kernel_rfl) trivial) (by decide) (by decide) (by decide) (fun R x C=>A7r @Adh N R x C),Tryz.f225,Tryz.func225,rfl,by decide⟩
theorem Bdj (N:Nat):Acq Tryz.prog (B81 N):=⟨Bsl N,A7d N,A9u N,trivial⟩
theorem Buf (N:Nat):Ady Tryz.prog 78 [] (sub Aid [1,1,1,0,1,0,0]) (Aaa Ahy (A3f N N)) :=
 Ade (c:=sub Aid [1,1,1,0,1,0,0]) (dom:=(Aau [5,27])) mixed htt (Aae (Aam (Bdj N))) (Aah rfl) (by kernel_rfl) (Aai (l:=[]) (by kernel_rfl) trivial) Bfu (B:=(fun _ _ _=>none)) (Ady.none _ _ _ _) (fun _ _ _=>rfl) (fun R k x K=>Bxn @Ac6 @Aa1 @Aa6 @Adv @Ac9 N R (fun a0 a1 a2 a3 a4 a5 a6 a7 a8 a9=>Ac9 N k a0 a1 a2 a3 a4 a5 a6 a7 a8 a9 (fun a=>K .ret (Aab Aro ((a,()),(())))) (K (.exit 2) (Aab Arp ((()),(()))))) x K) N
theorem Bug (N:Nat):Aa0 Tryz.prog 78 [] (sub Aid [1,1,1,0,1,0]) (Aaa Ahy (A3f N N)):=(Buf N).frag
theorem Byk (N:Nat):Ady Tryz.prog 78 [] (sub Aid [1,0,1,0,0]) (Aaa Aik (A5z N N)) :=
 Ade (c:=sub Aid [1,0,1,0,0]) (dom:=(Aau [5,27])) mixed htt (Aae (Aam (Bdj N))) (Aah rfl) (by kernel_rfl) (Aai (l:=[]) (by kernel_rfl) trivial) Biw (B:=(fun _ _ _=>none)) (Ady.none _ _ _ _) (fun _ _ _=>rfl) (fun R k x K=>B13 @Ac6 @Aa1 @Aa6 @Adv @Ac9 N R (fun a0 a1 a2 a3 a4 a5 a6 a7 a8=>Adv N k a0 a1 a2 a3 a4 a5 a6 a7 a8 (fun a=>K .ret (Aab As5 ((a,()),(())))) (fun a b d e f g=>K (.exit 0) (Aab As6 (((),()),((a,b,d,e,f,g,()),()))))) x K) N
theorem Byl (N:Nat):Aa0 Tryz.prog 78 [] (sub Aid [1,0,1,0]) (Aaa Aik (A5z N N)):=(Byk N).frag
theorem B5z (N:Nat):Abd Tryz.prog 165 (Bos N) :=
 ⟨Aa9 (fn:=Tryz.f165) (c:=Aid) (dom:=(Aau [5,27])) (rs:=[.tmp 2]) mixed htt (Aae (Aam (Bdj N))) (Aah rfl) Tryz.func165 rfl rfl (by kernel_rfl) (Aai (l:=[(5,sub Aid [1,0,1,0]),(27,sub Aid [1,1,1,0,1,0])]) (by kernel_rfl) ⟨⟨_,rfl,Byl N⟩,⟨_,rfl,Bug N⟩,trivial⟩) (by decide) (by decide) (by decide) (fun R x C=>B98 @Ac6 @Aa1 @Aa6 @Adv @Ac9 N R x C),Tryz.f165,Tryz.func165,rfl,by decide⟩
theorem Bpi (N:Nat):Acq Tryz.prog (B83 N):=trivial
theorem Buh (N:Nat):Aa0 Tryz.prog 17 [] (sub Awg [1,0,1,0,1]) (Aaa Alj (Bfx N)) :=
 Ad8 (dom:=(Aau [14])) mixed htt (Aae (Aam (Bpi N))) (Aah rfl) (by kernel_rfl) (Aai (l:=[]) (by kernel_rfl) trivial) Bfw (fun R x K=>Byd @Ad0 N R x K)
theorem Bms (N:Nat):Abd Tryz.prog 166 (Bb5 N) :=
 ⟨Aa9 (fn:=Tryz.f166) (c:=Awg) (dom:=(Aau [14])) (rs:=[.tmp 2]) mixed htt (Aae (Aam (Bpi N))) (Aah rfl) Tryz.func166 rfl rfl (by kernel_rfl) (Aai (l:=[(14,sub Awg [1,0,1,0,1])]) (by kernel_rfl) ⟨⟨_,rfl,Buh N⟩,trivial⟩) (by decide) (by decide) (by decide) (fun R x C=>Cag @Ad0 N R x C),Tryz.f166,Tryz.func166,rfl,by decide⟩
theorem A2l (N:Nat):Acq Tryz.prog (B85 N):=⟨Bsl N,Bmq N,Byf N,Bjs N,B5y N,B5z N,Bms N,trivial⟩
theorem Bui (N:Nat):Aa0 Tryz.prog 111 [] (sub Af9 [1,1,1,1,1,1,1,0,1,0,0,1,1,0,0,1,1]) (Aaa Aiv (Bfz N)) :=
 Ad8 (dom:=(Aau [13,40,33])) mixed htt (Aae (Aam (A2l N))) (Aah rfl) (by kernel_rfl) (Aai (l:=[]) (by kernel_rfl) trivial) Bfy (fun R x K=>Bxx @Ac6 @Aco @Adl @Abw @Aef @Aeg @Ab2 @Ac5 @Ada @Acx N R x K)
theorem Buj (N:Nat):Ady Tryz.prog 111 [] (sub Af9 [1,1,1,1,1,1,1,0,1,0,0]) (Aaa Ag5 (A3k N N)) :=
 Ade (c:=sub Af9 [1,1,1,1,1,1,1,0,1,0,0]) (dom:=(Aau [13,40,33])) mixed htt (Aae (Aam (A2l N))) (Aah rfl) (by kernel_rfl) (Aai (l:=[(40,sub Af9 [1,1,1,1,1,1,1,0,1,0,0,1,1,0,0,1,1])]) (by kernel_rfl) ⟨⟨_,rfl,Bui N⟩,trivial⟩) Bf0 (B:=(fun _ _ _=>none)) (Ady.none _ _ _ _) (fun _ _ _=>rfl) (fun R k x K=>Bxw @Ac6 @Aco @Adl @Abw @Aef @Aeg @Ab2 @Ac5 @Ada @Acx N R (fun a0 a1 a2 a3 a4 a5=>Acx N k a0 a1 a2 a3 a4 a5 (fun a=>K .ret (Aab Arq ((a,()),(())))) (K (.exit 2) (Aab Arr ((()),(()))))) x K) N
theorem Buk (N:Nat):Aa0 Tryz.prog 111 [] (sub Af9 [1,1,1,1,1,1,1,0,1,0]) (Aaa Ag5 (A3k N N)):=(Buj N).frag
theorem Bul (N:Nat):Ady Tryz.prog 111 [] (sub Af9 [1,1,1,0,1,0,0]) (Aaa Ag3 (A26 N N)) :=
 Ade (c:=sub Af9 [1,1,1,0,1,0,0]) (dom:=(Aau [13,40,33])) mixed htt (Aae (Aam (A2l N))) (Aah rfl) (by kernel_rfl) (Aai (l:=[]) (by kernel_rfl) trivial) Bfj (B:=(fun _ _ _=>none)) (Ady.none _ _ _ _) (fun _ _ _=>rfl) (fun R k x K=>Bxu @Ac6 @Aco @Adl @Abw @Aef @Aeg @Ab2 @Ac5 @Ada @Acx N R (fun a0 a1 a2 a3 a4 a5 a6 a7 a8 a9=>Ac5 N k a0 a1 a2 a3 a4 a5 a6 a7 a8 a9 (fun a=>K .ret (Aab Arf ((a,()),(())))) (fun a b d e f g=>K (.exit 0) (Aab Arg (((),()),((a,b,d,e,f,g,()),()))))) x K) N
theorem Bum (N:Nat):Aa0 Tryz.prog 111 [] (sub Af9 [1,1,1,0,1,0]) (Aaa Ag3 (A26 N N)):=(Bul N).frag
theorem B50 (N:Nat):Abd Tryz.prog 104 (Bou N) :=
 ⟨Aa9 (fn:=Tryz.f104) (c:=Af9) (dom:=(Aau [13,40,33])) (rs:=[.tmp 2]) mixed htt (Aae (Aam (A2l N))) (Aah rfl) Tryz.func104 rfl rfl (by kernel_rfl) (Aai (l:=[(13,sub Af9 [1,1,1,0,1,0]),(33,sub Af9 [1,1,1,1,1,1,1,0,1,0])]) (by kernel_rfl) ⟨⟨_,rfl,Bum N⟩,⟨_,rfl,Buk N⟩,trivial⟩) (by decide) (by decide) (by decide) (fun R x C=>Cak @Ac6 @Aco @Adl @Abw @Aef @Aeg @Ab2 @Ac5 @Ada @Acx N R x C),Tryz.f104,Tryz.func104,rfl,by decide⟩
theorem Bht (N:Nat):Acq Tryz.prog (Cd2 N):=⟨A9u N,trivial⟩
theorem B2e (N:Nat):Aa0 Tryz.prog 55 [] (sub An6 [1,0,1,0,1]) (Aaa Alw (Bln N)) :=
 Ad8 (dom:=(Aau [8,30])) mixed htt (Aae (Aam (Bht N))) (Aah rfl) (by kernel_rfl) (Aai (l:=[]) (by kernel_rfl) trivial) Blm (fun R x K=>B5a @Aa6 @Aff @Ael N R x K)
theorem Bym (N:Nat):Aa0 Tryz.prog 55 [] (sub An6 [1,1]) (Aaa Alb (Biz N)) :=
 Ad8 (dom:=(Aau [8,30])) mixed htt (Aae (Aam (Bht N))) (Aah rfl) (by kernel_rfl) (Aai (l:=[]) (by kernel_rfl) trivial) Biy (fun R x K=>B18 @Aa6 @Aff @Ael N R x K)
theorem Cau (N:Nat):Abd Tryz.prog 167 (Bri N) :=
 ⟨Aa9 (fn:=Tryz.f167) (c:=An6) (dom:=(Aau [8,30])) (rs:=[.tmp 8]) mixed htt (Aae (Aam (Bht N))) (Aah rfl) Tryz.func167 rfl rfl (by kernel_rfl) (Aai (l:=[(8,sub An6 [1,0,1,0,1]),(30,sub An6 [1,1])]) (by kernel_rfl) ⟨⟨_,rfl,B2e N⟩,⟨_,rfl,Bym N⟩,trivial⟩) (by decide) (by decide) (by decide) (fun R x C=>Cek @Aa6 @Aff @Ael N R x C),Tryz.f167,Tryz.func167,rfl,by decide⟩
theorem Bdk (N:Nat):Acq Tryz.prog (B87 N):=trivial
theorem Bun (N:Nat):Aa0 Tryz.prog 32 [] (sub Amt [1,0,1,0,1]) (Aaa Aka (Bf6 N)) :=
 Ad8 (dom:=(Aau [16,18])) mixed htt (Aae (Aam (Bdk N))) (Aah rfl) (by kernel_rfl) (Aai (l:=[]) (by kernel_rfl) trivial) Bf5 (fun R x K=>Byc @Ad1 @Aed N R x K)
theorem Buo (N:Nat):Aa0 Tryz.prog 32 [] (sub Amt [1,1]) (Aaa Akb (Bf8 N)) :=
 Ad8 (dom:=(Aau [16,18])) mixed htt (Aae (Aam (Bdk N))) (Aah rfl) (by kernel_rfl) (Aai (l:=[]) (by kernel_rfl) trivial) Bf7 (fun R x K=>Bxt @Ad1 @Aed N R x K)
theorem B51 (N:Nat):Abd Tryz.prog 168 (Bov N) :=
 ⟨Aa9 (fn:=Tryz.f168) (c:=Amt) (dom:=(Aau [16,18])) (rs:=[.tmp 6]) mixed htt (Aae (Aam (Bdk N))) (Aah rfl) Tryz.func168 rfl rfl (by kernel_rfl) (Aai (l:=[(16,sub Amt [1,0,1,0,1]),(18,sub Amt [1,1])]) (by kernel_rfl) ⟨⟨_,rfl,Bun N⟩,⟨_,rfl,Buo N⟩,trivial⟩) (by decide) (by decide) (by decide) (fun R x C=>Cam @Ad1 @Aed N R x C),Tryz.f168,Tryz.func168,rfl,by decide⟩
theorem Bpj (N:Nat):Acq Tryz.prog (B89 N):=trivial
theorem Byn (N:Nat):Ady Tryz.prog 14 [] (sub Aow [1,0,0,0]) (Aaa Ajv (A53 N N)) :=
 Ade (c:=sub Aow [1,0,0,0]) (dom:=(Aau [3])) mixed htt (Aae (Aam (Bpj N))) (Aah rfl) (by kernel_rfl) (Aai (l:=[]) (by kernel_rfl) trivial) Bi0 (B:=(fun _ _ _=>none)) (Ady.none _ _ _ _) (fun _ _ _=>rfl) (fun R k x K=>B1y @Ae3 N R (fun a0 a1=>Ae3 N k a0 a1 (fun a=>K (.exit 0) (Aab As7 ((a,()),(()))))) x K) N
theorem Byo (N:Nat):Aa0 Tryz.prog 14 [] (sub Aow [1,0,0]) (Aaa Ajv (A53 N N)):=(Byn N).frag
theorem B52 (N:Nat):Abd Tryz.prog 169 (Bow N) :=
 ⟨Aa9 (fn:=Tryz.f169) (c:=Aow) (dom:=(Aau [3])) (rs:=[.tmp 4]) mixed htt (Aae (Aam (Bpj N))) (Aah rfl) Tryz.func169 rfl rfl (by kernel_rfl) (Aai (l:=[(3,sub Aow [1,0,0])]) (by kernel_rfl) ⟨⟨_,rfl,Byo N⟩,trivial⟩) (by decide) (by decide) (by decide) (fun R x C=>Cai @Ae3 N R x C),Tryz.f169,Tryz.func169,rfl,by decide⟩
theorem Bjt (N:Nat):Acq Tryz.prog (B1b N):=⟨Bmq N,Bjs N,Cau N,B51 N,Bms N,B52 N,Bph N,trivial⟩
theorem Bpu (N:Nat):Ady Tryz.prog 114 [] (sub Amj [1,1,1,1,0,1,0,0]) (Aaa Aho (Ay7 N N)) :=
 Ade (c:=sub Amj [1,1,1,1,0,1,0,0]) (dom:=(Aau [11])) mixed htt (Aae (Aam (Bjt N))) (Aah rfl) (by kernel_rfl) (Aai (l:=[]) (by kernel_rfl) trivial) Bae (B:=(fun _ _ _=>none)) (Ady.none _ _ _ _) (fun _ _ _=>rfl) (fun R k x K=>Br6 @Aco @Abw @Af6 @Afq @Ab2 @Adn @Abv @Adg N R (fun a0 a1 a2 a3 a4 a5 a6 a7 a8 a9 a10 a11=>Adg N k a0 a1 a2 a3 a4 a5 a6 a7 a8 a9 a10 a11 (fun a=>K .ret (Aab Apa ((a,()),(())))) (K (.exit 0) (Aab Apb ((()),(()))))) x K) N
theorem Bpv (N:Nat):Aa0 Tryz.prog 114 [] (sub Amj [1,1,1,1,0,1,0]) (Aaa Aho (Ay7 N N)):=(Bpu N).frag
theorem Byp (N:Nat):Abd Tryz.prog 105 (Bi3 N) :=
 ⟨Aa9 (fn:=Tryz.f105) (c:=Amj) (dom:=(Aau [11])) (rs:=[.tmp 2]) mixed htt (Aae (Aam (Bjt N))) (Aah rfl) Tryz.func105 rfl rfl (by kernel_rfl) (Aai (l:=[(11,sub Amj [1,1,1,1,0,1,0])]) (by kernel_rfl) ⟨⟨_,rfl,Bpv N⟩,trivial⟩) (by decide) (by decide) (by decide) (fun R x C=>B16 @Aco @Abw @Af6 @Afq @Ab2 @Adn @Abv @Adg N R x C),Tryz.f105,Tryz.func105,rfl,by decide⟩
theorem Cav (N:Nat):Acq Tryz.prog (B9b N):=⟨B5v N,B50 N,Byp N,trivial⟩
theorem B53 (N:Nat):Abd Tryz.prog 62 (Box N) :=
 ⟨Aa9 (fn:=Tryz.f62) (c:=Bok) (dom:=(Aau [])) (rs:=[.tmp 2]) mixed htt (Aae (Aam (Cav N))) (Aah rfl) Tryz.func62 rfl rfl (by kernel_rfl) (Aai (l:=[]) (by kernel_rfl) trivial) (by decide) (by decide) (by decide) (fun R x C=>Can @Ajm @Ajn @Ahi N R x C),Tryz.f62,Tryz.func62,rfl,by decide⟩
theorem Bv8 (N:Nat):Acq Tryz.prog (Cfl N):=trivial
theorem B54 (N:Nat):Aa0 Tryz.prog 37 [] (sub A1y [1,0,1,0,1]) (Aaa Aoy (Boz N)) :=
 Ad8 (dom:=(Aau [8])) mixed htt (Aae (Aam (Bv8 N))) (Aah rfl) (by kernel_rfl) (Aai (l:=[]) (by kernel_rfl) trivial) Boy (fun R x K=>Caf @Ahd N R x K)
theorem Cen (N:Nat):Abd Tryz.prog 50 (Bv0 N) :=
 ⟨Aa9 (fn:=Tryz.f50) (c:=A1y) (dom:=(Aau [8])) (rs:=[.tmp 4]) mixed htt (Aae (Aam (Bv8 N))) (Aah rfl) Tryz.func50 rfl rfl (by kernel_rfl) (Aai (l:=[(8,sub A1y [1,0,1,0,1])]) (by kernel_rfl) ⟨⟨_,rfl,B54 N⟩,trivial⟩) (by decide) (by decide) (by decide) (fun R x C=>Cfw @Ahd N R x C),Tryz.f50,Tryz.func50,rfl,by decide⟩
theorem B55 (N:Nat):Acq Tryz.prog (B4b N):=⟨Cen N,trivial⟩
theorem B2f (N:Nat):Abd Tryz.prog 49 (Blp N) :=
 ⟨Aa9 (fn:=Tryz.f49) (c:=Blo) (dom:=(Aau [])) (rs:=[.tmp 3]) mixed htt (Aae (Aam (B55 N))) (Aah rfl) Tryz.func49 rfl rfl (by kernel_rfl) (Aai (l:=[]) (by kernel_rfl) trivial) (by decide) (by decide) (by decide) (fun R x C=>B5o @Alx N R x C),Tryz.f49,Tryz.func49,rfl,by decide⟩
theorem B56 (N:Nat):Acq Tryz.prog (Bls N):=trivial
theorem B2g (N:Nat):Abd Tryz.prog 51 (Blr N) :=
 ⟨Aa9 (fn:=Tryz.f51) (c:=Blq) (dom:=(Aau [])) (rs:=[.tmp 3]) mixed htt (Aae (Aam (B56 N))) (Aah rfl) Tryz.func51 rfl rfl (by kernel_rfl) (Aai (l:=[]) (by kernel_rfl) trivial) (by decide) (by decide) (by decide) (fun R x C=>B5p N R x C),Tryz.f51,Tryz.func51,rfl,by decide⟩
theorem Bhu (N:Nat):Acq Tryz.prog (Cd4 N):=⟨B53 N,B2f N,B2g N,trivial⟩
theorem Byq (N:Nat):Ady Tryz.prog 123 [] (sub Aja [1,1,1,1,1,1,0,1,0,0]) (Aaa Ail (A6a N N)) :=
 Ade (c:=sub Aja [1,1,1,1,1,1,0,1,0,0]) (dom:=(Aau [11,35])) mixed htt (Aae (Aam (Bhu N))) (Aah rfl) (by kernel_rfl) (Aai (l:=[]) (by kernel_rfl) trivial) Bi4 (B:=(fun _ _ _=>none)) (Ady.none _ _ _ _) (fun _ _ _=>rfl) (fun R k x K=>B11 @Afr @Adr @Afg @Adu @Adw N R (fun a0 a1 a2 a3 a4 a5 a6 a7 a8 a9 a10 a11 a12=>Adw N k a0 a1 a2 a3 a4 a5 a6 a7 a8 a9 a10 a11 a12 (fun a b d e f g h=>K .ret (Aab As9 ((a,b,()),((d,e,f,g,h,()),())))) (fun a b d e f=>K (.exit 3) (Aab Ata ((()),((a,b,d,e,f,()),()))))) x K) N
theorem Byr (N:Nat):Aa0 Tryz.prog 123 [] (sub Aja [1,1,1,1,1,1,0,1,0]) (Aaa Ail (A6a N N)):=(Byq N).frag
theorem Bys (N:Nat):Ady Tryz.prog 123 [] (sub Aja [1,1,1,0,1,0,0]) (Aaa Aij (A5i N N)) :=
 Ade (c:=sub Aja [1,1,1,0,1,0,0]) (dom:=(Aau [11,35])) mixed htt (Aae (Aam (Bhu N))) (Aah rfl) (by kernel_rfl) (Aai (l:=[]) (by kernel_rfl) trivial) Bin (B:=(fun _ _ _=>none)) (Ady.none _ _ _ _) (fun _ _ _=>rfl) (fun R k x K=>B10 @Afr @Adr @Afg @Adu @Adw N R (fun a0 a1 a2 a3 a4 a5 a6 a7 a8 a9 a10 a11 a12 a13 a14 a15 a16 a17=>Adu N k a0 a1 a2 a3 a4 a5 a6 a7 a8 a9 a10 a11 a12 a13 a14 a15 a16 a17 (fun a b d e f g h i j m n o p q r s=>K (.exit 0) (Aab As0 (((),(),(),(),()),((a,b,d,e,f,()),(g,h,i,j,m,()),(n,o,(),p,q,r,()),s,()))))) x K) N
theorem Byt (N:Nat):Aa0 Tryz.prog 123 [] (sub Aja [1,1,1,0,1,0]) (Aaa Aij (A5i N N)):=(Bys N).frag
theorem Caw (N:Nat):Abd Tryz.prog 27 (Brj N) :=
 ⟨Aa9 (fn:=Tryz.f27) (c:=Aja) (dom:=(Aau [11,35])) (rs:=[.tmp 6,.tmp 7]) mixed htt (Aae (Aam (Bhu N))) (Aah rfl) Tryz.func27 rfl rfl (by kernel_rfl) (Aai (l:=[(11,sub Aja [1,1,1,0,1,0]),(35,sub Aja [1,1,1,1,1,1,0,1,0])]) (by kernel_rfl) ⟨⟨_,rfl,Byt N⟩,⟨_,rfl,Byr N⟩,trivial⟩) (by decide) (by decide) (by decide) (fun R x C=>Cei @Afr @Adr @Afg @Adu @Adw N R x C),Tryz.f27,Tryz.func27,rfl,by decide⟩
theorem Ceo (N:Nat):Acq Tryz.prog (Brm N):=trivial
theorem Cax (N:Nat):Abd Tryz.prog 52 (Brl N) :=
 ⟨Aa9 (fn:=Tryz.f52) (c:=Brk) (dom:=(Aau [])) (rs:=[.tmp 2]) mixed htt (Aae (Aam (Ceo N))) (Aah rfl) Tryz.func52 rfl rfl (by kernel_rfl) (Aai (l:=[]) (by kernel_rfl) trivial) (by decide) (by decide) (by decide) (fun R x C=>Cel N R x C),Tryz.f52,Tryz.func52,rfl,by decide⟩
theorem B57 (N:Nat):Acq Tryz.prog (Blv N):=trivial
theorem B2h (N:Nat):Abd Tryz.prog 91 (Blu N) :=
 ⟨Aa9 (fn:=Tryz.f91) (c:=Blt) (dom:=(Aau [])) (rs:=[.tmp 2]) mixed htt (Aae (Aam (B57 N))) (Aah rfl) Tryz.func91 rfl rfl (by kernel_rfl) (Aai (l:=[]) (by kernel_rfl) trivial) (by decide) (by decide) (by decide) (fun R x C=>B5q N R x C),Tryz.f91,Tryz.func91,rfl,by decide⟩
theorem A9v (N:Nat):Acq Tryz.prog (Cfn N):=trivial
theorem B2i (N:Nat):Aa0 Tryz.prog 57 [] (sub Ald [1,0,1,0,1,1,1,1,1,1,1]) (Aaa Akv (Bly N)) :=
 Ad8 (dom:=(Aau [24,18,12])) mixed htt (Aae (Aam (A9v N))) (Aah rfl) (by kernel_rfl) (Aai (l:=[]) (by kernel_rfl) trivial) Blx (fun R x K=>B5k @Ad6 @Aeh @Aei N R x K)
theorem B2j (N:Nat):Aa0 Tryz.prog 57 [] (sub Ald [1,0,1,0,1,1,1,1,1]) (Aaa Akw (Bl0 N)) :=
 Ad8 (dom:=(Aau [24,18,12])) mixed htt (Aae (Aam (A9v N))) (Aah rfl) (by kernel_rfl) (Aai (l:=[(24,sub Ald [1,0,1,0,1,1,1,1,1,1,1])]) (by kernel_rfl) ⟨⟨_,rfl,B2i N⟩,trivial⟩) Blz (fun R x K=>B5b @Ad6 @Aeh @Aei N R x K)
theorem B2k (N:Nat):Aa0 Tryz.prog 57 [] (sub Ald [1,0,1,0,1,1,1]) (Aaa Akx (Bl2 N)) :=
 Ad8 (dom:=(Aau [24,18,12])) mixed htt (Aae (Aam (A9v N))) (Aah rfl) (by kernel_rfl) (Aai (l:=[(18,sub Ald [1,0,1,0,1,1,1,1,1])]) (by kernel_rfl) ⟨⟨_,rfl,B2j N⟩,trivial⟩) Bl1 (fun R x K=>B5c @Ad6 @Aeh @Aei N R x K)
theorem Cep (N:Nat):Abd Tryz.prog 66 (Bv2 N) :=
 ⟨Aa9 (fn:=Tryz.f66) (c:=Ald) (dom:=(Aau [24,18,12])) (rs:=[.tmp 6]) mixed htt (Aae (Aam (A9v N))) (Aah rfl) Tryz.func66 rfl rfl (by kernel_rfl) (Aai (l:=[(12,sub Ald [1,0,1,0,1,1,1])]) (by kernel_rfl) ⟨⟨_,rfl,B2k N⟩,trivial⟩) (by decide) (by decide) (by decide) (fun R x C=>Cfu @Ad6 @Aeh @Aei N R x C),Tryz.f66,Tryz.func66,rfl,by decide⟩
theorem Bsn (N:Nat):Acq Tryz.prog (Bro N):=⟨Cep N,trivial⟩
theorem Bpw (N:Nat):Abd Tryz.prog 93 (Bah N) :=
 ⟨Aa9 (fn:=Tryz.f93) (c:=Baf) (dom:=(Aau [])) (rs:=[.tmp 4]) mixed htt (Aae (Aam (Bsn N))) (Aah rfl) Tryz.func93 rfl rfl (by kernel_rfl) (Aai (l:=[]) (by kernel_rfl) trivial) (by decide) (by decide) (by decide) (fun R x C=>Bsd @Al1 N R x C),Tryz.f93,Tryz.func93,rfl,by decide⟩
theorem B58 (N:Nat):Acq Tryz.prog (B4m N):=⟨Bpw N,trivial⟩
theorem Bju (N:Nat):Abd Tryz.prog 92 (A8m N) :=
 ⟨Aa9 (fn:=Tryz.f92) (c:=Blw) (dom:=(Aau [])) (rs:=[.tmp 3]) mixed htt (Aae (Aam (B58 N))) (Aah rfl) Tryz.func92 rfl rfl (by kernel_rfl) (Aai (l:=[]) (by kernel_rfl) trivial) (by decide) (by decide) (by decide) (fun R x C=>B5l @Agc N R x C),Tryz.f92,Tryz.func92,rfl,by decide⟩
theorem Bso (N:Nat):Acq Tryz.prog (Baj N):=trivial
theorem Aw4 (N:Nat):Abd Tryz.prog 95 (Arw N) :=
 ⟨Aa9 (fn:=Tryz.f95) (c:=Bai) (dom:=(Aau [])) (rs:=[.tmp 4]) mixed htt (Aae (Aam (Bso N))) (Aah rfl) Tryz.func95 rfl rfl (by kernel_rfl) (Aai (l:=[]) (by kernel_rfl) trivial) (by decide) (by decide) (by decide) (fun R x C=>Bse N R x C),Tryz.f95,Tryz.func95,rfl,by decide⟩
theorem B59 (N:Nat):Acq Tryz.prog (B4o N):=⟨Aw4 N,trivial⟩
theorem B2l (N:Nat):Abd Tryz.prog 94 (Bl4 N) :=
 ⟨Aa9 (fn:=Tryz.f94) (c:=Bl3) (dom:=(Aau [])) (rs:=[.tmp 3]) mixed htt (Aae (Aam (B59 N))) (Aah rfl) Tryz.func94 rfl rfl (by kernel_rfl) (Aai (l:=[]) (by kernel_rfl) trivial) (by decide) (by decide) (by decide) (fun R x C=>B5m @Abj N R x C),Tryz.f94,Tryz.func94,rfl,by decide⟩
theorem B6a (N:Nat):Acq Tryz.prog (B4q N):=⟨Bju N,trivial⟩
theorem B2m (N:Nat):Abd Tryz.prog 96 (Bl6 N) :=
 ⟨Aa9 (fn:=Tryz.f96) (c:=Bl5) (dom:=(Aau [])) (rs:=[.tmp 3]) mixed htt (Aae (Aam (B6a N))) (Aah rfl) Tryz.func96 rfl rfl (by kernel_rfl) (Aai (l:=[]) (by kernel_rfl) trivial) (by decide) (by decide) (by decide) (fun R x C=>B5e @Aa2 N R x C),Tryz.f96,Tryz.func96,rfl,by decide⟩
theorem B6b (N:Nat):Acq Tryz.prog (Bl9 N):=trivial
theorem B2n (N:Nat):Abd Tryz.prog 97 (Bl8 N) :=
 ⟨Aa9 (fn:=Tryz.f97) (c:=Bl7) (dom:=(Aau [])) (rs:=[.tmp 2]) mixed htt (Aae (Aam (B6b N))) (Aah rfl) Tryz.func97 rfl rfl (by kernel_rfl) (Aai (l:=[]) (by kernel_rfl) trivial) (by decide) (by decide) (by decide) (fun R x C=>B5g N R x C),Tryz.f97,Tryz.func97,rfl,by decide⟩
theorem B6c (N:Nat):Acq Tryz.prog (B4v N):=⟨Aw4 N,trivial⟩
theorem B2o (N:Nat):Abd Tryz.prog 98 (Bmb N) :=
 ⟨Aa9 (fn:=Tryz.f98) (c:=Bma) (dom:=(Aau [])) (rs:=[.tmp 3]) mixed htt (Aae (Aam (B6c N))) (Aah rfl) Tryz.func98 rfl rfl (by kernel_rfl) (Aai (l:=[]) (by kernel_rfl) trivial) (by decide) (by decide) (by decide) (fun R x C=>B5d @Abj N R x C),Tryz.f98,Tryz.func98,rfl,by decide⟩
theorem B6d (N:Nat):Acq Tryz.prog (B4x N):=⟨Aw4 N,trivial⟩
theorem B2p (N:Nat):Abd Tryz.prog 99 (Bmd N) :=
 ⟨Aa9 (fn:=Tryz.f99) (c:=Bmc) (dom:=(Aau [])) (rs:=[.tmp 3]) mixed htt (Aae (Aam (B6d N))) (Aah rfl) Tryz.func99 rfl rfl (by kernel_rfl) (Aai (l:=[]) (by kernel_rfl) trivial) (by decide) (by decide) (by decide) (fun R x C=>B5n @Abj N R x C),Tryz.f99,Tryz.func99,rfl,by decide⟩
theorem B6e (N:Nat):Acq Tryz.prog (Bmg N):=trivial
theorem B2q (N:Nat):Abd Tryz.prog 53 (Bmf N) :=
 ⟨Aa9 (fn:=Tryz.f53) (c:=Bme) (dom:=(Aau [])) (rs:=[.tmp 2]) mixed htt (Aae (Aam (B6e N))) (Aah rfl) Tryz.func53 rfl rfl (by kernel_rfl) (Aai (l:=[]) (by kernel_rfl) trivial) (by decide) (by decide) (by decide) (fun R x C=>B5r N R x C),Tryz.f53,Tryz.func53,rfl,by decide⟩
theorem A7e (N:Nat):Acq Tryz.prog (B1d N):=⟨B2q N,trivial⟩
theorem Bpx (N:Nat):Ady Tryz.prog 77 [] (sub Agz [1,0,1,0,0,1,0,0,1,0,1,0,1,0,1,0,0]) (Aaa Agn (Azd N N)) :=
 Ade (c:=sub Agz [1,0,1,0,0,1,0,0,1,0,1,0,1,0,1,0,0]) (dom:=(Aau [17,5])) mixed htt (Aae (Aam (A7e N))) (Aah rfl) (by kernel_rfl) (Aai (l:=[]) (by kernel_rfl) trivial) Bak (B:=(fun _ _ _=>none)) (Ady.none _ _ _ _) (fun _ _ _=>rfl) (fun R k x K=>Bsb @Afh @Acu @Ac2 N R (fun a0 a1 a2 a3 a4 a5 a6=>Acu N k a0 a1 a2 a3 a4 a5 a6 (fun a=>K .ret (Aab Ape ((a,()),(())))) (fun a b d e f=>K (.exit 3) (Aab Apf ((a,b,d,(),e,f,()),(()))))) x K) N
theorem Bpy (N:Nat):Aa0 Tryz.prog 77 [] (sub Agz [1,0,1,0,0,1,0,0,1,0,1,0,1,0,1,0]) (Aaa Agn (Azd N N)):=(Bpx N).frag
theorem Bsp (N:Nat):Ady Tryz.prog 77 [] (sub Agz [1,0,1,0,0]) (Aaa Ahe (A1i N N)) :=
 Ade (c:=sub Agz [1,0,1,0,0]) (dom:=(Aau [17,5])) mixed htt (Aae (Aam (A7e N))) (Aah rfl) (by kernel_rfl) (Aai (l:=[(17,sub Agz [1,0,1,0,0,1,0,0,1,0,1,0,1,0,1,0])]) (by kernel_rfl) ⟨⟨_,rfl,Bpy N⟩,trivial⟩) Bdr (B:=(fun _ _ _=>none)) (Ady.none _ _ _ _) (fun _ _ _=>rfl) (fun R k x K=>Bt5 @Afh @Acu @Ac2 N R (fun a0 a1 a2 a3=>Ac2 N k a0 a1 a2 a3 (fun a=>K .ret (Aab Aqj ((a,()),(())))) (K (.exit 0) (Aab Aqk ((()),(()))))) x K) N
theorem Bsq (N:Nat):Aa0 Tryz.prog 77 [] (sub Agz [1,0,1,0]) (Aaa Ahe (A1i N N)):=(Bsp N).frag
theorem Byu (N:Nat):Abd Tryz.prog 32 (Bi7 N) :=
 ⟨Aa9 (fn:=Tryz.f32) (c:=Agz) (dom:=(Aau [17,5])) (rs:=[.tmp 8]) mixed htt (Aae (Aam (A7e N))) (Aah rfl) Tryz.func32 rfl rfl (by kernel_rfl) (Aai (l:=[(5,sub Agz [1,0,1,0])]) (by kernel_rfl) ⟨⟨_,rfl,Bsq N⟩,trivial⟩) (by decide) (by decide) (by decide) (fun R x C=>B1w @Afh @Acu @Ac2 N R x C),Tryz.f32,Tryz.func32,rfl,by decide⟩
theorem Bsr (N:Nat):Acq Tryz.prog (Cd9 N):=⟨Caw N,Cax N,B2h N,Bju N,B2l N,B2m N,B2n N,B2o N,B2p N,Byu N,trivial⟩
theorem Byv (N:Nat):Ady Tryz.prog 55 [] (sub Apw [1,1,1,1,0,1,0,0]) (Aaa Ajw (A6e N N)) :=
 Ade (c:=sub Apw [1,1,1,1,0,1,0,0]) (dom:=(Aau [13])) mixed htt (Aae (Aam (Bsr N))) (Aah rfl) (by kernel_rfl) (Aai (l:=[]) (by kernel_rfl) trivial) Bi6 (B:=(fun _ _ _=>none)) (Ady.none _ _ _ _) (fun _ _ _=>rfl) (fun R k x K=>B1q @Ah8 @Aiw @Ad5 @Aa2 @Ae1 @Afu @Afv @Afw @Afx @Ae4 @Aev N R (fun a0 a1 a2 a3 a4 a5 a6 a7 a8 a9 a10 a11 a12 a13=>Aev N k a0 a1 a2 a3 a4 a5 a6 a7 a8 a9 a10 a11 a12 a13 (fun a=>K .ret (Aab Atb ((a,()),(())))) (fun a b d e f g=>K (.exit 0) (Aab Atc (((),a,()),((b,d,e,f,g,()),()))))) x K) N
theorem Byw (N:Nat):Aa0 Tryz.prog 55 [] (sub Apw [1,1,1,1,0,1,0]) (Aaa Ajw (A6e N N)):=(Byv N).frag
theorem Cay (N:Nat):Abd Tryz.prog 22 (Brt N) :=
 ⟨Aa9 (fn:=Tryz.f22) (c:=Apw) (dom:=(Aau [13])) (rs:=[.tmp 2]) mixed htt (Aae (Aam (Bsr N))) (Aah rfl) Tryz.func22 rfl rfl (by kernel_rfl) (Aai (l:=[(13,sub Apw [1,1,1,1,0,1,0])]) (by kernel_rfl) ⟨⟨_,rfl,Byw N⟩,trivial⟩) (by decide) (by decide) (by decide) (fun R x C=>Ceg @Ah8 @Aiw @Ad5 @Aa2 @Ae1 @Afu @Afv @Afw @Afx @Ae4 @Aev N R x C),Tryz.f22,Tryz.func22,rfl,by decide⟩
theorem B2r (N:Nat):Abd Tryz.prog 55 (Apt N) :=
 ⟨Co6 Tryz.laysM171 (by kernel_rfl) rfl,Tryz.f55,Tryz.func55,rfl,by decide⟩
theorem A7w (N:Nat):Acq Tryz.prog (Asy N):=⟨Ak0 N,trivial⟩
theorem A7f (N:Nat):Abd Tryz.prog 54 (Asx N) :=
 ⟨Aa9 (fn:=Tryz.f54) (c:=Aj3) (dom:=(Aau [])) (rs:=[.tmp 4,.tmp 5]) mixed htt (Aae (Aam (A7w N))) (Aah rfl) Tryz.func54 rfl rfl (by kernel_rfl) (Aai (l:=[]) (by kernel_rfl) trivial) (by decide) (by decide) (by decide) (fun R x C=>A7s N R x C),Tryz.f54,Tryz.func54,rfl,by decide⟩
theorem A4s (N:Nat):Acq Tryz.prog (Ap6 N):=⟨Ak0 N,trivial⟩
theorem A13 (N:Nat):Abd Tryz.prog 54 (Ap5 N) :=
 ⟨Aa9 (fn:=Tryz.f54) (c:=Aj3) (dom:=(Aau [])) (rs:=[.tmp 4,.tmp 5]) mixed htt (Aae (Aam (A4s N))) (Aah rfl) Tryz.func54 rfl rfl (by kernel_rfl) (Aai (l:=[]) (by kernel_rfl) trivial) (by decide) (by decide) (by decide) (fun R x C=>A4r N R x C),Tryz.f54,Tryz.func54,rfl,by decide⟩
theorem A9w (N:Nat):Acq Tryz.prog (Cfp N):=⟨B2r N,B0a rfl (A7f N) (A13 N),Aqq N,Ayi N,trivial⟩
theorem B2s (N:Nat):Ady Tryz.prog 47 [] (sub Ago [1,1,0,1,0,0,1,1,0,0,1,1,0,1,0,0]) (Aaa Aii (A83 N N)) :=
 Ade (c:=sub Ago [1,1,0,1,0,0,1,1,0,0,1,1,0,1,0,0]) (dom:=(Aau [15,7])) mixed htt (Aae (Aam (A9w N))) (Aah rfl) (by kernel_rfl) (Aai (l:=[]) (by kernel_rfl) trivial) Bmh (B:=(fun _ _ _=>none)) (Ady.none _ _ _ _) (fun _ _ _=>rfl) (fun R k x K=>B5i @Aaw @Aaq @Aad @Ac1 @Acm @Ad7 N R (fun a0 a1 a2 a3 a4 a5 a6 a7=>Ac1 N k a0 a1 a2 a3 a4 a5 a6 a7 (fun a b d e f=>K (.exit 2) (Aab Au9 ((a,(),b,d,e,()),(((),(),()),f,()))))) x K) N
theorem Bjv (N:Nat):Aa0 Tryz.prog 47 [] (sub Ago [1,1,0,1,0,0,1,1,0,0,1,1,0,1,0]) (Aaa Aii (A83 N N)):=(B2s N).frag
theorem Bd0 (N:Nat):Ady Tryz.prog 47 [] (sub Ago [1,1,0,1,0,0]) (Aaa Adj (Avb N N)) :=
 Ade (c:=sub Ago [1,1,0,1,0,0]) (dom:=(Aau [15,7])) mixed htt (Aae (Aam (A9w N))) (Aah rfl) (by kernel_rfl) (Aai (l:=[(15,sub Ago [1,1,0,1,0,0,1,1,0,0,1,1,0,1,0])]) (by kernel_rfl) ⟨⟨_,rfl,Bjv N⟩,trivial⟩) Bgg (B:=(fun _ _ _=>none)) (Ady.none _ _ _ _) (fun _ _ _=>rfl) (fun R k x K=>Bxv @Aaw @Aaq @Aad @Ac1 @Acm @Ad7 N R (fun a0 a1 a2 a3 a4=>Acm N k a0 a1 a2 a3 a4 (fun a=>K (.exit 0) (Aab Ar0 (((),()),(((),(),()),a,()))))) x K) N
theorem Bup (N:Nat):Aa0 Tryz.prog 47 [] (sub Ago [1,1,0,1,0]) (Aaa Adj (Avb N N)):=(Bd0 N).frag
theorem B6f (N:Nat):Ady Tryz.prog 47 [] (sub Ago [1,1,0,1,0,0]) (Aaa Ajd (Bci N N)) :=
 Ade (c:=sub Ago [1,1,0,1,0,0]) (dom:=(Aau [15,7])) mixed htt (Aae (Aam (A9w N))) (Aah rfl) (by kernel_rfl) (Aai (l:=[(15,sub Ago [1,1,0,1,0,0,1,1,0,0,1,1,0,1,0])]) (by kernel_rfl) ⟨⟨_,rfl,Bjv N⟩,trivial⟩) Bo0 (B:=(Aaa Adj (Avb N N))) (Bd0 N) (fun _ _ _=>rfl) (fun R k x K=>B93 @Aaw @Aaq @Aad @Ac1 @Acm @Ad7 N R (fun a0 a1 a2 a3=>Ad7 N k a0 a1 a2 a3 (fun a=>K (.exit 0) (Aab Axy (((),()),(((),(),()),a,())))) (K (.exit 0) (Aab Axz (((),()),(((),(),()),()))))) x K) N
theorem B6g (N:Nat):Aa0 Tryz.prog 47 [] (sub Ago [1,1,0,1,0]) (Aaa Ajd (Bci N N)):=(B6f N).frag
theorem Ceq (N:Nat):Abd Tryz.prog 23 (Bv4 N) :=
 ⟨Aa9 (fn:=Tryz.f23) (c:=Ago) (dom:=(Aau [15,7])) (rs:=[.tmp 4]) mixed htt (Aae (Aam (A9w N))) (Aah rfl) Tryz.func23 rfl rfl (by kernel_rfl) (Aai (l:=[(7,sub Ago [1,1,0,1,0])]) (by kernel_rfl) ⟨⟨_,rfl,Chm (Bup N) (B6g N)⟩,trivial⟩) (by decide) (by decide) (by decide) (fun R x C=>Cfs @Aaw @Aaq @Aad @Ac1 @Acm @Ad7 N R x C),Tryz.f23,Tryz.func23,rfl,by decide⟩
theorem Cfx (N:Nat):Acq Tryz.prog (Cfr N):=⟨Cay N,Ceq N,trivial⟩
theorem Cer (N:Nat):Abd Tryz.prog 8 (Bv6 N) :=
 ⟨Aa9 (fn:=Tryz.f8) (c:=Bvy) (dom:=(Aau [])) (rs:=[.tmp 2,.tmp 3]) mixed htt (Aae (Aam (Cfx N))) (Aah rfl) Tryz.func8 rfl rfl (by kernel_rfl) (Aai (l:=[]) (by kernel_rfl) trivial) (by decide) (by decide) (by decide) (fun R x C=>Cfv @Aky @Al3 N R x C),Tryz.f8,Tryz.func8,rfl,by decide⟩
theorem Bjw (N:Nat):Acq Tryz.prog (B1f N):=trivial
theorem Bpz (N:Nat):Ady Tryz.prog 60 [] (sub Amk [1,1,1,0,1,0,0]) (Aaa Ahp (Azh N N)) :=
 Ade (c:=sub Amk [1,1,1,0,1,0,0]) (dom:=(Aau [11])) mixed htt (Aae (Aam (Bjw N))) (Aah rfl) (by kernel_rfl) (Aai (l:=[]) (by kernel_rfl) trivial) Bam (B:=(fun _ _ _=>none)) (Ady.none _ _ _ _) (fun _ _ _=>rfl) (fun R k x K=>Bsj @Adk N R (fun a0 a1 a2 a3 a4 a5 a6 a7=>Adk N k a0 a1 a2 a3 a4 a5 a6 a7 (fun a=>K (.exit 0) (Aab Apg ((a,()),(()))))) x K) N
theorem Bp0 (N:Nat):Aa0 Tryz.prog 60 [] (sub Amk [1,1,1,0,1,0]) (Aaa Ahp (Azh N N)):=(Bpz N).frag
theorem Byx (N:Nat):Abd Tryz.prog 106 (Bi8 N) :=
 ⟨Aa9 (fn:=Tryz.f106) (c:=Amk) (dom:=(Aau [11])) (rs:=[.tmp 2]) mixed htt (Aae (Aam (Bjw N))) (Aah rfl) Tryz.func106 rfl rfl (by kernel_rfl) (Aai (l:=[(11,sub Amk [1,1,1,0,1,0])]) (by kernel_rfl) ⟨⟨_,rfl,Bp0 N⟩,trivial⟩) (by decide) (by decide) (by decide) (fun R x C=>B1z @Adk N R x C),Tryz.f106,Tryz.func106,rfl,by decide⟩
theorem Bpk (N:Nat):Acq Tryz.prog (B9e N):=trivial
theorem Byy (N:Nat):Ady Tryz.prog 60 [] (sub Ao1 [1,1,0,1,0,0]) (Aaa Ajx (A6n N N)) :=
 Ade (c:=sub Ao1 [1,1,0,1,0,0]) (dom:=(Aau [7])) mixed htt (Aae (Aam (Bpk N))) (Aah rfl) (by kernel_rfl) (Aai (l:=[]) (by kernel_rfl) trivial) Bi9 (B:=(fun _ _ _=>none)) (Ady.none _ _ _ _) (fun _ _ _=>rfl) (fun R k x K=>B19 @Aem N R (fun a0 a1 a2=>Aem N k a0 a1 a2 (fun a b=>K .ret (Aab Atg ((a,b,()),(())))) (fun a b=>K (.exit 0) (Aab Ath ((a,b,()),(()))))) x K) N
theorem Byz (N:Nat):Aa0 Tryz.prog 60 [] (sub Ao1 [1,1,0,1,0]) (Aaa Ajx (A6n N N)):=(Byy N).frag
theorem B6h (N:Nat):Abd Tryz.prog 171 (Bo2 N) :=
 ⟨Aa9 (fn:=Tryz.f171) (c:=Ao1) (dom:=(Aau [7])) (rs:=[.tmp 2,.tmp 3]) mixed htt (Aae (Aam (Bpk N))) (Aah rfl) Tryz.func171 rfl rfl (by kernel_rfl) (Aai (l:=[(7,sub Ao1 [1,1,0,1,0])]) (by kernel_rfl) ⟨⟨_,rfl,Byz N⟩,trivial⟩) (by decide) (by decide) (by decide) (fun R x C=>Cah @Aem N R x C),Tryz.f171,Tryz.func171,rfl,by decide⟩
theorem Cjk (N:Nat):Acq Tryz.prog (B1h N):=trivial
theorem A9x (N:Nat):Abd Tryz.prog 172 (A6p N) :=
 ⟨Aa9 (fn:=Tryz.f172) (c:=B1g) (dom:=(Aau [])) (rs:=[.tmp 6]) mixed htt (Aae (Aam (Cjk N))) (Aah rfl) Tryz.func172 rfl rfl (by kernel_rfl) (Aai (l:=[]) (by kernel_rfl) trivial) (by decide) (by decide) (by decide) (fun R x C=>Cjh N R x C),Tryz.f172,Tryz.func172,rfl,by decide⟩
theorem Awq (N:Nat):Acq Tryz.prog (B9g N):=⟨B6h N,A9x N,trivial⟩
theorem Buq (N:Nat):Ady Tryz.prog 110 [] (sub Adm [1,1,0,1,0,0,1,0,0,1,1,1,0,0]) (Aaa Agf (A33 N N)) :=
 Ade (c:=sub Adm [1,1,0,1,0,0,1,0,0,1,1,1,0,0]) (dom:=(Aau [25,5,47,35])) mixed htt (Aae (Aam (Awq N))) (Aah rfl) (by kernel_rfl) (Aai (l:=[]) (by kernel_rfl) trivial) Bgm (B:=(fun _ _ _=>none)) (Ady.none _ _ _ _) (fun _ _ _=>rfl) (fun R k x K=>Bxi @Acv @Aan @Ab4 @Aca @Ab5 @Abq N R (fun a0 a1 a2 a3 a4 a5 a6 a7 a8 a9=>Ab5 N k a0 a1 a2 a3 a4 a5 a6 a7 a8 a9 (fun a=>K .ret (Aab Ar6 ((a,()),(())))) (fun a b d e f g h=>K (.exit 6) (Aab Ar7 (((),a,()),((b,d,e,f,g,h,()),()))))) x K) N
theorem Bur (N:Nat):Aa0 Tryz.prog 110 [] (sub Adm [1,1,0,1,0,0,1,0,0,1,1,1,0]) (Aaa Agf (A33 N N)):=(Buq N).frag
theorem Bus (N:Nat):Ady Tryz.prog 110 [] (sub Adm [1,0,1,0,0,1,0,0,1,1,1,1,0,0]) (Aaa Age (A31 N N)) :=
 Ade (c:=sub Adm [1,0,1,0,0,1,0,0,1,1,1,1,0,0]) (dom:=(Aau [25,5,47,35])) mixed htt (Aae (Aam (Awq N))) (Aah rfl) (by kernel_rfl) (Aai (l:=[]) (by kernel_rfl) trivial) Bgk (B:=(fun _ _ _=>none)) (Ady.none _ _ _ _) (fun _ _ _=>rfl) (fun R k x K=>Bxh @Acv @Aan @Ab4 @Aca @Ab5 @Abq N R (fun a0 a1 a2 a3 a4 a5 a6 a7 a8 a9 a10=>Ab4 N k a0 a1 a2 a3 a4 a5 a6 a7 a8 a9 a10 (fun a=>K .ret (Aab Ar4 ((a,()),(())))) (fun a b d e f g h=>K (.exit 2) (Aab Ar5 (((),a,()),((b,d,e,f,g,h,()),()))))) x K) N
theorem But (N:Nat):Aa0 Tryz.prog 110 [] (sub Adm [1,0,1,0,0,1,0,0,1,1,1,1,0]) (Aaa Age (A31 N N)):=(Bus N).frag
theorem Buu (N:Nat):Ady Tryz.prog 110 [] (sub Adm [1,1,0,1,0,0]) (Aaa Agg (A35 N N)) :=
 Ade (c:=sub Adm [1,1,0,1,0,0]) (dom:=(Aau [25,5,47,35])) mixed htt (Aae (Aam (Awq N))) (Aah rfl) (by kernel_rfl) (Aai (l:=[(47,sub Adm [1,1,0,1,0,0,1,0,0,1,1,1,0])]) (by kernel_rfl) ⟨⟨_,rfl,Bur N⟩,trivial⟩) Bgo (B:=(fun _ _ _=>none)) (Ady.none _ _ _ _) (fun _ _ _=>rfl) (fun R k x K=>Bxl @Acv @Aan @Ab4 @Aca @Ab5 @Abq N R (fun a0 a1 a2 a3 a4 a5 a6=>Abq N k a0 a1 a2 a3 a4 a5 a6 (fun a=>K .ret (Aab Ar8 ((a,()),(())))) (fun a b d e f g=>K (.exit 4) (Aab Ar9 (((),()),((a,b,d,e,f,g,()),()))))) x K) N
theorem Buv (N:Nat):Aa0 Tryz.prog 110 [] (sub Adm [1,1,0,1,0]) (Aaa Agg (A35 N N)):=(Buu N).frag
theorem By0 (N:Nat):Ady Tryz.prog 110 [] (sub Adm [1,0,1,0,0]) (Aaa Ag0 (A6r N N)) :=
 Ade (c:=sub Adm [1,0,1,0,0]) (dom:=(Aau [25,5,47,35])) mixed htt (Aae (Aam (Awq N))) (Aah rfl) (by kernel_rfl) (Aai (l:=[(25,sub Adm [1,0,1,0,0,1,0,0,1,1,1,1,0])]) (by kernel_rfl) ⟨⟨_,rfl,But N⟩,trivial⟩) Bjb (B:=(fun _ _ _=>none)) (Ady.none _ _ _ _) (fun _ _ _=>rfl) (fun R k x K=>B12 @Acv @Aan @Ab4 @Aca @Ab5 @Abq N R (fun a0 a1 a2 a3 a4 a5 a6=>Aca N k a0 a1 a2 a3 a4 a5 a6 (fun a=>K .ret (Aab Ati ((a,()),(())))) (fun a b d e f g=>K (.exit 0) (Aab Atj (((),()),((a,b,d,e,f,g,()),()))))) x K) N
theorem By1 (N:Nat):Aa0 Tryz.prog 110 [] (sub Adm [1,0,1,0]) (Aaa Ag0 (A6r N N)):=(By0 N).frag
theorem B6i (N:Nat):Abd Tryz.prog 107 (Bo3 N) :=
 ⟨Aa9 (fn:=Tryz.f107) (c:=Adm) (dom:=(Aau [25,5,47,35])) (rs:=[.tmp 2]) mixed htt (Aae (Aam (Awq N))) (Aah rfl) Tryz.func107 rfl rfl (by kernel_rfl) (Aai (l:=[(5,sub Adm [1,0,1,0]),(35,sub Adm [1,1,0,1,0])]) (by kernel_rfl) ⟨⟨_,rfl,By1 N⟩,⟨_,rfl,Buv N⟩,trivial⟩) (by decide) (by decide) (by decide) (fun R x C=>B97 @Acv @Aan @Ab4 @Aca @Ab5 @Abq N R x C),Tryz.f107,Tryz.func107,rfl,by decide⟩
theorem Aop (N:Nat):Acq Tryz.prog (B1j N):=⟨A9x N,trivial⟩
theorem Bp1 (N:Nat):Aa0 Tryz.prog 138 [] (sub Aea [1,1,1,0,1,0,1,1,1,1,1,1,1,1,1,1,1,1,1,1,1]) (Aaa Afy (Bap N)) :=
 Ad8 (dom:=(Aau [68,44,36,28,82])) mixed htt (Aae (Aam (Aop N))) (Aah rfl) (by kernel_rfl) (Aai (l:=[]) (by kernel_rfl) trivial) Bao (fun R x K=>Br7 @Aan @Aa7 @Abf @Abg @Aar @Aap N R x K)
theorem Bp2 (N:Nat):Aa0 Tryz.prog 138 [] (sub Aea [1,1,1,0,1,0,1,1,1,1,1,1,1]) (Aaa Afz (Bar N)) :=
 Ad8 (dom:=(Aau [68,44,36,28,82])) mixed htt (Aae (Aam (Aop N))) (Aah rfl) (by kernel_rfl) (Aai (l:=[(68,sub Aea [1,1,1,0,1,0,1,1,1,1,1,1,1,1,1,1,1,1,1,1,1])]) (by kernel_rfl) ⟨⟨_,rfl,Bp1 N⟩,trivial⟩) Baq (fun R x K=>Br8 @Aan @Aa7 @Abf @Abg @Aar @Aap N R x K)
theorem Bp3 (N:Nat):Aa0 Tryz.prog 138 [] (sub Aea [1,1,1,0,1,0,1,1,1,1,1]) (Aaa Af0 (Bat N)) :=
 Ad8 (dom:=(Aau [68,44,36,28,82])) mixed htt (Aae (Aam (Aop N))) (Aah rfl) (by kernel_rfl) (Aai (l:=[(44,sub Aea [1,1,1,0,1,0,1,1,1,1,1,1,1])]) (by kernel_rfl) ⟨⟨_,rfl,Bp2 N⟩,trivial⟩) Bas (fun R x K=>Br9 @Aan @Aa7 @Abf @Abg @Aar @Aap N R x K)
theorem Bp4 (N:Nat):Aa0 Tryz.prog 138 [] (sub Aea [1,1,1,0,1,0,1,1,1]) (Aaa Af1 (Bav N)) :=
 Ad8 (dom:=(Aau [68,44,36,28,82])) mixed htt (Aae (Aam (Aop N))) (Aah rfl) (by kernel_rfl) (Aai (l:=[(36,sub Aea [1,1,1,0,1,0,1,1,1,1,1])]) (by kernel_rfl) ⟨⟨_,rfl,Bp3 N⟩,trivial⟩) Bau (fun R x K=>Bsa @Aan @Aa7 @Abf @Abg @Aar @Aap N R x K)
theorem Bp5 (N:Nat):Aa0 Tryz.prog 138 [] (sub Aea [1,1,1,1]) (Aaa Af2 (Bax N)) :=
 Ad8 (dom:=(Aau [68,44,36,28,82])) mixed htt (Aae (Aam (Aop N))) (Aah rfl) (by kernel_rfl) (Aai (l:=[]) (by kernel_rfl) trivial) Baw (fun R x K=>Bsh @Aan @Aa7 @Abf @Abg @Aar @Aap N R x K)
theorem By2 (N:Nat):Abd Tryz.prog 108 (Bjd N) :=
 ⟨Aa9 (fn:=Tryz.f108) (c:=Aea) (dom:=(Aau [68,44,36,28,82])) (rs:=[.tmp 4]) mixed htt (Aae (Aam (Aop N))) (Aah rfl) Tryz.func108 rfl rfl (by kernel_rfl) (Aai (l:=[(28,sub Aea [1,1,1,0,1,0,1,1,1]),(82,sub Aea [1,1,1,1])]) (by kernel_rfl) ⟨⟨_,rfl,Bp4 N⟩,⟨_,rfl,Bp5 N⟩,trivial⟩) (by decide) (by decide) (by decide) (fun R x C=>B15 @Aan @Aa7 @Abf @Abg @Aar @Aap N R x C),Tryz.f108,Tryz.func108,rfl,by decide⟩
theorem B6j (N:Nat):Acq Tryz.prog (Bmk N):=trivial
theorem Bjx (N:Nat):Abd Tryz.prog 173 (A85 N) :=
 ⟨Aa9 (fn:=Tryz.f173) (c:=Bmj) (dom:=(Aau [])) (rs:=[.tmp 2]) mixed htt (Aae (Aam (B6j N))) (Aah rfl) Tryz.func173 rfl rfl (by kernel_rfl) (Aai (l:=[]) (by kernel_rfl) trivial) (by decide) (by decide) (by decide) (fun R x C=>B5h N R x C),Tryz.f173,Tryz.func173,rfl,by decide⟩
theorem A2m (N:Nat):Acq Tryz.prog (B9i N):=⟨Bjx N,trivial⟩
theorem Buw (N:Nat):Aa0 Tryz.prog 126 [] (sub Ahj [1,1,0,1,0,0,1,0,0,1,1,1,1,1]) (Aaa Aiz (Bgt N)) :=
 Ad8 (dom:=(Aau [44,20,7])) mixed htt (Aae (Aam (A2m N))) (Aah rfl) (by kernel_rfl) (Aai (l:=[]) (by kernel_rfl) trivial) Bgs (fun R x K=>Bxo @Aaz @Ab6 @Adb @Ac3 N R x K)
theorem Bux (N:Nat):Aa0 Tryz.prog 126 [] (sub Ahj [1,1,0,1,0,0,1,0,0,1,1,1]) (Aaa Ai0 (Bgv N)) :=
 Ad8 (dom:=(Aau [44,20,7])) mixed htt (Aae (Aam (A2m N))) (Aah rfl) (by kernel_rfl) (Aai (l:=[(44,sub Ahj [1,1,0,1,0,0,1,0,0,1,1,1,1,1])]) (by kernel_rfl) ⟨⟨_,rfl,Buw N⟩,trivial⟩) Bgu (fun R x K=>Bx4 @Aaz @Ab6 @Adb @Ac3 N R x K)
theorem By3 (N:Nat):Ady Tryz.prog 126 [] (sub Ahj [1,1,0,1,0,0]) (Aaa Ahr (A6w N N)) :=
 Ade (c:=sub Ahj [1,1,0,1,0,0]) (dom:=(Aau [44,20,7])) mixed htt (Aae (Aam (A2m N))) (Aah rfl) (by kernel_rfl) (Aai (l:=[(20,sub Ahj [1,1,0,1,0,0,1,0,0,1,1,1])]) (by kernel_rfl) ⟨⟨_,rfl,Bux N⟩,trivial⟩) Bje (B:=(fun _ _ _=>none)) (Ady.none _ _ _ _) (fun _ _ _=>rfl) (fun R k x K=>B14 @Aaz @Ab6 @Adb @Ac3 N R (fun a0 a1 a2 a3 a4 a5 a6 a7 a8 a9=>Ac3 N k a0 a1 a2 a3 a4 a5 a6 a7 a8 a9 (fun a=>K .ret (Aab Atl ((a,()),(())))) (fun a b d e f g h i j=>K (.exit 0) (Aab Atm (((),a,b,d,()),((e,f,g,h,i,j,()),()))))) x K) N
theorem By4 (N:Nat):Aa0 Tryz.prog 126 [] (sub Ahj [1,1,0,1,0]) (Aaa Ahr (A6w N N)):=(By3 N).frag
theorem B6k (N:Nat):Abd Tryz.prog 109 (Bo4 N) :=
 ⟨Aa9 (fn:=Tryz.f109) (c:=Ahj) (dom:=(Aau [44,20,7])) (rs:=[.tmp 2]) mixed htt (Aae (Aam (A2m N))) (Aah rfl) Tryz.func109 rfl rfl (by kernel_rfl) (Aai (l:=[(7,sub Ahj [1,1,0,1,0])]) (by kernel_rfl) ⟨⟨_,rfl,By4 N⟩,trivial⟩) (by decide) (by decide) (by decide) (fun R x C=>B99 @Aaz @Ab6 @Adb @Ac3 N R x C),Tryz.f109,Tryz.func109,rfl,by decide⟩
theorem Bpl (N:Nat):Acq Tryz.prog (B9k N):=trivial
theorem Buy (N:Nat):Aa0 Tryz.prog 17 [] (sub Awk [1,0,1,0,1]) (Aaa Alq (Bgz N)) :=
 Ad8 (dom:=(Aau [14])) mixed htt (Aae (Aam (Bpl N))) (Aah rfl) (by kernel_rfl) (Aai (l:=[]) (by kernel_rfl) trivial) Bgy (fun R x K=>Bye @Ad2 N R x K)
theorem Bmt (N:Nat):Abd Tryz.prog 174 (Bct N) :=
 ⟨Aa9 (fn:=Tryz.f174) (c:=Awk) (dom:=(Aau [14])) (rs:=[.tmp 2]) mixed htt (Aae (Aam (Bpl N))) (Aah rfl) Tryz.func174 rfl rfl (by kernel_rfl) (Aai (l:=[(14,sub Awk [1,0,1,0,1])]) (by kernel_rfl) ⟨⟨_,rfl,Buy N⟩,trivial⟩) (by decide) (by decide) (by decide) (fun R x C=>Caq @Ad2 N R x C),Tryz.f174,Tryz.func174,rfl,by decide⟩
theorem Aub (N:Nat):Acq Tryz.prog (B45 N):=⟨Bmt N,trivial⟩
theorem Bss (N:Nat):Aa0 Tryz.prog 121 [] (sub Ado [1,1,1,1,0,1,0,0,1,0,0,1]) (Aaa Ahg (Bdu N)) :=
 Ad8 (dom:=(Aau [7,24,17,37])) mixed htt (Aae (Aam (Aub N))) (Aah rfl) (by kernel_rfl) (Aai (l:=[]) (by kernel_rfl) trivial) Bdt (fun R x K=>Bt4 @Abe @Ab7 @Acb @Abr @Abl N R x K)
theorem Bst (N:Nat):Ady Tryz.prog 121 [] (sub Ado [1,1,1,1,1,0,1,0,0]) (Aaa Afo (A1o N N)) :=
 Ade (c:=sub Ado [1,1,1,1,1,0,1,0,0]) (dom:=(Aau [7,24,17,37])) mixed htt (Aae (Aam (Aub N))) (Aah rfl) (by kernel_rfl) (Aai (l:=[]) (by kernel_rfl) trivial) Bdx (B:=(fun _ _ _=>none)) (Ady.none _ _ _ _) (fun _ _ _=>rfl) (fun R k x K=>Bt2 @Abe @Ab7 @Acb @Abr @Abl N R (fun a0 a1 a2 a3 a4 a5 a6 a7 a8 a9 a10=>Abl N k a0 a1 a2 a3 a4 a5 a6 a7 a8 a9 a10 (fun a b d=>K .ret (Aab Aqn (((),a,()),(((),(),()),b,d,())))) (fun a b d e=>K (.exit 4) (Aab Aqo (((),(),()),(((),(),()),((),(),()),a,b,d,e,()))))) x K) N
theorem Bsu (N:Nat):Aa0 Tryz.prog 121 [] (sub Ado [1,1,1,1,1,0,1,0]) (Aaa Afo (A1o N N)):=(Bst N).frag
theorem Bsv (N:Nat):Ady Tryz.prog 121 [] (sub Ado [1,1,1,1,0,1,0,0]) (Aaa Afn (A1l N N)) :=
 Ade (c:=sub Ado [1,1,1,1,0,1,0,0]) (dom:=(Aau [7,24,17,37])) mixed htt (Aae (Aam (Aub N))) (Aah rfl) (by kernel_rfl) (Aai (l:=[(24,sub Ado [1,1,1,1,0,1,0,0,1,0,0,1])]) (by kernel_rfl) ⟨⟨_,rfl,Bss N⟩,trivial⟩) Bdv (B:=(fun _ _ _=>none)) (Ady.none _ _ _ _) (fun _ _ _=>rfl) (fun R k x K=>Bt1 @Abe @Ab7 @Acb @Abr @Abl N R (fun a0 a1 a2 a3 a4 a5 a6 a7 a8 a9 a10 a11=>Abr N k a0 a1 a2 a3 a4 a5 a6 a7 a8 a9 a10 a11 (fun a b d=>K .ret (Aab Aql (((),a,()),(((),(),()),b,d,())))) (fun a b d e f g h i j m=>K (.exit 2) (Aab Aqm (((),(),(),()),((a,b,d,e,f,g,()),((),(),()),((),(),()),h,i,j,m,()))))) x K) N
theorem Bsw (N:Nat):Aa0 Tryz.prog 121 [] (sub Ado [1,1,1,1,0,1,0]) (Aaa Afn (A1l N N)):=(Bsv N).frag
theorem Buz (N:Nat):Ady Tryz.prog 121 [] (sub Ado [1,1,0,1,0,0]) (Aaa Agh (A4d N N)) :=
 Ade (c:=sub Ado [1,1,0,1,0,0]) (dom:=(Aau [7,24,17,37])) mixed htt (Aae (Aam (Aub N))) (Aah rfl) (by kernel_rfl) (Aai (l:=[]) (by kernel_rfl) trivial) Bgw (B:=(fun _ _ _=>none)) (Ady.none _ _ _ _) (fun _ _ _=>rfl) (fun R k x K=>Bxz @Abe @Ab7 @Acb @Abr @Abl N R (fun a0 a1 a2 a3 a4 a5 a6 a7 a8 a9 a10=>Ab7 N k a0 a1 a2 a3 a4 a5 a6 a7 a8 a9 a10 (fun a b d e f g h i j m=>K (.exit 0) (Aab Ase (((),(),(),()),((a,b,d,e,f,g,()),((),(),()),((),(),()),h,i,j,m,()))))) x K) N
theorem Bu0 (N:Nat):Aa0 Tryz.prog 121 [] (sub Ado [1,1,0,1,0]) (Aaa Agh (A4d N N)):=(Buz N).frag
theorem B2t (N:Nat):Abd Tryz.prog 110 (Bml N) :=
 ⟨Aa9 (fn:=Tryz.f110) (c:=Ado) (dom:=(Aau [7,24,17,37])) (rs:=[.cell 2 130,.tmp 3]) mixed htt (Aae (Aam (Aub N))) (Aah rfl) Tryz.func110 rfl rfl (by kernel_rfl) (Aai (l:=[(7,sub Ado [1,1,0,1,0]),(17,sub Ado [1,1,1,1,0,1,0]),(37,sub Ado [1,1,1,1,1,0,1,0])]) (by kernel_rfl) ⟨⟨_,rfl,Bu0 N⟩,⟨_,rfl,Bsw N⟩,⟨_,rfl,Bsu N⟩,trivial⟩) (by decide) (by decide) (by decide) (fun R x C=>B5j @Abe @Ab7 @Acb @Abr @Abl N R x C),Tryz.f110,Tryz.func110,rfl,by decide⟩
theorem A2n (N:Nat):Acq Tryz.prog (B9m N):=trivial
theorem Bu1 (N:Nat):Aa0 Tryz.prog 55 [] (sub Aje [1,0,1,0,1,1,1,1,1,1,1,1,1,1,1]) (Aaa Ai1 (Bg1 N)) :=
 Ad8 (dom:=(Aau [60,42,20])) mixed htt (Aae (Aam (A2n N))) (Aah rfl) (by kernel_rfl) (Aai (l:=[]) (by kernel_rfl) trivial) Bg0 (fun R x K=>Bx7 @Adc @Abs @Ab8 N R x K)
theorem Bu2 (N:Nat):Aa0 Tryz.prog 55 [] (sub Aje [1,0,1,0,1,1,1]) (Aaa Ai2 (Bg3 N)) :=
 Ad8 (dom:=(Aau [60,42,20])) mixed htt (Aae (Aam (A2n N))) (Aah rfl) (by kernel_rfl) (Aai (l:=[(60,sub Aje [1,0,1,0,1,1,1,1,1,1,1,1,1,1,1])]) (by kernel_rfl) ⟨⟨_,rfl,Bu1 N⟩,trivial⟩) Bg2 (fun R x K=>Bx8 @Adc @Abs @Ab8 N R x K)
theorem Bu3 (N:Nat):Aa0 Tryz.prog 55 [] (sub Aje [1,0,1,0,1]) (Aaa Ai3 (Bg5 N)) :=
 Ad8 (dom:=(Aau [60,42,20])) mixed htt (Aae (Aam (A2n N))) (Aah rfl) (by kernel_rfl) (Aai (l:=[(42,sub Aje [1,0,1,0,1,1,1])]) (by kernel_rfl) ⟨⟨_,rfl,Bu2 N⟩,trivial⟩) Bg4 (fun R x K=>Bxr @Adc @Abs @Ab8 N R x K)
theorem B6l (N:Nat):Abd Tryz.prog 175 (Bo5 N) :=
 ⟨Aa9 (fn:=Tryz.f175) (c:=Aje) (dom:=(Aau [60,42,20])) (rs:=[.tmp 4]) mixed htt (Aae (Aam (A2n N))) (Aah rfl) Tryz.func175 rfl rfl (by kernel_rfl) (Aai (l:=[(20,sub Aje [1,0,1,0,1])]) (by kernel_rfl) ⟨⟨_,rfl,Bu3 N⟩,trivial⟩) (by decide) (by decide) (by decide) (fun R x C=>Cab @Adc @Abs @Ab8 N R x C),Tryz.f175,Tryz.func175,rfl,by decide⟩
theorem Bdl (N:Nat):Acq Tryz.prog (B9o N):=trivial
theorem Bu4 (N:Nat):Aa0 Tryz.prog 22 [] (sub Amw [1,0,1,0,1,1,1]) (Aaa Akl (Bg7 N)) :=
 Ad8 (dom:=(Aau [32,24])) mixed htt (Aae (Aam (Bdl N))) (Aah rfl) (by kernel_rfl) (Aai (l:=[]) (by kernel_rfl) trivial) Bg6 (fun R x K=>Bxs @Adp @Acg N R x K)
theorem Bu5 (N:Nat):Aa0 Tryz.prog 22 [] (sub Amw [1,0,1,0,1]) (Aaa Akm (Bg9 N)) :=
 Ad8 (dom:=(Aau [32,24])) mixed htt (Aae (Aam (Bdl N))) (Aah rfl) (by kernel_rfl) (Aai (l:=[(32,sub Amw [1,0,1,0,1,1,1])]) (by kernel_rfl) ⟨⟨_,rfl,Bu4 N⟩,trivial⟩) Bg8 (fun R x K=>Bya @Adp @Acg N R x K)
theorem B6m (N:Nat):Abd Tryz.prog 176 (Bo6 N) :=
 ⟨Aa9 (fn:=Tryz.f176) (c:=Amw) (dom:=(Aau [32,24])) (rs:=[.tmp 2]) mixed htt (Aae (Aam (Bdl N))) (Aah rfl) Tryz.func176 rfl rfl (by kernel_rfl) (Aai (l:=[(24,sub Amw [1,0,1,0,1])]) (by kernel_rfl) ⟨⟨_,rfl,Bu5 N⟩,trivial⟩) (by decide) (by decide) (by decide) (fun R x C=>Cac @Adp @Acg N R x C),Tryz.f176,Tryz.func176,rfl,by decide⟩
theorem Bpm (N:Nat):Acq Tryz.prog (B9q N):=⟨A9x N,trivial⟩
theorem By5 (N:Nat):Aa0 Tryz.prog 35 [] (sub Awl [1,0,1,0,1]) (Aaa Amm (Bjh N)) :=
 Ad8 (dom:=(Aau [8])) mixed htt (Aae (Aam (Bpm N))) (Aah rfl) (by kernel_rfl) (Aai (l:=[]) (by kernel_rfl) trivial) Bjg (fun R x K=>B1x @Aan @Agi N R x K)
theorem B6n (N:Nat):Abd Tryz.prog 177 (Bo7 N) :=
 ⟨Aa9 (fn:=Tryz.f177) (c:=Awl) (dom:=(Aau [8])) (rs:=[.tmp 4]) mixed htt (Aae (Aam (Bpm N))) (Aah rfl) Tryz.func177 rfl rfl (by kernel_rfl) (Aai (l:=[(8,sub Awl [1,0,1,0,1])]) (by kernel_rfl) ⟨⟨_,rfl,By5 N⟩,trivial⟩) (by decide) (by decide) (by decide) (fun R x C=>Cad @Aan @Agi N R x C),Tryz.f177,Tryz.func177,rfl,by decide⟩
theorem Bpn (N:Nat):Acq Tryz.prog (B9s N):=trivial
theorem By6 (N:Nat):Ady Tryz.prog 31 [] (sub Ao2 [1,0,0,0]) (Aaa Ajy (A62 N N)) :=
 Ade (c:=sub Ao2 [1,0,0,0]) (dom:=(Aau [3])) mixed htt (Aae (Aam (Bpn N))) (Aah rfl) (by kernel_rfl) (Aai (l:=[]) (by kernel_rfl) trivial) Bji (B:=(fun _ _ _=>none)) (Ady.none _ _ _ _) (fun _ _ _=>rfl) (fun R k x K=>B2a @Ae5 N R (fun a0 a1=>Ae5 N k a0 a1 (fun a b=>K (.exit 0) (Aab Atn ((a,b,()),(()))))) x K) N
theorem By7 (N:Nat):Aa0 Tryz.prog 31 [] (sub Ao2 [1,0,0]) (Aaa Ajy (A62 N N)):=(By6 N).frag
theorem B6o (N:Nat):Abd Tryz.prog 178 (Bo8 N) :=
 ⟨Aa9 (fn:=Tryz.f178) (c:=Ao2) (dom:=(Aau [3])) (rs:=[.tmp 4]) mixed htt (Aae (Aam (Bpn N))) (Aah rfl) Tryz.func178 rfl rfl (by kernel_rfl) (Aai (l:=[(3,sub Ao2 [1,0,0])]) (by kernel_rfl) ⟨⟨_,rfl,By7 N⟩,trivial⟩) (by decide) (by decide) (by decide) (fun R x C=>Cas @Ae5 N R x C),Tryz.f178,Tryz.func178,rfl,by decide⟩
theorem Bsx (N:Nat):Acq Tryz.prog (Ceb N):=⟨B6l N,B6m N,A9x N,B6n N,Bmt N,B6o N,Bjx N,trivial⟩
theorem B2u (N:Nat):Ady Tryz.prog 96 [] (sub Aqa [1,1,0,1,0,0]) (Aaa Akz (A9c N N)) :=
 Ade (c:=sub Aqa [1,1,0,1,0,0]) (dom:=(Aau [7])) mixed htt (Aae (Aam (Bsx N))) (Aah rfl) (by kernel_rfl) (Aai (l:=[]) (by kernel_rfl) trivial) Bmm (B:=(fun _ _ _=>none)) (Ady.none _ _ _ _) (fun _ _ _=>rfl) (fun R k x K=>B49 @Af8 @Afb @Aan @Afc @Abe @Aej @Aaz @Ae2 N R (fun a0 a1 a2 a3 a4 a5 a6 a7 a8 a9 a10=>Ae2 N k a0 a1 a2 a3 a4 a5 a6 a7 a8 a9 a10 (fun a=>K .ret (Aab Avw ((a,()),(())))) (K (.exit 0) (Aab Avx ((()),(()))))) x K) N
theorem B2v (N:Nat):Aa0 Tryz.prog 96 [] (sub Aqa [1,1,0,1,0]) (Aaa Akz (A9c N N)):=(B2u N).frag
theorem Caz (N:Nat):Abd Tryz.prog 111 (Brz N) :=
 ⟨Aa9 (fn:=Tryz.f111) (c:=Aqa) (dom:=(Aau [7])) (rs:=[.tmp 4]) mixed htt (Aae (Aam (Bsx N))) (Aah rfl) Tryz.func111 rfl rfl (by kernel_rfl) (Aai (l:=[(7,sub Aqa [1,1,0,1,0])]) (by kernel_rfl) ⟨⟨_,rfl,B2v N⟩,trivial⟩) (by decide) (by decide) (by decide) (fun R x C=>Ceh @Af8 @Afb @Aan @Afc @Abe @Aej @Aaz @Ae2 N R x C),Tryz.f111,Tryz.func111,rfl,by decide⟩
theorem Bpo (N:Nat):Acq Tryz.prog (B9u N):=⟨Byx N,B6i N,By2 N,B6k N,B2t N,Caz N,trivial⟩
theorem Bu6 (N:Nat):Ady Tryz.prog 50 [] (sub Ao0 [1,1,1,0,1,0,0]) (Aaa Aiy (A39 N N)) :=
 Ade (c:=sub Ao0 [1,1,1,0,1,0,0]) (dom:=(Aau [13])) mixed htt (Aae (Aam (Bpo N))) (Aah rfl) (by kernel_rfl) (Aai (l:=[]) (by kernel_rfl) trivial) Bgq (B:=(fun _ _ _=>none)) (Ady.none _ _ _ _) (fun _ _ _=>rfl) (fun R k x K=>Bx2 @Afm @Ahf @Aen @Agt @Af3 @Aib @Aet N R (fun a0 a1 a2 a3 a4 a5 a6=>Aet N k a0 a1 a2 a3 a4 a5 a6 (fun a=>K .ret (Aab Asb ((a,()),(())))) (fun a b d e f g=>K (.exit 0) (Aab Asc (((),()),((a,b,d,e,f,g,()),()))))) x K) N
theorem Bu7 (N:Nat):Aa0 Tryz.prog 50 [] (sub Ao0 [1,1,1,0,1,0]) (Aaa Aiy (A39 N N)):=(Bu6 N).frag
theorem B6p (N:Nat):Abd Tryz.prog 67 (Bo9 N) :=
 ⟨Aa9 (fn:=Tryz.f67) (c:=Ao0) (dom:=(Aau [13])) (rs:=[.tmp 2]) mixed htt (Aae (Aam (Bpo N))) (Aah rfl) Tryz.func67 rfl rfl (by kernel_rfl) (Aai (l:=[(13,sub Ao0 [1,1,1,0,1,0])]) (by kernel_rfl) ⟨⟨_,rfl,Bu7 N⟩,trivial⟩) (by decide) (by decide) (by decide) (fun R x C=>B96 @Afm @Ahf @Aen @Agt @Af3 @Aib @Aet N R x C),Tryz.f67,Tryz.func67,rfl,by decide⟩
theorem Bpp (N:Nat):Acq Tryz.prog (B9w N):=⟨B6p N,trivial⟩
theorem Bu8 (N:Nat):Ady Tryz.prog 43 [] (sub Aoz [1,1,1,0,1,0,0]) (Aaa Aix (A3z N N)) :=
 Ade (c:=sub Aoz [1,1,1,0,1,0,0]) (dom:=(Aau [11])) mixed htt (Aae (Aam (Bpp N))) (Aah rfl) (by kernel_rfl) (Aai (l:=[]) (by kernel_rfl) trivial) Bgi (B:=(fun _ _ _=>none)) (Ady.none _ _ _ _) (fun _ _ _=>rfl) (fun R k x K=>Bxq @Agu @Aee N R (fun a0 a1 a2 a3 a4 a5 a6 a7 a8 a9 a10 a11=>Aee N k a0 a1 a2 a3 a4 a5 a6 a7 a8 a9 a10 a11 (fun a b d e f g=>K (.exit 0) (Aab Ar1 (((),()),((a,b,(),d,e,f,()),g,()))))) x K) N
theorem Bu9 (N:Nat):Aa0 Tryz.prog 43 [] (sub Aoz [1,1,1,0,1,0]) (Aaa Aix (A3z N N)):=(Bu8 N).frag
theorem B6q (N:Nat):Abd Tryz.prog 34 (Bpa N) :=
 ⟨Aa9 (fn:=Tryz.f34) (c:=Aoz) (dom:=(Aau [11])) (rs:=[.tmp 2]) mixed htt (Aae (Aam (Bpp N))) (Aah rfl) Tryz.func34 rfl rfl (by kernel_rfl) (Aai (l:=[(11,sub Aoz [1,1,1,0,1,0])]) (by kernel_rfl) ⟨⟨_,rfl,Bu9 N⟩,trivial⟩) (by decide) (by decide) (by decide) (fun R x C=>Cao @Agu @Aee N R x C),Tryz.f34,Tryz.func34,rfl,by decide⟩
theorem Cjl (N:Nat):Acq Tryz.prog (B1m N):=trivial
theorem A9y (N:Nat):Abd Tryz.prog 61 (A64 N) :=
 ⟨Aa9 (fn:=Tryz.f61) (c:=B1l) (dom:=(Aau [])) (rs:=[.tmp 6]) mixed htt (Aae (Aam (Cjl N))) (Aah rfl) Tryz.func61 rfl rfl (by kernel_rfl) (Aai (l:=[]) (by kernel_rfl) trivial) (by decide) (by decide) (by decide) (fun R x C=>Cji N R x C),Tryz.f61,Tryz.func61,rfl,by decide⟩
theorem Asn (N:Nat):Acq Tryz.prog (B1o N):=⟨A9y N,trivial⟩
theorem Bp6 (N:Nat):Aa0 Tryz.prog 50 [] (sub Afk [1,1,0,1,0,1,1,1,1,1,1,1]) (Aaa Agv (Baz N)) :=
 Ad8 (dom:=(Aau [28,22,16,38])) mixed htt (Aae (Aam (Asn N))) (Aah rfl) (by kernel_rfl) (Aai (l:=[]) (by kernel_rfl) trivial) Bay (fun R x K=>Bsg @Aat @Aby @Abz @Ab0 @Ab1 N R x K)
theorem Bp7 (N:Nat):Aa0 Tryz.prog 50 [] (sub Afk [1,1,0,1,0,1,1,1,1,1]) (Aaa Agw (Ba1 N)) :=
 Ad8 (dom:=(Aau [28,22,16,38])) mixed htt (Aae (Aam (Asn N))) (Aah rfl) (by kernel_rfl) (Aai (l:=[(28,sub Afk [1,1,0,1,0,1,1,1,1,1,1,1])]) (by kernel_rfl) ⟨⟨_,rfl,Bp6 N⟩,trivial⟩) Ba0 (fun R x K=>Bsf @Aat @Aby @Abz @Ab0 @Ab1 N R x K)
theorem Bp8 (N:Nat):Aa0 Tryz.prog 50 [] (sub Afk [1,1,0,1,0,1,1,1]) (Aaa Agx (Ba3 N)) :=
 Ad8 (dom:=(Aau [28,22,16,38])) mixed htt (Aae (Aam (Asn N))) (Aah rfl) (by kernel_rfl) (Aai (l:=[(22,sub Afk [1,1,0,1,0,1,1,1,1,1])]) (by kernel_rfl) ⟨⟨_,rfl,Bp7 N⟩,trivial⟩) Ba2 (fun R x K=>Bsc @Aat @Aby @Abz @Ab0 @Ab1 N R x K)
theorem Bp9 (N:Nat):Aa0 Tryz.prog 50 [] (sub Afk [1,1,1]) (Aaa Agy (Ba5 N)) :=
 Ad8 (dom:=(Aau [28,22,16,38])) mixed htt (Aae (Aam (Asn N))) (Aah rfl) (by kernel_rfl) (Aai (l:=[]) (by kernel_rfl) trivial) Ba4 (fun R x K=>Bsi @Aat @Aby @Abz @Ab0 @Ab1 N R x K)
theorem By8 (N:Nat):Abd Tryz.prog 102 (Bjk N) :=
 ⟨Aa9 (fn:=Tryz.f102) (c:=Afk) (dom:=(Aau [28,22,16,38])) (rs:=[.tmp 8]) mixed htt (Aae (Aam (Asn N))) (Aah rfl) Tryz.func102 rfl rfl (by kernel_rfl) (Aai (l:=[(16,sub Afk [1,1,0,1,0,1,1,1]),(38,sub Afk [1,1,1])]) (by kernel_rfl) ⟨⟨_,rfl,Bp8 N⟩,⟨_,rfl,Bp9 N⟩,trivial⟩) (by decide) (by decide) (by decide) (fun R x C=>B17 @Aat @Aby @Abz @Ab0 @Ab1 N R x C),Tryz.f102,Tryz.func102,rfl,by decide⟩
theorem Ca0 (N:Nat):Acq Tryz.prog (B9y N):=⟨A9y N,trivial⟩
theorem Bmu (N:Nat):Abd Tryz.prog 60 (Bdd N) :=
 ⟨Aa9 (fn:=Tryz.f60) (c:=Bpb) (dom:=(Aau [])) (rs:=[.tmp 4]) mixed htt (Aae (Aam (Ca0 N))) (Aah rfl) Tryz.func60 rfl rfl (by kernel_rfl) (Aai (l:=[]) (by kernel_rfl) trivial) (by decide) (by decide) (by decide) (fun R x C=>Car @Aat N R x C),Tryz.f60,Tryz.func60,rfl,by decide⟩
theorem Awr (N:Nat):Acq Tryz.prog (B90 N):=⟨By8 N,A9y N,Bmu N,trivial⟩
theorem Bva (N:Nat):Aa0 Tryz.prog 144 [] (sub Ag1 [1,1,0,1,0,1,1,1,1,1,1,1]) (Aaa Ahz (Bhe N)) :=
 Ad8 (dom:=(Aau [38,30,16,52])) mixed htt (Aae (Aam (Awr N))) (Aah rfl) (by kernel_rfl) (Aai (l:=[]) (by kernel_rfl) trivial) Bhd (fun R x K=>Bx0 @Abx @Aat @Abc @Acn @Ach @Aba @Abb N R x K)
theorem Bvb (N:Nat):Aa0 Tryz.prog 144 [] (sub Ag1 [1,1,0,1,0,1,1,1,1,1]) (Aaa Ah0 (Bhg N)) :=
 Ad8 (dom:=(Aau [38,30,16,52])) mixed htt (Aae (Aam (Awr N))) (Aah rfl) (by kernel_rfl) (Aai (l:=[(38,sub Ag1 [1,1,0,1,0,1,1,1,1,1,1,1])]) (by kernel_rfl) ⟨⟨_,rfl,Bva N⟩,trivial⟩) Bhf (fun R x K=>Bx1 @Abx @Aat @Abc @Acn @Ach @Aba @Abb N R x K)
theorem Bvc (N:Nat):Aa0 Tryz.prog 144 [] (sub Ag1 [1,1,0,1,0,1]) (Aaa Ah1 (Bhi N)) :=
 Ad8 (dom:=(Aau [38,30,16,52])) mixed htt (Aae (Aam (Awr N))) (Aah rfl) (by kernel_rfl) (Aai (l:=[(30,sub Ag1 [1,1,0,1,0,1,1,1,1,1])]) (by kernel_rfl) ⟨⟨_,rfl,Bvb N⟩,trivial⟩) Bhh (fun R x K=>Bxk @Abx @Aat @Abc @Acn @Ach @Aba @Abb N R x K)
theorem Bvd (N:Nat):Aa0 Tryz.prog 144 [] (sub Ag1 [1,1,1]) (Aaa Ah2 (Bhk N)) :=
 Ad8 (dom:=(Aau [38,30,16,52])) mixed htt (Aae (Aam (Awr N))) (Aah rfl) (by kernel_rfl) (Aai (l:=[]) (by kernel_rfl) trivial) Bhj (fun R x K=>Bx3 @Abx @Aat @Abc @Acn @Ach @Aba @Abb N R x K)
theorem B6r (N:Nat):Abd Tryz.prog 58 (Bpc N) :=
 ⟨Aa9 (fn:=Tryz.f58) (c:=Ag1) (dom:=(Aau [38,30,16,52])) (rs:=[.tmp 4]) mixed htt (Aae (Aam (Awr N))) (Aah rfl) Tryz.func58 rfl rfl (by kernel_rfl) (Aai (l:=[(16,sub Ag1 [1,1,0,1,0,1]),(52,sub Ag1 [1,1,1])]) (by kernel_rfl) ⟨⟨_,rfl,Bvc N⟩,⟨_,rfl,Bvd N⟩,trivial⟩) (by decide) (by decide) (by decide) (fun R x C=>Cal @Abx @Aat @Abc @Acn @Ach @Aba @Abb N R x C),Tryz.f58,Tryz.func58,rfl,by decide⟩
theorem B6s (N:Nat):Acq Tryz.prog (Bmp N):=trivial
theorem B2w (N:Nat):Abd Tryz.prog 59 (Bmo N) :=
 ⟨Aa9 (fn:=Tryz.f59) (c:=Bmn) (dom:=(Aau [])) (rs:=[.tmp 2]) mixed htt (Aae (Aam (B6s N))) (Aah rfl) Tryz.func59 rfl rfl (by kernel_rfl) (Aai (l:=[]) (by kernel_rfl) trivial) (by decide) (by decide) (by decide) (fun R x C=>B5s N R x C),Tryz.f59,Tryz.func59,rfl,by decide⟩
theorem A2o (N:Nat):Acq Tryz.prog (B92 N):=⟨B6q N,B6r N,B2w N,Bmu N,A9y N,trivial⟩
theorem Bve (N:Nat):Aa0 Tryz.prog 107 [] (sub Agd [1,1,1,1,0,1,0,0,1,0,0,1,1,1]) (Aaa Ai8 (Bhm N)) :=
 Ad8 (dom:=(Aau [26,13,37])) mixed htt (Aae (Aam (A2o N))) (Aah rfl) (by kernel_rfl) (Aai (l:=[]) (by kernel_rfl) trivial) Bhl (fun R x K=>Bxm @Aeo @Aep @Ac8 @Abc @Aat @Aci @Acy @Acz N R x K)
theorem Bvf (N:Nat):Ady Tryz.prog 107 [] (sub Agd [1,1,1,1,1,1,0,1,0,0]) (Aaa Ag9 (A4q N N)) :=
 Ade (c:=sub Agd [1,1,1,1,1,1,0,1,0,0]) (dom:=(Aau [26,13,37])) mixed htt (Aae (Aam (A2o N))) (Aah rfl) (by kernel_rfl) (Aai (l:=[]) (by kernel_rfl) trivial) Bhp (B:=(fun _ _ _=>none)) (Ady.none _ _ _ _) (fun _ _ _=>rfl) (fun R k x K=>Bxj @Aeo @Aep @Ac8 @Abc @Aat @Aci @Acy @Acz N R (fun a0 a1 a2 a3 a4 a5=>Acz N k a0 a1 a2 a3 a4 a5 (fun a=>K .ret (Aab Ash ((a,()),(())))) (K (.exit 2) (Aab Asi ((()),(()))))) x K) N
theorem Bvg (N:Nat):Aa0 Tryz.prog 107 [] (sub Agd [1,1,1,1,1,1,0,1,0]) (Aaa Ag9 (A4q N N)):=(Bvf N).frag
theorem Bvh (N:Nat):Ady Tryz.prog 107 [] (sub Agd [1,1,1,1,0,1,0,0]) (Aaa Ag8 (A4n N N)) :=
 Ade (c:=sub Agd [1,1,1,1,0,1,0,0]) (dom:=(Aau [26,13,37])) mixed htt (Aae (Aam (A2o N))) (Aah rfl) (by kernel_rfl) (Aai (l:=[(26,sub Agd [1,1,1,1,0,1,0,0,1,0,0,1,1,1])]) (by kernel_rfl) ⟨⟨_,rfl,Bve N⟩,trivial⟩) Bhn (B:=(fun _ _ _=>none)) (Ady.none _ _ _ _) (fun _ _ _=>rfl) (fun R k x K=>Bxy @Aeo @Aep @Ac8 @Abc @Aat @Aci @Acy @Acz N R (fun a0 a1 a2 a3 a4 a5 a6=>Acy N k a0 a1 a2 a3 a4 a5 a6 (fun a=>K .ret (Aab Asf ((a,()),(())))) (fun a b d e f g=>K (.exit 0) (Aab Asg (((),a,()),((b,d,e,f,g,()),()))))) x K) N
theorem Bvi (N:Nat):Aa0 Tryz.prog 107 [] (sub Agd [1,1,1,1,0,1,0]) (Aaa Ag8 (A4n N N)):=(Bvh N).frag
theorem B6t (N:Nat):Abd Tryz.prog 24 (Bpd N) :=
 ⟨Aa9 (fn:=Tryz.f24) (c:=Agd) (dom:=(Aau [26,13,37])) (rs:=[.tmp 2]) mixed htt (Aae (Aam (A2o N))) (Aah rfl) Tryz.func24 rfl rfl (by kernel_rfl) (Aai (l:=[(13,sub Agd [1,1,1,1,0,1,0]),(37,sub Agd [1,1,1,1,1,1,0,1,0])]) (by kernel_rfl) ⟨⟨_,rfl,Bvi N⟩,⟨_,rfl,Bvg N⟩,trivial⟩) (by decide) (by decide) (by decide) (fun R x C=>B95 @Aeo @Aep @Ac8 @Abc @Aat @Aci @Acy @Acz N R x C),Tryz.f24,Tryz.func24,rfl,by decide⟩
theorem By9 (N:Nat):Abd Tryz.prog 25 (Aol N) :=
 ⟨Cih,Tryz.f25,Tryz.func25,rfl,by decide⟩
theorem A7g (N:Nat):Acq Tryz.prog (Ced N):=⟨B6t N,By9 N,trivial⟩
theorem Bza (N:Nat):Aa0 Tryz.prog 60 [] (sub Ag7 [1,1,1,1,0,1,0,0,1,0,0,1,1,0,1,0,0,1,0,0,1]) (Aaa Ajz (Bjm N)) :=
 Ad8 (dom:=(Aau [30,23,13])) mixed htt (Aae (Aam (A7g N))) (Aah rfl) (by kernel_rfl) (Aai (l:=[]) (by kernel_rfl) trivial) Bjl (fun R x K=>B1t @Aeq @Adi @Acj @Ac7 N R x K)
theorem Bzb (N:Nat):Ady Tryz.prog 60 [] (sub Ag7 [1,1,1,1,0,1,0,0,1,0,0,1,1,0,1,0,0]) (Aaa Ahw (A68 N N)) :=
 Ade (c:=sub Ag7 [1,1,1,1,0,1,0,0,1,0,0,1,1,0,1,0,0]) (dom:=(Aau [30,23,13])) mixed htt (Aae (Aam (A7g N))) (Aah rfl) (by kernel_rfl) (Aai (l:=[(30,sub Ag7 [1,1,1,1,0,1,0,0,1,0,0,1,1,0,1,0,0,1,0,0,1])]) (by kernel_rfl) ⟨⟨_,rfl,Bza N⟩,trivial⟩) Bjn (B:=(fun _ _ _=>none)) (Ady.none _ _ _ _) (fun _ _ _=>rfl) (fun R k x K=>B1r @Aeq @Adi @Acj @Ac7 N R (fun a0 a1 a2 a3 a4 a5 a6 a7 a8=>Acj N k a0 a1 a2 a3 a4 a5 a6 a7 a8 (fun a b d e f g h=>K (.exit 2) (Aab Atp (((),(),a,()),((b,d,e,f,g,()),h,()))))) x K) N
theorem Bzc (N:Nat):Aa0 Tryz.prog 60 [] (sub Ag7 [1,1,1,1,0,1,0,0,1,0,0,1,1,0,1,0]) (Aaa Ahw (A68 N N)):=(Bzb N).frag
theorem Bzd (N:Nat):Ady Tryz.prog 60 [] (sub Ag7 [1,1,1,1,0,1,0,0]) (Aaa Ahx (A7a N N)) :=
 Ade (c:=sub Ag7 [1,1,1,1,0,1,0,0]) (dom:=(Aau [30,23,13])) mixed htt (Aae (Aam (A7g N))) (Aah rfl) (by kernel_rfl) (Aai (l:=[(23,sub Ag7 [1,1,1,1,0,1,0,0,1,0,0,1,1,0,1,0])]) (by kernel_rfl) ⟨⟨_,rfl,Bzc N⟩,trivial⟩) Bjp (B:=(fun _ _ _=>none)) (Ady.none _ _ _ _) (fun _ _ _=>rfl) (fun R k x K=>B1s @Aeq @Adi @Acj @Ac7 N R (fun a0 a1 a2 a3 a4 a5 a6=>Ac7 N k a0 a1 a2 a3 a4 a5 a6 (fun a=>K (.exit 0) (Aab Atq (((),()),(a,()))))) x K) N
theorem Bze (N:Nat):Aa0 Tryz.prog 60 [] (sub Ag7 [1,1,1,1,0,1,0]) (Aaa Ahx (A7a N N)):=(Bzd N).frag
theorem Ca1 (N:Nat):Abd Tryz.prog 9 (Br5 N) :=
 ⟨Aa9 (fn:=Tryz.f9) (c:=Ag7) (dom:=(Aau [30,23,13])) (rs:=[.tmp 2,.tmp 3]) mixed htt (Aae (Aam (A7g N))) (Aah rfl) Tryz.func9 rfl rfl (by kernel_rfl) (Aai (l:=[(13,sub Ag7 [1,1,1,1,0,1,0])]) (by kernel_rfl) ⟨⟨_,rfl,Bze N⟩,trivial⟩) (by decide) (by decide) (by decide) (fun R x C=>Cej @Aeq @Adi @Acj @Ac7 N R x C),Tryz.f9,Tryz.func9,rfl,by decide⟩
theorem Bvj (N:Nat):Acq Tryz.prog (Bt0 N):=⟨B5t N,B5u N,Cer N,Ca1 N,trivial⟩
theorem Bsy (N:Nat):Abd Tryz.prog 3 (Bdz N) :=
 ⟨Aa9 (fn:=Tryz.f3) (c:=Bdq) (dom:=(Aau [])) (rs:=[.tmp 2]) mixed htt (Aae (Aam (Bvj N))) (Aah rfl) Tryz.func3 rfl rfl (by kernel_rfl) (Aai (l:=[]) (by kernel_rfl) trivial) (by decide) (by decide) (by decide) (fun R x C=>Bt3 @Ajl @Amu @Alh N R x C),Tryz.f3,Tryz.func3,rfl,by decide⟩
end
end Q

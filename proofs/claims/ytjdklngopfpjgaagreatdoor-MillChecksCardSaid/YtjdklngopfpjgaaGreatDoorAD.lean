/- Part AD of the proof. -/
import Derived.Test.YtjdklngopfpjgaaGreatDoorX7
import Derived.Test.YtjdklngopfpjgaaGreatDoorSh
namespace Go.AX
open Go.Proofs Go.Shelf Go.RowKit
noncomputable def Cdz(n:Int):Nat:=if n<0 then 2*n.natAbs+1 else 2*n.natAbs
noncomputable def Bbq(b:Nat)(n:Int):Bool:=decide (Cdz n<b)&&A2k n
noncomputable def Anv(b:Nat):Aak where
 pure:=[true]
 grow:=[]
 mat:=false
 run _ args bl K:=match args,bl with
  |[.v (.one (.a (.val (.int .i64) n)))],[]=>if Bbq b n=true then K (.at (.val .str (Adl n))) [] [] else none
  | _,_=>none
noncomputable def ntt:TT:=[(3,(.mk (.int .i64) 1 8 (.some [(.a (.val (.int .i64) ((0:Int):Int)))]) false)),(9,(.mk .str 1 16 (.some [(.a (.val .str (([]:List UInt8):List UInt8)))]) false)),(4,(.mk .bool 1 1 (.some [(.a (.val .bool (false:Bool)))]) false)),(5,(.mk (.int .u8) 1 1 (.some [(.a (.val (.int .u8) ((0:Int):Int)))]) false)),(45,(.mk (.slice 5) 1 24 (.some [(.a .nilsl)]) false))]
noncomputable def nb:Code:=Tryz.f26.body.getD .skip
noncomputable def np:Aac:=⟨[(0,.one (.val (.int .i64)))],[]⟩
noncomputable def nq:Aac:=⟨[(0,.one (.val .str))],[]⟩
noncomputable def nuF{R:Type}(b:Nat)(x:Int)(K:List UInt8→Option R):Option R :=
 if decide (x<0)=true then (if Bbq b (IntKind.i64.wrap (0-x))=true then (if ([45]:List UInt8).length+(Adl (IntKind.i64.wrap (0-x))).length≤LIM then K ([45]++Adl (IntKind.i64.wrap (0-x))) else none) else none)
 else if decide (x<10)=true then K [UInt8.ofNat (Int.toNat (IntKind.u8.wrap (IntKind.i64.wrap (48+x))))]
 else (if Bbq b (IntKind.i64.wrap (Int.tdiv x 10))=true then (if (Adl (IntKind.i64.wrap (Int.tdiv x 10))).length+([UInt8.ofNat (Int.toNat (IntKind.u8.wrap (IntKind.i64.wrap (48+Int.tmod x 10))))]:List UInt8).length≤LIM then K (Adl (IntKind.i64.wrap (Int.tdiv x 10))++[UInt8.ofNat (Int.toNat (IntKind.u8.wrap (IntKind.i64.wrap (48+Int.tmod x 10))))]) else none) else none)
noncomputable def ng(b:Nat):Ab0 np [nq]:=fun R x C=>nuF b x.1.1 (fun y=>C.1 ((y,()),(())))
theorem Crw:Akq Tryz.prog ntt:=B4f (l:=[3,9,4,5,45]) (by kernel_rfl)
theorem Crx:Tryz.prog.follows .mixedOrders=true:=by kernel_rfl
theorem n_e(b:Nat)(R:Type)(x:np.den)(C:Acp R [nq]):Aap ntt (gam [(26,Anv b)]) [] (lam []) nb (Aab np x) (Aed (R:=R) ntt [.tmp 2] [nq] C)=ng b R x C:=by kernel_rfl
theorem Ctw(b:Nat)(h:Abk Tryz.prog 26 (Anv b)):Abk Tryz.prog 26 (Ac1 [true] [] false 1 0 np [nq] (ng b)) :=
 ⟨Abn (fn:=Tryz.f26) (c:=nb) (dom:=(Aau [])) (rs:=[.tmp 2]) Crx Crw (Aae (Aam (l:=[(26,Anv b)]) ⟨h,trivial⟩)) (Aaf rfl) Tryz.func26 rfl rfl (by kernel_rfl) (Aah (l:=[]) (by kernel_rfl) trivial) (by decide) (by decide) (by decide) (fun R x C=>n_e b R x C),Tryz.f26,Tryz.func26,rfl,by decide⟩
theorem Cpo(b:Nat)(n:Int){R:Type}(K:AV→List Aav→List Aav→Option R):(Ac1 [true] [] false 1 0 np [nq] (ng b)).run R [.v (.one (.a (.val (.int .i64) n)))] [] K=nuF b n (fun y=>K (.at (.val .str y)) [] []):=rfl
theorem Clj{d:Nat}(h:d<10):UInt8.ofNat (Int.toNat (IntKind.u8.wrap (IntKind.i64.wrap (48+(d:Int)))))=UInt8.ofNat (48+d):=by
 have:d=0∨d=1∨d=2∨d=3∨d=4∨d=5∨d=6∨d=7∨d=8∨d=9:=by omega
 rcases this with rfl|rfl|rfl|rfl|rfl|rfl|rfl|rfl|rfl|rfl<;>rfl
theorem Cry{R:Type}(b:Nat)(n:Int)(h:Bbq (b+1) n=true)(K:List UInt8→Option R):nuF b n K=K (Adl n):=by
 simp only[Bbq,Bool.and_eq_true,decide_eq_true_eq,A2k]at h
 obtain⟨hm,h1,h2⟩:=h
 unfold nuF Adl
 by_cases h0:n<0
 ·obtain⟨u,rfl⟩:∃u:Nat,n = -(u:Int):=⟨n.natAbs,by omega⟩
  have hw:IntKind.i64.wrap (0 - -(u:Int))=(u:Int):=by rw[IntKind.wrap_i64];omega
  have hl:=Lib.itoa_length_le (u:Int) (by omega) (by omega)
  have hb:Bbq b (u:Int)=true:=by
   simp only[Bbq,Bool.and_eq_true,decide_eq_true_eq,A2k]
   refine⟨?_,by omega,by omega⟩
   unfold Cdz at hm ⊢
   rw[if_pos h0]at hm
   rw[if_neg (by omega)];omega
  rw[if_pos (by simpa using h0),hw,if_pos hb,if_pos (by unfold LIM;simp only[List.length_cons,List.length_nil];omega),Lib.itoa_neg u (by omega),Lib.itoa_nonneg]
  rfl
 rw[if_neg (by simpa using h0)]
 obtain⟨u,rfl⟩:=Int.eq_ofNat_of_zero_le (show 0≤n by omega)
 by_cases h10:(u:Int)<10
 ·rw[if_pos (by simpa using h10),Clj (by omega),Lib.itoa_nonneg,Lib.decDigits_one (by omega)]
 have ht:Int.tdiv (u:Int) 10=((u/10:Nat):Int):=by rw[Int.tdiv_eq_ediv_of_nonneg (by omega)];omega
 have htm:Int.tmod (u:Int) 10=((u%10:Nat):Int):=by rw[Int.tmod_eq_emod_of_nonneg (by omega)];omega
 have hw:IntKind.i64.wrap ((u/10:Nat):Int)=((u/10:Nat):Int):=by rw[IntKind.wrap_i64];omega
 have hl:=Lib.itoa_length_le ((u/10:Nat):Int) (by omega) (by omega)
 have hb:Bbq b ((u/10:Nat):Int)=true:=by
  simp only[Bbq,Bool.and_eq_true,decide_eq_true_eq,A2k]
  refine⟨?_,by omega,by omega⟩
  unfold Cdz at hm ⊢
  rw[if_neg h0]at hm
  rw[if_neg (by omega)];omega
 rw[if_neg (by simpa using h10),ht,htm,hw,Clj (by omega),if_pos hb,if_pos (by unfold LIM;simp only[List.length_cons,List.length_nil];omega),Lib.itoa_nonneg,Lib.itoa_nonneg]
 rw[show Lib.decDigits u=Lib.decDigits (u/10)++[UInt8.ofNat (48+u%10)] by rw[Lib.decDigits,dif_neg (by omega)]]
theorem Chd:∀b,Abk Tryz.prog 26 (Anv b)
 |0=>by
  refine⟨fun R args bl K r h=>?_,Tryz.f26,Tryz.func26,rfl,by decide⟩
  simp only[Anv]at h
  split at h
  ·rw[if_neg (by simp[Bbq])]at h;cases h
  ·cases h
 |b+1=>by
  have ih:=Ctw b (Chd b)
  refine⟨fun R args bl K r h=>?_,Tryz.f26,Tryz.func26,rfl,by decide⟩
  simp only[Anv]at h
  split at h
  case h_2=>cases h
  rename_i n
  split at h
  case isFalse=>cases h
  rename_i hb
  exact ih.1 R _ [] K r ((Cpo b n K).trans ((Cry b n hb _).trans h))
theorem Clk:Apv Tryz.prog 26 Bob:=fun R args bl K r h=>by
 simp only[Bob]at h
 split at h
 case h_2=>cases h
 rename_i n
 split at h
 case isFalse=>cases h
 rename_i hn
 have hb:Bbq (Cdz n+1) n=true:=by
  simp only[Bbq,Bool.and_eq_true,decide_eq_true_eq];exact⟨by omega,hn⟩
 exact (Chd (Cdz n+1)).1 R _ [] K r (by simp only[Anv];rw[if_pos hb];exact h)
end Go.AX

/- Part D2 of the proof. -/
import Derived.Test.YtamaoomcbegaiaaGreatD1
open Go Go.AX Go.Proofs
namespace Q
noncomputable section
set_option maxRecDepth 100000
set_option linter.unusedVariables false
def A9e(Ae1:Aze)(N k:Nat):Aar Ala:=fun R x K=>Ae1 N k x.1.2.1 x.1.2.2.1 x.2.1.1 x.2.1.2.1 x.2.1.2.2.1 x.2.1.2.2.2.1 x.2.1.2.2.2.2.1 x.2.1.2.2.2.2.2.1 (fun y0=>K (.exit 0) (Aab Av6 ((y0,()),(()))))
def A9f(N k:Nat):Aar Ala:=A9e @Ae1 N k
def Bia:Aac:=⟨A2u,[]⟩
def A02:Aac:=⟨Agj,[]⟩
abbrev Cor(R:Type):=(List UInt8)->d5->d4->d1->Int->Int->(Bool->Option R)->Option R
abbrev Auu:={R:Type}→Nat→Cor R
def Bib(Ae1:Aze):Auu:=fun {R} N f b c g d e a=>if ((decide ((len c) > 40000))=true) then (a true) else if ((decide ((len b) > 2000))=true) then (a true) else if ((decide (d > 200))=true) then (a true) else if ((decide (e > 20000))=true) then (a true) else Ae1 N N 0 0 f b c g d e fun h=>a (decide (h > 7800))
def Ahy:Auu:=@Bib @Ae1
def Dgi(N:Nat):Aa0 Bia [A02]:=fun R x C=>Ahy N x.1.1.1 x.1.1.2.1 x.1.1.2.2.1 x.1.1.2.2.2.1 x.1.1.2.2.2.2.1 x.1.1.2.2.2.2.2.1 (fun y0=>C.1 ((y0,()),(())))
def Bic(Ahy:Auu)(N:Nat):Go.AX.Aae:=Aa9 [true] [] false 1 0 Bia [A02] (fun R x C=>Ahy N x.1.1.1 x.1.1.2.1 x.1.1.2.2.1 x.1.1.2.2.2.1 x.1.1.2.2.2.2.1 x.1.1.2.2.2.2.2.1 (fun y0=>C.1 ((y0,()),(()))))
def By1(N:Nat):Go.AX.Aae:=Bic @Ahy N
def Dgj(N:Nat):List (Nat×Abu):=[(11,Aaa Ala (A9f N N))]
def Cos(N:Nat):List (Nat×Go.AX.Aae):=[]
def Ae5:Code:=Tryz.f31.body.getD .skip
def Au8:Code:=Tryz.f67.body.getD .skip
def Ans:Aac:=⟨[B9p,(4,.one (.val .str)),Axt],[]⟩
def A03:Aac:=⟨[(2,.one (.val .str)),A10],[]⟩
def A04:Aac:=⟨[B9p,(4,.one (.val .str))],[]⟩
def By2:Ac8:=.cons .ret A03 (.cons (.exit 0) A04 (.nil))
abbrev Bid(R:Type):=(List UInt8)->(List UInt8)->Int->((List UInt8)->Int->Option R)->((List UInt8)->(List UInt8)->Option R)->Option R
abbrev By3(R:Type):=(List UInt8)->(List UInt8)->Int->Option R
abbrev A62:={R:Type}→Nat→Nat→Bid R
def A63{R:Type}(N:Nat)(rc:By3 R):Bid R:=fun b c a j m=>if ((decide (a<(len b)))=true) then (if (0≤a∧a<len b) then (let d:=(((UInt8.toNat (b.getD a.toNat (0:UInt8))):Nat):Int);if ((d==10)=true) then (if (((List.length c)+(2:Nat))≤(70368744177664:Nat)) then (rc b (c++[(42:UInt8),(110:UInt8)]) (wi (a+1))) else none) else if ((d==9)=true) then (if (((List.length c)+(2:Nat))≤(70368744177664:Nat)) then (rc b (c++[(42:UInt8),(116:UInt8)]) (wi (a+1))) else none) else if ((d==42)=true) then (let e:=(wi (a+1));if ((0≤e)∧(e≤(len b))) then (if ((0≤a)∧(a≤e)) then (let h:=(List.drop (Int.toNat a) (List.take (Int.toNat e) b));if (((1:Nat)+(List.length h))≤(70368744177664:Nat)) then (if (((List.length c)+(List.length ((42:UInt8)::h)))≤(70368744177664:Nat)) then (rc b (c++((42:UInt8)::h)) e) else none) else none) else none) else none) else if ((d==34)=true) then (let f:=(wi (a+1));if ((0≤f)∧(f≤(len b))) then (if ((0≤a)∧(a≤f)) then (let i:=(List.drop (Int.toNat a) (List.take (Int.toNat f) b));if (((1:Nat)+(List.length i))≤(70368744177664:Nat)) then (if (((List.length c)+(List.length ((42:UInt8)::i)))≤(70368744177664:Nat)) then (rc b (c++((42:UInt8)::i)) f) else none) else none) else none) else none) else if ((decide (d<32))=true) then (j ([]:List UInt8) 3) else if ((decide (d > 126))=true) then (j ([]:List UInt8) 3) else let g:=(wi (a+1));if ((0≤g)∧(g≤(len b))) then (if ((0≤a)∧(a≤g)) then (let l:=(List.drop (Int.toNat a) (List.take (Int.toNat g) b));if (((List.length c)+(List.length l))≤(70368744177664:Nat)) then (rc b (c++l) g) else none) else none) else none) else none) else m b c
def Agb{R:Type}(N:Nat):Nat→Bid R
 |0=>fun _ _ _ _ _=>none
 |k+1=>fun a b c d e=>A63 N (fun a b c=>Agb N k a b c d e) a b c d e
def Bie(Agb:A62)(N k:Nat):Aar Ans:=fun R x K=>Agb N k x.1.1 x.1.2.1 x.1.2.2.1 (fun y0 y1=>K .ret (Aab A03 ((y0,y1,()),(())))) (fun y0 y1=>K (.exit 0) (Aab A04 ((y0,y1,()),(()))))
def Bif(N k:Nat):Aar Ans:=Bie @Agb N k
def Bp4:Aac:=⟨[B9p],[]⟩
def A64:Aac:=⟨[B9p,Akb],[]⟩
abbrev Cww(R:Type):=(List UInt8)->((List UInt8)->Int->Option R)->Option R
abbrev Apd:={R:Type}→Nat→Cww R
def Bp5(Agb:A62):Apd:=fun {R} N c a=>Agb N N c ([(34:UInt8)]) 0 (fun d e=>a d e) fun f b=>if ((decide ((len f) > 100))=true) then (a ([]:List UInt8) 2) else if (((List.length b)+(1:Nat))≤(70368744177664:Nat)) then (a (b++[(34:UInt8)]) 0) else none
def Adx:Apd:=@Bp5 @Agb
def Diy(N:Nat):Aa0 Bp4 [A64]:=fun R x C=>Adx N x.1.1 (fun y0 y1=>C.1 ((y0,y1,()),(())))
def Ax1(Adx:Apd)(N:Nat):Go.AX.Aae:=Aa9 [true] [] false 1 0 Bp4 [A64] (fun R x C=>Adx N x.1.1 (fun y0 y1=>C.1 ((y0,y1,()),(()))))
def B5c(N:Nat):Go.AX.Aae:=Ax1 @Adx N
def Diz(N:Nat):List (Nat×Abu):=[(7,Aaa Ans (Bif N N))]
def Cwx(N:Nat):List (Nat×Go.AX.Aae):=[]
def Cot:Code:=Tryz.f68.body.getD .skip
def B4e:Aac:=⟨Ard,[]⟩
def Big:Aac:=⟨Agj,[]⟩
abbrev C8z(R:Type):=Int->Int->Int->(Bool->Option R)->Option R
abbrev Afx:={R:Type}→Nat→C8z R
def Aav:Afx:=fun {R} N a c d b=>if ((decide (a≥c))=true) then (b (decide (a≤d))) else b false
def C80(N:Nat):Aa0 B4e [Big]:=fun R x C=>Aav N x.1.1 x.1.2.1 x.1.2.2.1 (fun y0=>C.1 ((y0,()),(())))
def Alj(Aav:Afx)(N:Nat):Go.AX.Aae:=Aa9 [true,true,true] [] false 3 0 B4e [Big] (fun R x C=>Aav N x.1.1 x.1.2.1 x.1.2.2.1 (fun y0=>C.1 ((y0,()),(()))))
def Bih(N:Nat):Go.AX.Aae:=Alj @Aav N
def C81(N:Nat):List (Nat×Abu):=[]
def Cou(N:Nat):List (Nat×Go.AX.Aae):=[]
def Ai9:Aac:=⟨[wq7,A10,(4,.one (.ptr 33)),Bt7],[Bdi,(33,.cells 42 [(.val .str),(.val .bool),Blj])]⟩
def Azg:Aac:=⟨Bbu,[]⟩
def Azh:Aac:=⟨C8j,Axb⟩
def Bv0:Ac8:=.cons .ret Azg (.cons (.exit 2) Azh (.nil))
abbrev Bfe(R:Type):=Int->Int->(List UInt8)->d5->d4->d1->Int->Int->(List UInt8)->Bool->d0->(Bool->Option R)->(Int->(List UInt8)->d5->d4->d1->Int->Int->Option R)->Option R
abbrev Bv1(R:Type):=Int->Int->(List UInt8)->d5->d4->d1->Int->Int->(List UInt8)->Bool->d0->Option R
abbrev Aqy:={R:Type}→Nat→Nat→Bfe R
def A3d(Aav:Afx){R:Type}(N:Nat)(rc:Bv1 R):Bfe R:=fun c a d e f g h i j l b m n=>if ((decide (a<(len b)))=true) then (if (0≤a∧a<len b) then (Aav N (b.getD a.toNat 0) (-2147483648) 2147483647 fun o=>if ((!o)=true) then (m false) else rc c (wi (a+1)) d e f g h i j l b) else none) else n c d e f g h i
def Ada{R:Type}(N:Nat):Nat→Bfe R
 |0=>fun _ _ _ _ _ _ _ _ _ _ _ _ _=>none
 |k+1=>fun a b c d e f g h i j l m n=>A3d @Aav N (fun a b c d e f g h i j l=>Ada N k a b c d e f g h i j l m n) a b c d e f g h i j l m n
def As7(Ada:Aqy)(N k:Nat):Aar Ai9:=fun R x K=>Ada N k x.1.2.1 x.1.2.2.2.1 x.2.1.1 x.2.1.2.1 x.2.1.2.2.1 x.2.1.2.2.2.1 x.2.1.2.2.2.2.1 x.2.1.2.2.2.2.2.1 x.2.2.1.1 x.2.2.1.2.1 x.2.2.1.2.2.1 (fun y0=>K .ret (Aab Azg ((y0,()),(())))) (fun y0 y1 y2 y3 y4 y5 y6=>K (.exit 2) (Aab Azh (((),y0,()),((y1,y2,y3,y4,y5,y6,()),()))))
def Bff(N k:Nat):Aar Ai9:=As7 @Ada N k
def Aj5:Aac:=⟨C8j,Axb⟩
def A05:Aac:=⟨Bbu,[]⟩
def A06:Aac:=⟨C17,Axb⟩
def By4:Ac8:=.cons .ret A05 (.cons (.exit 0) A06 (.nil))
abbrev Bii(R:Type):=Int->(List UInt8)->d5->d4->d1->Int->Int->(Bool->Option R)->((List UInt8)->d5->d4->d1->Int->Int->Option R)->Option R
abbrev By5(R:Type):=Int->(List UInt8)->d5->d4->d1->Int->Int->Option R
abbrev Ars:={R:Type}→Nat→Nat→Bii R
def A65(Adx:Apd)(Ada:Aqy){R:Type}(N:Nat)(rc:By5 R):Bii R:=fun a d b e f g h c l=>if ((decide (a<(len b)))=true) then (if (0≤a∧a<len b) then (let i:=(b.getD a.toNat (([]:List UInt8),(false,([]:List Int)))).1;let j:=(b.getD a.toNat (([]:List UInt8),(false,([]:List Int)))).2.2;if ((b.getD a.toNat (([]:List UInt8),(false,([]:List Int)))).2.1=true) then (Adx N i fun v m=>if ((m != 0)=true) then (c false) else if ((decide ((len j) > 0))=true) then (c false) else rc (wi (a+1)) d b e f g h) else if ((!(i==([]:List UInt8)))=true) then (c false) else if (((len j)==0)=true) then (c false) else Ada N N a 0 d b e f g h i ((b.getD a.toNat (([]:List UInt8),(false,([]:List Int)))).2.1) j (fun n=>c n) fun o p q r s t u=>rc (wi (o+1)) p q r s t u) else none) else l d b e f g h
def Adh{R:Type}(N:Nat):Nat→Bii R
 |0=>fun _ _ _ _ _ _ _ _ _=>none
 |k+1=>fun a b c d e f g h i=>A65 @Adx @Ada N (fun a b c d e f g=>Adh N k a b c d e f g h i) a b c d e f g h i
def Auv(Adh:Ars)(N k:Nat):Aar Aj5:=fun R x K=>Adh N k x.1.2.1 x.2.1.1 x.2.1.2.1 x.2.1.2.2.1 x.2.1.2.2.2.1 x.2.1.2.2.2.2.1 x.2.1.2.2.2.2.2.1 (fun y0=>K .ret (Aab A05 ((y0,()),(())))) (fun y0 y1 y2 y3 y4 y5=>K (.exit 0) (Aab A06 (((),()),((y0,y1,y2,y3,y4,y5,()),()))))
def Bij(N k:Nat):Aar Aj5:=Auv @Adh N k
def Aja:Aac:=⟨[wq7,Bt8,(9,.one (.ptr 33)),Cif],[Bdi,(33,.cells 114 [wq0,wq0])]⟩
def Azi:Aac:=⟨Bbu,[]⟩
def Azj:Aac:=⟨[wq7,Bt8],Axb⟩
def Bv2:Ac8:=.cons .ret Azi (.cons (.exit 6) Azj (.nil))
abbrev Bfg(R:Type):=Int->Int->(List UInt8)->d5->d4->d1->Int->Int->Int->Int->(Bool->Option R)->(Int->(List UInt8)->d5->d4->d1->Int->Int->Option R)->Option R
abbrev Bv3(R:Type):=Int->Int->(List UInt8)->d5->d4->d1->Int->Int->Int->Int->Option R
abbrev Aqz:={R:Type}→Nat→Nat→Bfg R
def A3e{R:Type}(N:Nat)(rc:Bv3 R):Bfg R:=fun c a d e f b g h i j l m=>if ((decide (a<c))=true) then (if (0≤a∧a<len b) then (if (((b.getD a.toNat (0,0)).1==i)=true) then (l false) else rc c (wi (a+1)) d e f b g h i j) else none) else m c d e f b g h
def Adb{R:Type}(N:Nat):Nat→Bfg R
 |0=>fun _ _ _ _ _ _ _ _ _ _ _ _=>none
 |k+1=>fun a b c d e f g h i j l m=>A3e N (fun a b c d e f g h i j=>Adb N k a b c d e f g h i j l m) a b c d e f g h i j l m
def As8(Adb:Aqz)(N k:Nat):Aar Aja:=fun R x K=>Adb N k x.1.2.1 x.1.2.2.2.1 x.2.1.1 x.2.1.2.1 x.2.1.2.2.1 x.2.1.2.2.2.1 x.2.1.2.2.2.2.1 x.2.1.2.2.2.2.2.1 x.2.2.1.1 x.2.2.1.2.1 (fun y0=>K .ret (Aab Azi ((y0,()),(())))) (fun y0 y1 y2 y3 y4 y5 y6=>K (.exit 6) (Aab Azj (((),y0,()),((y1,y2,y3,y4,y5,y6,()),()))))
def Bfh(N k:Nat):Aar Aja:=As8 @Adb N k
def Ajb:Aac:=⟨[wq7,Bt8],Axb⟩
def Azk:Aac:=⟨Bbu,[]⟩
def Azl:Aac:=⟨C17,Axb⟩
def Bv4:Ac8:=.cons .ret Azk (.cons (.exit 4) Azl (.nil))
abbrev Bfi(R:Type):=Int->(List UInt8)->d5->d4->d1->Int->Int->(Bool->Option R)->((List UInt8)->d5->d4->d1->Int->Int->Option R)->Option R
abbrev Bv5(R:Type):=Int->(List UInt8)->d5->d4->d1->Int->Int->Option R
abbrev Aq0:={R:Type}→Nat→Nat→Bfi R
def A3f(Aav:Afx)(Adb:Aqz){R:Type}(N:Nat)(rc:Bv5 R):Bfi R:=fun a e f g b c h d l=>if ((decide (a<(len b)))=true) then (if (0≤a∧a<len b) then (let i:=(b.getD a.toNat (0,0)).1;let j:=(b.getD a.toNat (0,0)).2;Aav N i 1 199 fun m=>if ((!m)=true) then (d false) else Aav N j 1 c fun n=>if ((!n)=true) then (d false) else Adb N N a 0 e f g b c h i j (fun o=>d o) fun p q r s t u v=>rc (wi (p+1)) q r s t u v) else none) else l e f g b c h
def Acx{R:Type}(N:Nat):Nat→Bfi R
 |0=>fun _ _ _ _ _ _ _ _ _=>none
 |k+1=>fun a b c d e f g h i=>A3f @Aav @Adb N (fun a b c d e f g=>Acx N k a b c d e f g h i) a b c d e f g h i
def As9(Acx:Aq0)(N k:Nat):Aar Ajb:=fun R x K=>Acx N k x.1.2.1 x.2.1.1 x.2.1.2.1 x.2.1.2.2.1 x.2.1.2.2.2.1 x.2.1.2.2.2.2.1 x.2.1.2.2.2.2.2.1 (fun y0=>K .ret (Aab Azk ((y0,()),(())))) (fun y0 y1 y2 y3 y4 y5=>K (.exit 4) (Aab Azl (((),()),((y0,y1,y2,y3,y4,y5,()),()))))
def Bfj(N k:Nat):Aar Ajb:=As9 @Acx N k
def Bp6:Aac:=⟨A2u,[]⟩
def A66:Aac:=⟨Agj,[]⟩
abbrev Cwy(R:Type):=(List UInt8)->d5->d4->d1->Int->Int->(Bool->Option R)->Option R
abbrev Ax2:={R:Type}→Nat→Cwy R
def Bp7(Adh:Ars)(Acx:Aq0)(Adx:Apd):Ax2:=fun {R} N b c d e f g a=>Adh N N 0 b c d e f g (fun h=>a h) fun i j l m n o=>Acx N N 0 i j l m n o (fun p=>a p) fun q s t u v w=>Adx N q fun x r=>a (r==0)
def Aks:Ax2:=@Bp7 @Adh @Acx @Adx
def Di0(N:Nat):Aa0 Bp6 [A66]:=fun R x C=>Aks N x.1.1.1 x.1.1.2.1 x.1.1.2.2.1 x.1.1.2.2.2.1 x.1.1.2.2.2.2.1 x.1.1.2.2.2.2.2.1 (fun y0=>C.1 ((y0,()),(())))
def Bp8(Aks:Ax2)(N:Nat):Go.AX.Aae:=Aa9 [true] [] false 1 0 Bp6 [A66] (fun R x C=>Aks N x.1.1.1 x.1.1.2.1 x.1.1.2.2.1 x.1.1.2.2.2.1 x.1.1.2.2.2.2.1 x.1.1.2.2.2.2.2.1 (fun y0=>C.1 ((y0,()),(()))))
def B5d(N:Nat):Go.AX.Aae:=Bp8 @Aks N
def Di1(N:Nat):List (Nat×Abu):=[(25,Aaa Ai9 (Bff N N)),(5,Aaa Aj5 (Bij N N)),(47,Aaa Aja (Bfh N N)),(35,Aaa Ajb (Bfj N N))]
def Cwz(N:Nat):List (Nat×Go.AX.Aae):=[(67,B5c N),(68,Bih N)]
def Afy:Code:=Tryz.f32.body.getD .skip
def Aig:Aac:=⟨[wq4,C14,C8g,(93,.one (.val .bool))],Ceh⟩
def A3g:Aac:=⟨A1z,[]⟩
def A3h:Aac:=⟨Csi,Bas⟩
def Bog:Ac8:=.cons .ret A3g (.cons .normal A3h (.nil))
abbrev Cbd(R:Type):=Int->Bool->(List UInt8)->d5->d4->d1->Int->Int->Int->Int->Int->(Bool->Option R)->(Int->Int->Int->Option R)->Option R
abbrev Ajv:={R:Type}→Nat→Cbd R
def A9g(Aav:Afx):Ajv:=fun {R} N d f q r s t g e h b c a i=>if (f=true) then (Aav N b 1 e fun j=>a j) else if ((d==24)=true) then (Aav N b 1 g fun l=>if (l=true) then (Aav N c 0 8 fun m=>a m) else a false) else if ((d==29)=true) then (Aav N b 1 e fun n=>if (n=true) then (Aav N c 0 1000 fun o=>a o) else a false) else if ((d==30)=true) then (Aav N c 1 e fun p=>a p) else i h b c
def Ab7:Ajv:=@A9g @Aav
def Aov(Ab7:Ajv)(N:Nat):Aar Aig:=fun R x K=>Ab7 N x.1.2.2.1 x.1.2.2.2.1 x.2.1.1 x.2.1.2.1 x.2.1.2.2.1 x.2.1.2.2.2.1 x.2.1.2.2.2.2.1 x.2.1.2.2.2.2.2.1 x.2.2.1.1 x.2.2.1.2.1 x.2.2.1.2.2.1 (fun y0=>K .ret (Aab A3g ((y0,()),(())))) (fun y0 y1 y2=>K .normal (Aab A3h (((),()),((y0,y1,y2,()),()))))
def Boh(N:Nat):Aar Aig:=Aov @Ab7 N
def Aih:Aac:=⟨[wq4,C14,C8g,(60,.one (.val .bool))],Ceh⟩
def A3i:Aac:=⟨A1z,[]⟩
def A3j:Aac:=⟨Csi,Bas⟩
def Boi:Ac8:=.cons .ret A3i (.cons .normal A3j (.nil))
abbrev Cbe(R:Type):=Int->Bool->(List UInt8)->d5->d4->d1->Int->Int->Int->Int->Int->(Bool->Option R)->(Int->Int->Int->Option R)->Option R
abbrev Ajw:={R:Type}→Nat→Cbe R
def A9h(Aav:Afx)(Ab7:Ajv):Ajw:=fun {R} N a n f d g h e i j b l c m=>if (n=true) then (Aav N b 0 (wi ((len d)-1)) fun o=>c o) else if ((a==11)=true) then (Aav N b 1 e fun p=>c p) else if ((a==16)=true) then (Aav N b 1 17 fun q=>c q) else if ((a==17)=true) then (if ((b==18)=true) then (c true) else c (b==19)) else if ((a==19)=true) then (Ab7 N a (a==19) f d g h e i j b l (fun r=>c r) fun s t u=>m s t u) else if ((a==20)=true) then (Ab7 N a (a==20) f d g h e i j b l (fun v=>c v) fun w x y=>m w x y) else if ((a==21)=true) then (Ab7 N a (a==21) f d g h e i j b l (fun z=>c z) fun A B C=>m A B C) else if ((a==22)=true) then (Ab7 N a (a==22) f d g h e i j b l (fun D=>c D) fun E F G=>m E F G) else Ab7 N a (a==27) f d g h e i j b l (fun H=>c H) fun I J L=>m I J L
def Acm:Ajw:=@A9h @Aav @Ab7
def Aow(Acm:Ajw)(N:Nat):Aar Aih:=fun R x K=>Acm N x.1.2.2.1 x.1.2.2.2.1 x.2.1.1 x.2.1.2.1 x.2.1.2.2.1 x.2.1.2.2.2.1 x.2.1.2.2.2.2.1 x.2.1.2.2.2.2.2.1 x.2.2.1.1 x.2.2.1.2.1 x.2.2.1.2.2.1 (fun y0=>K .ret (Aab A3i ((y0,()),(())))) (fun y0 y1 y2=>K .normal (Aab A3j (((),()),((y0,y1,y2,()),()))))
def Boj(N:Nat):Aar Aih:=Aow @Acm N
def Aii:Aac:=⟨[wq4,C14,C8g,(53,.one (.val .bool))],Ceh⟩
def A3k:Aac:=⟨A1z,[]⟩
def A3l:Aac:=⟨Csi,Bas⟩
def Bok:Ac8:=.cons .ret A3k (.cons .normal A3l (.nil))
abbrev Cbf(R:Type):=Int->Bool->(List UInt8)->d5->d4->d1->Int->Int->Int->Int->Int->(Bool->Option R)->(Int->Int->Int->Option R)->Option R
abbrev Ajx:={R:Type}→Nat→Cbf R
def A9i(Aav:Afx)(Acm:Ajw):Ajx:=fun {R} N a n d e f g h i j b l c m=>if (n=true) then (Aav N b 0 199 fun o=>c o) else if ((a==8)=true) then (Acm N a (a==8) d e f g h i j b l (fun p=>c p) fun q r s=>m q r s) else if ((a==9)=true) then (Acm N a (a==9) d e f g h i j b l (fun t=>c t) fun u v w=>m u v w) else Acm N a (a==10) d e f g h i j b l (fun x=>c x) fun y z A=>m y z A
def Acn:Ajx:=@A9i @Aav @Acm
def Aox(Acn:Ajx)(N:Nat):Aar Aii:=fun R x K=>Acn N x.1.2.2.1 x.1.2.2.2.1 x.2.1.1 x.2.1.2.1 x.2.1.2.2.1 x.2.1.2.2.2.1 x.2.1.2.2.2.2.1 x.2.1.2.2.2.2.2.1 x.2.2.1.1 x.2.2.1.2.1 x.2.2.1.2.2.1 (fun y0=>K .ret (Aab A3k ((y0,()),(())))) (fun y0 y1 y2=>K .normal (Aab A3l (((),()),((y0,y1,y2,()),()))))
def Bol(N:Nat):Aar Aii:=Aox @Acn N
def Aij:Aac:=⟨[wq4,C14,C8g,(43,.one (.val .bool))],Ceh⟩
def A3m:Aac:=⟨A1z,[]⟩
def A3n:Aac:=⟨Csi,Bas⟩
def Bom:Ac8:=.cons .ret A3m (.cons .normal A3n (.nil))
abbrev Cbg(R:Type):=Int->Bool->(List UInt8)->d5->d4->d1->Int->Int->Int->Int->Int->(Bool->Option R)->(Int->Int->Int->Option R)->Option R
abbrev Ajy:={R:Type}→Nat→Cbg R
def A9j(Aav:Afx)(Acn:Ajx):Ajy:=fun {R} N a n d e f g h i j b l c m=>if (n=true) then (Aav N b 0 4000 fun o=>c o) else if ((a==5)=true) then (Acn N a (a==5) d e f g h i j b l (fun p=>c p) fun q r s=>m q r s) else if ((a==6)=true) then (Acn N a (a==6) d e f g h i j b l (fun t=>c t) fun u v w=>m u v w) else Acn N a (a==7) d e f g h i j b l (fun x=>c x) fun y z A=>m y z A
def Aay:Ajy:=@A9j @Aav @Acn
def Aoy(Aay:Ajy)(N:Nat):Aar Aij:=fun R x K=>Aay N x.1.2.2.1 x.1.2.2.2.1 x.2.1.1 x.2.1.2.1 x.2.1.2.2.1 x.2.1.2.2.2.1 x.2.1.2.2.2.2.1 x.2.1.2.2.2.2.2.1 x.2.2.1.1 x.2.2.1.2.1 x.2.2.1.2.2.1 (fun y0=>K .ret (Aab A3m ((y0,()),(())))) (fun y0 y1 y2=>K .normal (Aab A3n (((),()),((y0,y1,y2,()),()))))
def Bon(N:Nat):Aar Aij:=Aoy @Aay N
def Aik:Aac:=⟨Csi,Bas⟩
def A3o:Aac:=⟨A1z,[]⟩
def Boo:Ac8:=.cons .ret A3o (.nil)
abbrev Cbh(R:Type):=Int->Int->Int->(Bool->Option R)->Option R
abbrev Alb:={R:Type}→Nat→Cbh R
def Aaw:Alb:=fun {R} N c a d b=>b (a==0)
def Aoz(Aaw:Alb)(N:Nat):Aar Aik:=fun R x K=>Aaw N x.2.1.1 x.2.1.2.1 x.2.1.2.2.1 (fun y0=>K .ret (Aab A3o ((y0,()),(()))))
def Bop(N:Nat):Aar Aik:=Aoz @Aaw N
def Bik:Aac:=⟨[Cz8,(1,.agg Cn5)],[]⟩
def A07:Aac:=⟨Agj,[]⟩
abbrev Cov(R:Type):=(List UInt8)->d5->d4->d1->Int->Int->Int->Int->Int->(Bool->Option R)->Option R
abbrev Auw:={R:Type}→Nat→Cov R
def Azm(Aav:Afx)(Aay:Ajy)(Aaw:Alb):Auw:=fun {R} N e f g h i j a d c b=>Aav N a 1 30 fun l=>if ((!l)=true) then (b false) else Aav N d (-2147483648) 2147483647 fun m=>if ((!m)=true) then (b false) else Aav N c (-2147483648) 2147483647 fun n=>if ((!n)=true) then (b false) else if ((a != 24)=true) then (if ((a != 29)=true) then (if ((a != 30)=true) then (if ((c != 0)=true) then (b false) else if ((a==1)=true) then (b true) else if ((a==2)=true) then (Aay N a (a==2) e f g h i j a d c (fun o=>b o) fun p q r=>Aaw N p q r fun s=>b s) else if ((a==3)=true) then (Aay N a (a==3) e f g h i j a d c (fun t=>b t) fun u v w=>Aaw N u v w fun x=>b x) else if ((a==4)=true) then (Aay N a (a==4) e f g h i j a d c (fun y=>b y) fun z A B=>Aaw N z A B fun C=>b C) else if ((a==23)=true) then (Aay N a (a==23) e f g h i j a d c (fun D=>b D) fun E F G=>Aaw N E F G fun H=>b H) else if ((a==18)=true) then (Aay N a (a==18) e f g h i j a d c (fun I=>b I) fun J L M=>Aaw N J L M fun O=>b O) else Aay N a (a==28) e f g h i j a d c (fun P=>b P) fun Q S T=>Aaw N Q S T fun U=>b U) else if ((a==1)=true) then (b true) else if ((a==2)=true) then (Aay N a (a==2) e f g h i j a d c (fun V=>b V) fun W X Y=>Aaw N W X Y fun Z=>b Z) else if ((a==3)=true) then (Aay N a (a==3) e f g h i j a d c (fun aa=>b aa) fun ab ac ad=>Aaw N ab ac ad fun ae=>b ae) else if ((a==4)=true) then (Aay N a (a==4) e f g h i j a d c (fun af=>b af) fun ag ah ai=>Aaw N ag ah ai fun aj=>b aj) else if ((a==23)=true) then (Aay N a (a==23) e f g h i j a d c (fun ak=>b ak) fun al am an=>Aaw N al am an fun ao=>b ao) else if ((a==18)=true) then (Aay N a (a==18) e f g h i j a d c (fun ap=>b ap) fun aq ar au=>Aaw N aq ar au fun av=>b av) else Aay N a (a==28) e f g h i j a d c (fun aw=>b aw) fun ax ay az=>Aaw N ax ay az fun ba=>b ba) else if ((a==1)=true) then (b true) else if ((a==2)=true) then (Aay N a (a==2) e f g h i j a d c (fun bb=>b bb) fun bc bd be=>Aaw N bc bd be fun bf=>b bf) else if ((a==3)=true) then (Aay N a (a==3) e f g h i j a d c (fun bg=>b bg) fun bh bi bj=>Aaw N bh bi bj fun bk=>b bk) else if ((a==4)=true) then (Aay N a (a==4) e f g h i j a d c (fun bl=>b bl) fun bm bn bo=>Aaw N bm bn bo fun bp=>b bp) else if ((a==23)=true) then (Aay N a (a==23) e f g h i j a d c (fun bq=>b bq) fun br bs bt=>Aaw N br bs bt fun bu=>b bu) else if ((a==18)=true) then (Aay N a (a==18) e f g h i j a d c (fun bv=>b bv) fun bw bx bz=>Aaw N bw bx bz fun ca=>b ca) else Aay N a (a==28) e f g h i j a d c (fun cb=>b cb) fun cc cd ce=>Aaw N cc cd ce fun cf=>b cf) else if ((a==1)=true) then (b true) else if ((a==2)=true) then (Aay N a (a==2) e f g h i j a d c (fun cg=>b cg) fun ch ci cj=>Aaw N ch ci cj fun ck=>b ck) else if ((a==3)=true) then (Aay N a (a==3) e f g h i j a d c (fun cl=>b cl) fun cm cn co=>Aaw N cm cn co fun cp=>b cp) else if ((a==4)=true) then (Aay N a (a==4) e f g h i j a d c (fun cq=>b cq) fun cr cs ct=>Aaw N cr cs ct fun cu=>b cu) else if ((a==23)=true) then (Aay N a (a==23) e f g h i j a d c (fun cv=>b cv) fun cw cx cy=>Aaw N cw cx cy fun cz=>b cz) else if ((a==18)=true) then (Aay N a (a==18) e f g h i j a d c (fun da=>b da) fun db dc dd=>Aaw N db dc dd fun de=>b de) else Aay N a (a==28) e f g h i j a d c (fun df=>b df) fun dg dh di=>Aaw N dg dh di fun dj=>b dj
def Agc:Auw:=@Azm @Aav @Aay @Aaw
def Dgk(N:Nat):Aa0 Bik [A07]:=fun R x C=>Agc N x.1.1.1 x.1.1.2.1 x.1.1.2.2.1 x.1.1.2.2.2.1 x.1.1.2.2.2.2.1 x.1.1.2.2.2.2.2.1 x.1.2.1.1 x.1.2.1.2.1 x.1.2.1.2.2.1 (fun y0=>C.1 ((y0,()),(())))
def Bil(Agc:Auw)(N:Nat):Go.AX.Aae:=Aa9 [true,true] [] false 2 0 Bik [A07] (fun R x C=>Agc N x.1.1.1 x.1.1.2.1 x.1.1.2.2.1 x.1.1.2.2.2.1 x.1.1.2.2.2.2.1 x.1.1.2.2.2.2.2.1 x.1.2.1.1 x.1.2.1.2.1 x.1.2.1.2.2.1 (fun y0=>C.1 ((y0,()),(()))))
def By6(N:Nat):Go.AX.Aae:=Bil @Agc N
def Dgl(N:Nat):List (Nat×Abu):=[(68,Aaa Aig (Boh N)),(44,Aaa Aih (Boj N)),(36,Aaa Aii (Bol N)),(28,Aaa Aij (Bon N)),(82,Aaa Aik (Bop N))]
def Cow(N:Nat):List (Nat×Go.AX.Aae):=[(68,Bih N)]
def Amg:Aac:=⟨C8j,Axb⟩
def Azn:Aac:=⟨C2b,[]⟩
def Azo:Aac:=⟨C17,Axb⟩
def Bv6:Ac8:=.cons .ret Azn (.cons (.exit 0) Azo (.nil))
abbrev Bfk(R:Type):=Int->(List UInt8)->d5->d4->d1->Int->Int->(Int->Option R)->((List UInt8)->d5->d4->d1->Int->Int->Option R)->Option R
abbrev Bv7(R:Type):=Int->(List UInt8)->d5->d4->d1->Int->Int->Option R
abbrev A3p:={R:Type}→Nat→Nat→Bfk R
def Bfl(Agc:Auw){R:Type}(N:Nat)(rc:Bv7 R):Bfk R:=fun b c d a e f g h i=>if ((decide (b<(len a)))=true) then (if (0≤b∧b<len a) then (Agc N c d a e f g ((a.getD b.toNat (0,(0,0))).1) ((a.getD b.toNat (0,(0,0))).2.1) ((a.getD b.toNat (0,(0,0))).2.2) fun j=>if ((!j)=true) then (h 60) else rc (wi (b+1)) c d a e f g) else none) else i c d a e f g
def Agf{R:Type}(N:Nat):Nat→Bfk R
 |0=>fun _ _ _ _ _ _ _ _ _=>none
 |k+1=>fun a b c d e f g h i=>Bfl @Agc N (fun a b c d e f g=>Agf N k a b c d e f g h i) a b c d e f g h i
def Bfm(Agf:A3p)(N k:Nat):Aar Amg:=fun R x K=>Agf N k x.1.2.1 x.2.1.1 x.2.1.2.1 x.2.1.2.2.1 x.2.1.2.2.2.1 x.2.1.2.2.2.2.1 x.2.1.2.2.2.2.2.1 (fun y0=>K .ret (Aab Azn ((y0,()),(())))) (fun y0 y1 y2 y3 y4 y5=>K (.exit 0) (Aab Azo (((),()),((y0,y1,y2,y3,y4,y5,()),()))))
def Bfn(N k:Nat):Aar Amg:=Bfm @Agf N k
def Akz:Code:=Tryz.f33.body.getD .skip
def B18:Code:=Tryz.f69.body.getD .skip
def Bl1:Aac:=⟨Cz4,[]⟩
def A3q:Aac:=⟨Agj,[]⟩
abbrev Csv(R:Type):=Int->Int->Int->(Bool->Option R)->Option R
abbrev Am2:={R:Type}→Nat→Csv R
def Abs:Am2:=fun {R} N a c d b=>if ((a != 20)=true) then (if ((a != 25)=true) then (if ((a != 26)=true) then (if ((a != 27)=true) then (if ((a != 29)=true) then (b (a != 30)) else b false) else b false) else b false) else b false) else b false
def Csw(N:Nat):Aa0 Bl1 [A3q]:=fun R x C=>Abs N x.1.1.1 x.1.1.2.1 x.1.1.2.2.1 (fun y0=>C.1 ((y0,()),(())))
def Ata(Abs:Am2)(N:Nat):Go.AX.Aae:=Aa9 [true] [] false 1 0 Bl1 [A3q] (fun R x C=>Abs N x.1.1.1 x.1.1.2.1 x.1.1.2.2.1 (fun y0=>C.1 ((y0,()),(()))))
def Bl2(N:Nat):Go.AX.Aae:=Ata @Abs N
def Csx(N:Nat):List (Nat×Abu):=[]
def B19(N:Nat):List (Nat×Go.AX.Aae):=[]
def Amh:Aac:=⟨[wq7,A10,Bt9,Axt,Bbv,(7,.one (.ptr 33)),C19],Ceh⟩
def A9k:Aac:=⟨Bbu,[]⟩
def A9l:Aac:=⟨C8u,Axb⟩
def Bv8:Ac8:=.cons .ret A9k (.cons .normal A9l (.nil))
abbrev Cjb(R:Type):=Int->Int->Int->Int->Bool->(List UInt8)->d5->d4->d1->Int->Int->Int->Int->Int->(Bool->Option R)->(Int->Int->Int->Int->(List UInt8)->d5->d4->d1->Int->Int->Option R)->Option R
abbrev Ao0:={R:Type}→Nat→Cjb R
def Bfo(Abs:Am2):Ao0:=fun {R} N c d e a p f g b h i j n q r l m=>Abs N n q r fun s=>if (s=true) then (if (p=true) then (l false) else let o:=(wi (a+1));if (0≤o∧o<len b) then (if (((b.getD o.toNat (0,(0,0))).1==24)=true) then (l false) else if ((a==0)=true) then (if ((n != 24)=true) then (l false) else m c d e a f g b h i j) else m c d e a f g b h i j) else none) else if ((a==0)=true) then (if ((n != 24)=true) then (l false) else m c d e a f g b h i j) else m c d e a f g b h i j
def Adc:Ao0:=@Bfo @Abs
def Awz(Adc:Ao0)(N:Nat):Aar Amh:=fun R x K=>Adc N x.1.2.1 x.1.2.2.1 x.1.2.2.2.1 x.1.2.2.2.2.1 x.1.2.2.2.2.2.2.1 x.2.1.1 x.2.1.2.1 x.2.1.2.2.1 x.2.1.2.2.2.1 x.2.1.2.2.2.2.1 x.2.1.2.2.2.2.2.1 x.2.2.1.1 x.2.2.1.2.1 x.2.2.1.2.2.1 (fun y0=>K .ret (Aab A9k ((y0,()),(())))) (fun y0 y1 y2 y3 y4 y5 y6 y7 y8 y9=>K .normal (Aab A9l (((),y0,y1,y2,y3,()),((y4,y5,y6,y7,y8,y9,()),()))))
def Bv9(N:Nat):Aar Amh:=Awz @Adc N
def Ami:Aac:=⟨[wq7,A10,Bt9,Axt,Bbv,(7,.one (.ptr 33))],Ceh⟩
def A9m:Aac:=⟨Bbu,[]⟩
def A9n:Aac:=⟨C8u,Axb⟩
def Bwa:Ac8:=.cons .ret A9m (.cons .normal A9n (.nil))
abbrev Cjc(R:Type):=Int->Int->Int->Int->(List UInt8)->d5->d4->d1->Int->Int->Int->Int->Int->(Bool->Option R)->(Int->Int->Int->Int->(List UInt8)->d5->d4->d1->Int->Int->Option R)->Option R
abbrev Ao1:={R:Type}→Nat→Cjc R
def Bfp(Adc:Ao0):Ao1:=fun {R} N h p q f i j a l m n c d g e o=>let b:=(wi (f+1));if ((c==24)=true) then (let t:=(wi (h+1));if ((d != t)=true) then (e false) else Adc N t p q f (decide (b≥(len a))) i j a l m n c d g (fun u=>e u) fun v w x y z A B C D E=>o v w x y z A B C D E) else if ((c==29)=true) then (Adc N h p g f (decide (b≥(len a))) i j a l m n c d g (fun F=>e F) fun G H I J L M O P Q S=>o G H I J L M O P Q S) else if ((c==19)=true) then (let r:=(if (d > p) then d else p);if ((decide (b≥(len a)))=true) then (e false) else if (0≤b∧b<len a) then (let s:=(a.getD b.toNat (0,(0,0))).1;if ((s != 18)=true) then (if (0≤b∧b<len a) then (if ((s != 28)=true) then (if (0≤b∧b<len a) then (if ((s != 19)=true) then (e false) else Adc N h r q f (decide (b≥(len a))) i j a l m n c d g (fun T=>e T) fun U V W X Y Z aa ab ac ad=>o U V W X Y Z aa ab ac ad) else none) else Adc N h r q f (decide (b≥(len a))) i j a l m n c d g (fun ae=>e ae) fun af ag ah ai aj ak al am an ao=>o af ag ah ai aj ak al am an ao) else none) else Adc N h r q f (decide (b≥(len a))) i j a l m n c d g (fun ap=>e ap) fun aq ar au av aw ax ay az ba bb=>o aq ar au av aw ax ay az ba bb) else none) else Adc N h p q f (decide (b≥(len a))) i j a l m n c d g (fun bc=>e bc) fun bd be bf bg bh bi bj bk bl bm=>o bd be bf bg bh bi bj bk bl bm
def Aeo:Ao1:=@Bfp @Adc
def Aw0(Aeo:Ao1)(N:Nat):Aar Ami:=fun R x K=>Aeo N x.1.2.1 x.1.2.2.1 x.1.2.2.2.1 x.1.2.2.2.2.1 x.2.1.1 x.2.1.2.1 x.2.1.2.2.1 x.2.1.2.2.2.1 x.2.1.2.2.2.2.1 x.2.1.2.2.2.2.2.1 x.2.2.1.1 x.2.2.1.2.1 x.2.2.1.2.2.1 (fun y0=>K .ret (Aab A9m ((y0,()),(())))) (fun y0 y1 y2 y3 y4 y5 y6 y7 y8 y9=>K .normal (Aab A9n (((),y0,y1,y2,y3,()),((y4,y5,y6,y7,y8,y9,()),()))))
def Bwb(N:Nat):Aar Ami:=Aw0 @Aeo N
def Alc:Aac:=⟨C8u,Axb⟩
def A08:Aac:=⟨Bbu,[]⟩
def A09:Aac:=⟨[wq7,A10,Bt9,Axt],Axb⟩
def By7:Ac8:=.cons .ret A08 (.cons (.exit 0) A09 (.nil))
abbrev Bim(R:Type):=Int->Int->Int->Int->(List UInt8)->d5->d4->d1->Int->Int->(Bool->Option R)->(Int->Int->Int->(List UInt8)->d5->d4->d1->Int->Int->Option R)->Option R
abbrev By8(R:Type):=Int->Int->Int->Int->(List UInt8)->d5->d4->d1->Int->Int->Option R
abbrev Aux:={R:Type}→Nat→Nat→Bim R
def Bin(Aeo:Ao1){R:Type}(N:Nat)(rc:By8 R):Bim R:=fun d e c a f g b h i j l p=>if ((decide (a<(len b)))=true) then (if (0≤a∧a<len b) then (let m:=(b.getD a.toNat (0,(0,0))).1;let n:=(b.getD a.toNat (0,(0,0))).2.1;let o:=(b.getD a.toNat (0,(0,0))).2.2;if ((!((decide (c > 0))==(m==30)))=true) then (l false) else if ((decide (c > 0))=true) then (Aeo N d e (wi (c-1)) a f g b h i j m n o (fun q=>l q) fun r s t u v w x y z A=>rc r s t (wi (u+1)) v w x y z A) else Aeo N d e c a f g b h i j m n o (fun B=>l B) fun C D E F G H I J L M=>rc C D E (wi (F+1)) G H I J L M) else none) else p d e c f g b h i j
def Ad9{R:Type}(N:Nat):Nat→Bim R
 |0=>fun _ _ _ _ _ _ _ _ _ _ _ _=>none
 |k+1=>fun a b c d e f g h i j l m=>Bin @Aeo N (fun a b c d e f g h i j=>Ad9 N k a b c d e f g h i j l m) a b c d e f g h i j l m
def Azp(Ad9:Aux)(N k:Nat):Aar Alc:=fun R x K=>Ad9 N k x.1.2.1 x.1.2.2.1 x.1.2.2.2.1 x.1.2.2.2.2.1 x.2.1.1 x.2.1.2.1 x.2.1.2.2.1 x.2.1.2.2.2.1 x.2.1.2.2.2.2.1 x.2.1.2.2.2.2.2.1 (fun y0=>K .ret (Aab A08 ((y0,()),(())))) (fun y0 y1 y2 y3 y4 y5 y6 y7 y8=>K (.exit 0) (Aab A09 (((),y0,y1,y2,()),((y3,y4,y5,y6,y7,y8,()),()))))
def Bio(N k:Nat):Aar Alc:=Azp @Ad9 N k
def Bp9:Aac:=⟨A2u,[]⟩
def A67:Aac:=⟨Agj,[]⟩
abbrev Cw0(R:Type):=(List UInt8)->d5->d4->d1->Int->Int->(Bool->Option R)->Option R
abbrev Ax3:={R:Type}→Nat→Cw0 R
def Bqa(Ad9:Aux):Ax3:=fun {R} N b c d e f g a=>Ad9 N N 0 0 0 0 b c d e f g (fun h=>a h) fun i j l o p q r m n=>if ((l==0)=true) then (if ((i==m)=true) then (a (j==n)) else a false) else a false
def Ajz:Ax3:=@Bqa @Ad9
def Di2(N:Nat):Aa0 Bp9 [A67]:=fun R x C=>Ajz N x.1.1.1 x.1.1.2.1 x.1.1.2.2.1 x.1.1.2.2.2.1 x.1.1.2.2.2.2.1 x.1.1.2.2.2.2.2.1 (fun y0=>C.1 ((y0,()),(())))
def Bqb(Ajz:Ax3)(N:Nat):Go.AX.Aae:=Aa9 [true] [] false 1 0 Bp9 [A67] (fun R x C=>Ajz N x.1.1.1 x.1.1.2.1 x.1.1.2.2.1 x.1.1.2.2.2.1 x.1.1.2.2.2.2.1 x.1.1.2.2.2.2.2.1 (fun y0=>C.1 ((y0,()),(()))))
def B5e(N:Nat):Go.AX.Aae:=Bqb @Ajz N
def Di3(N:Nat):List (Nat×Abu):=[(44,Aaa Amh (Bv9 N)),(20,Aaa Ami (Bwb N)),(7,Aaa Alc (Bio N N))]
def Cw1(N:Nat):List (Nat×Go.AX.Aae):=[(69,Bl2 N)]
def Ae9:Code:=Tryz.f34.body.getD .skip
def Ajc:Aac:=⟨[wq7,C15,C16,Axt],B4b⟩
def Azq:Aac:=⟨[wq7,C15,C16],B4b⟩
def Bwc:Ac8:=.cons (.exit 0) Azq (.nil)
abbrev Bfq(R:Type):=Int->(List UInt8)->d5->d4->d1->Int->Int->d0->d0->d0->d0->((List UInt8)->d5->d4->d1->Int->Int->d0->d0->d0->d0->Option R)->Option R
abbrev Bwd(R:Type):=Int->(List UInt8)->d5->d4->d1->Int->Int->d0->d0->d0->d0->Option R
abbrev Aq1:={R:Type}→Nat→Nat→Bfq R
def A3r{R:Type}(N:Nat)(rc:Bwd R):Bfq R:=fun a d e f g h b i j c l m=>if ((decide (a≤b))=true) then (if (0≤a∧a<len c) then (rc (wi (a+1)) d e f g h b i j (c.set a.toNat (-1)) l) else none) else m d e f g h b i j c l
def Ade{R:Type}(N:Nat):Nat→Bfq R
 |0=>fun _ _ _ _ _ _ _ _ _ _ _ _=>none
 |k+1=>fun a b c d e f g h i j l m=>A3r N (fun a b c d e f g h i j l=>Ade N k a b c d e f g h i j l m) a b c d e f g h i j l m
def Atb(Ade:Aq1)(N k:Nat):Aar Ajc:=fun R x K=>Ade N k x.1.2.2.2.1 x.2.1.1 x.2.1.2.1 x.2.1.2.2.1 x.2.1.2.2.2.1 x.2.1.2.2.2.2.1 x.2.1.2.2.2.2.2.1 x.2.2.2.2.1 x.2.2.2.2.2.1 x.2.2.2.2.2.2.1 x.2.2.2.2.2.2.2.1 (fun y0 y1 y2 y3 y4 y5 y6 y7 y8 y9=>K (.exit 0) (Aab Azq (((),(),(),()),((y0,y1,y2,y3,y4,y5,()),((),(),()),((),(),()),y6,y7,y8,y9,()))))
def Bfr(N k:Nat):Aar Ajc:=Atb @Ade N k
def Akt:Aac:=⟨C8s,B4b⟩
def A56:Aac:=⟨Dex,C8q⟩
def A57:Aac:=⟨C8s,B4b⟩
def Br6:Ac8:=.cons .ret A56 (.cons .normal A57 (.nil))
abbrev Ce0(R:Type):=Int->Int->(List UInt8)->d5->d4->d1->Int->Int->d0->d0->d0->d0->(Bool->d0->d0->Option R)->(Int->Int->(List UInt8)->d5->d4->d1->Int->Int->d0->d0->d0->d0->Option R)->Option R
abbrev Am6:={R:Type}→Nat→Ce0 R
def Adi:Am6:=fun {R} N e a g h b i j l m n c f p o=>if (0≤a∧a<len f) then (if (0≤a∧a<len b) then (if (((b.getD a.toNat (0,(0,0))).1==19)=true) then (if (0≤a∧a<len b) then (let d:=(b.getD a.toNat (0,(0,0))).2.1;if (0≤d∧d<len c) then (if ((decide ((c.getD d.toNat 0)≥0))=true) then (p false c (f.set a.toNat e)) else if (0≤a∧a<len b) then (if (0≤d∧d<len c) then (o e a g h b i j l m n (c.set d.toNat a) (f.set a.toNat e)) else none) else none) else none) else none) else o e a g h b i j l m n c (f.set a.toNat e)) else none) else none
def Ar1(Adi:Am6)(N:Nat):Aar Akt:=fun R x K=>Adi N x.1.2.2.2.1 x.1.2.2.2.2.1 x.2.1.1 x.2.1.2.1 x.2.1.2.2.1 x.2.1.2.2.2.1 x.2.1.2.2.2.2.1 x.2.1.2.2.2.2.2.1 x.2.2.2.2.1 x.2.2.2.2.2.1 x.2.2.2.2.2.2.1 x.2.2.2.2.2.2.2.1 (fun y0 y1 y2=>K .ret (Aab A56 (((),y0,()),(((),(),()),y1,y2,())))) (fun y0 y1 y2 y3 y4 y5 y6 y7 y8 y9 y10 y11=>K .normal (Aab A57 (((),(),(),y0,y1,()),((y2,y3,y4,y5,y6,y7,()),((),(),()),((),(),()),y8,y9,y10,y11,()))))
def Br7(N:Nat):Aar Akt:=Ar1 @Adi N
def Ahz:Aac:=⟨C8s,B4b⟩
def Axl:Aac:=⟨Dex,C8q⟩
def Axm:Aac:=⟨[wq7,C15,C16],B4b⟩
def Br8:Ac8:=.cons .ret Axl (.cons (.exit 2) Axm (.nil))
abbrev Bcg(R:Type):=Int->Int->(List UInt8)->d5->d4->d1->Int->Int->d0->d0->d0->d0->(Bool->d0->d0->Option R)->((List UInt8)->d5->d4->d1->Int->Int->d0->d0->d0->d0->Option R)->Option R
abbrev Br9(R:Type):=Int->Int->(List UInt8)->d5->d4->d1->Int->Int->d0->d0->d0->d0->Option R
abbrev Ap5:={R:Type}→Nat→Nat→Bcg R
def Bch(Adi:Am6){R:Type}(N:Nat)(rc:Br9 R):Bcg R:=fun m a c d b e f g h i j l n o=>if ((decide (a<(len b)))=true) then (if (0≤a∧a<len b) then (if (((b.getD a.toNat (0,(0,0))).1==24)=true) then (Adi N (wi (m+1)) a c d b e f g h i j l (fun p q r=>n p q r) fun s t u v w x y z A B C D=>rc s (wi (t+1)) u v w x y z A B C D) else Adi N m a c d b e f g h i j l (fun E F G=>n E F G) fun H I J L M O P Q S T U V=>rc H (wi (I+1)) J L M O P Q S T U V) else none) else o c d b e f g h i j l
def Acy{R:Type}(N:Nat):Nat→Bcg R
 |0=>fun _ _ _ _ _ _ _ _ _ _ _ _ _ _=>none
 |k+1=>fun a b c d e f g h i j l m n o=>Bch @Adi N (fun a b c d e f g h i j l m=>Acy N k a b c d e f g h i j l m n o) a b c d e f g h i j l m n o
def Ar2(Acy:Ap5)(N k:Nat):Aar Ahz:=fun R x K=>Acy N k x.1.2.2.2.1 x.1.2.2.2.2.1 x.2.1.1 x.2.1.2.1 x.2.1.2.2.1 x.2.1.2.2.2.1 x.2.1.2.2.2.2.1 x.2.1.2.2.2.2.2.1 x.2.2.2.2.1 x.2.2.2.2.2.1 x.2.2.2.2.2.2.1 x.2.2.2.2.2.2.2.1 (fun y0 y1 y2=>K .ret (Aab Axl (((),y0,()),(((),(),()),y1,y2,())))) (fun y0 y1 y2 y3 y4 y5 y6 y7 y8 y9=>K (.exit 2) (Aab Axm (((),(),(),()),((y0,y1,y2,y3,y4,y5,()),((),(),()),((),(),()),y6,y7,y8,y9,()))))
def Bci(N k:Nat):Aar Ahz:=Ar2 @Acy N k
def A4l:Code:=Tryz.f70.body.getD .skip
def Aq2:Aac:=⟨[wq7,Bt9,Den],Bas⟩
def A9o:Aac:=⟨C2b,[]⟩
def A9p:Aac:=⟨[],[]⟩
def Bwe:Ac8:=.cons .ret A9o (.cons .normal A9p (.nil))
abbrev Cjd(R:Type):=Int->Bool->Int->Int->Int->(Int->Option R)->(Option R)->Option R
abbrev Aw1:={R:Type}→Nat→Cjd R
def Afm:Aw1:=fun {R} N b c g d e a f=>if (c=true) then (a d) else if ((b==30)=true) then (a e) else f
def Bfs(Afm:Aw1)(N:Nat):Aar Aq2:=fun R x K=>Afm N x.1.2.1 x.1.2.2.1 x.2.1.1 x.2.1.2.1 x.2.1.2.2.1 (fun y0=>K .ret (Aab A9o ((y0,()),(())))) (K .normal (Aab A9p ((()),(()))))
def Bwf(N:Nat):Aar Aq2:=Bfs @Afm N
def Bqc:Aac:=⟨Cz4,[]⟩
def A68:Aac:=⟨Aio,[]⟩
abbrev Cw2(R:Type):=Int->Int->Int->(Int->Option R)->Option R
abbrev Alo:={R:Type}→Nat→Cw2 R
def Bqd(Afm:Aw1):Alo:=fun {R} N a c d b=>if ((a==20)=true) then (Afm N a (a==20) a c d (fun e=>b e) (b 0)) else if ((a==21)=true) then (Afm N a (a==21) a c d (fun f=>b f) (b 0)) else if ((a==22)=true) then (Afm N a (a==22) a c d (fun g=>b g) (b 0)) else if ((a==27)=true) then (Afm N a (a==27) a c d (fun h=>b h) (b 0)) else Afm N a (a==29) a c d (fun i=>b i) (b 0)
def Aci:Alo:=@Bqd @Afm
def Di4(N:Nat):Aa0 Bqc [A68]:=fun R x C=>Aci N x.1.1.1 x.1.1.2.1 x.1.1.2.2.1 (fun y0=>C.1 ((y0,()),(())))
def Ar8(Aci:Alo)(N:Nat):Go.AX.Aae:=Aa9 [true] [] false 1 0 Bqc [A68] (fun R x C=>Aci N x.1.1.1 x.1.1.2.1 x.1.1.2.2.1 (fun y0=>C.1 ((y0,()),(()))))
def Bqe(N:Nat):Go.AX.Aae:=Ar8 @Aci N
def Di5(N:Nat):List (Nat×Abu):=[(14,Aaa Aq2 (Bwf N))]
def Cw3(N:Nat):List (Nat×Go.AX.Aae):=[]
def Ah0:Aac:=⟨[wq7,C15,C16,Bt8],B4b⟩
def Axn:Aac:=⟨Dex,C8q⟩
def Axo:Aac:=⟨[wq4,(4,.one (.ptr 33))],[(32,.cells 63 [(.slf 34),(.slf 35)]),(33,.cells 63 [(.slf 36),(.slf 37)]),C2a,Dkk,Dkl,Dkm]⟩
def Bsa:Ac8:=.cons .ret Axn (.cons (.exit 4) Axo (.nil))
abbrev Bcj(R:Type):=Int->(List UInt8)->d5->d4->d1->Int->Int->d0->d0->d0->d0->(Bool->d0->d0->Option R)->(d0->d0->d0->d0->Option R)->Option R
abbrev Bsb(R:Type):=Int->(List UInt8)->d5->d4->d1->Int->Int->d0->d0->d0->d0->Option R
abbrev Ap6:={R:Type}→Nat→Nat→Bcj R
def Bck(Aci:Alo){R:Type}(N:Nat)(rc:Bsb R):Bcj R:=fun a i j d l m n g h c b o p=>if ((decide (a<(len d)))=true) then (if (0≤a∧a<len d) then (Aci N ((d.getD a.toNat (0,(0,0))).1) ((d.getD a.toNat (0,(0,0))).2.1) ((d.getD a.toNat (0,(0,0))).2.2) fun e=>if ((decide (e > 0))=true) then (if (0≤e∧e<len c) then (let f:=(c.getD e.toNat 0);if ((decide (f<0))=true) then (o false c b) else if (0≤e∧e<len c) then (if (0≤f∧f<len b) then (if (0≤a∧a<len b) then (if (((b.getD f.toNat 0) != (b.getD a.toNat 0))=true) then (o false c b) else rc (wi (a+1)) i j d l m n g h c b) else none) else none) else none) else none) else rc (wi (a+1)) i j d l m n g h c b) else none) else p g h c b
def Acs{R:Type}(N:Nat):Nat→Bcj R
 |0=>fun _ _ _ _ _ _ _ _ _ _ _ _ _=>none
 |k+1=>fun a b c d e f g h i j l m n=>Bck @Aci N (fun a b c d e f g h i j l=>Acs N k a b c d e f g h i j l m n) a b c d e f g h i j l m n
def Ar3(Acs:Ap6)(N k:Nat):Aar Ah0:=fun R x K=>Acs N k x.1.2.2.2.1 x.2.1.1 x.2.1.2.1 x.2.1.2.2.1 x.2.1.2.2.2.1 x.2.1.2.2.2.2.1 x.2.1.2.2.2.2.2.1 x.2.2.2.2.1 x.2.2.2.2.2.1 x.2.2.2.2.2.2.1 x.2.2.2.2.2.2.2.1 (fun y0 y1 y2=>K .ret (Aab Axn (((),y0,()),(((),(),()),y1,y2,())))) (fun y0 y1 y2 y3=>K (.exit 4) (Aab Axo (((),(),()),(((),(),()),((),(),()),y0,y1,y2,y3,()))))
def Bcl(N k:Nat):Aar Ah0:=Ar3 @Acs N k
def Bl3:Aac:=⟨A2u,[]⟩
def A3s:Aac:=⟨[(0,.agg [(.slf 32),(.slf 33)]),(1,.one (.val .bool))],Bar⟩
abbrev Csy(R:Type):=(List UInt8)->d5->d4->d1->Int->Int->(Bool->d0->d0->Option R)->Option R
abbrev Awh:={R:Type}→Nat→Csy R
def Bl4(Ade:Aq1)(Acy:Ap5)(Acs:Ap6):Awh:=fun {R} N e f a g h d c=>let b:=(wi (d+1));if ((0≤b)∧((b≤b)∧((b*8)≤70368744177664))) then (if ((0≤(len a))∧(((len a)≤(len a))∧(((len a)*8)≤70368744177664))) then (Ade N N 0 e f a g h d ([]:List Int) ([]:List Int) (List.replicate (Int.toNat b) 0) (List.replicate (Int.toNat (len a)) 0) fun i j l m n o p q r s=>Acy N N 0 0 i j l m n o p q r s (fun t u v=>c t u v) fun w x y z A B C D E F=>Acs N N 0 w x y z A B C D E F (fun G H I=>c G H I) fun M O J L=>c true J L) else none) else none
def Ail:Awh:=@Bl4 @Ade @Acy @Acs
def Dhu(N:Nat):Aa0 Bl3 [A3s]:=fun R x C=>Ail N x.1.1.1 x.1.1.2.1 x.1.1.2.2.1 x.1.1.2.2.2.1 x.1.1.2.2.2.2.1 x.1.1.2.2.2.2.2.1 (fun y0 y1 y2=>C.1 ((((),(),()),y0,()),(y1,y2,())))
def Bl5(Ail:Awh)(N:Nat):Go.AX.Aae:=Aa9 [true] [] false 1 0 Bl3 [A3s] (fun R x C=>Ail N x.1.1.1 x.1.1.2.1 x.1.1.2.2.1 x.1.1.2.2.2.1 x.1.1.2.2.2.2.1 x.1.1.2.2.2.2.2.1 (fun y0 y1 y2=>C.1 ((((),(),()),y0,()),(y1,y2,()))))
def B2a(N:Nat):Go.AX.Aae:=Bl5 @Ail N
def Dhv(N:Nat):List (Nat×Abu):=[(7,Aaa Ajc (Bfr N N)),(24,Aaa Akt (Br7 N)),(17,Aaa Ahz (Bci N N)),(37,Aaa Ah0 (Bcl N N))]
def Csz(N:Nat):List (Nat×Go.AX.Aae):=[(70,Bqe N)]
def Aw2:Code:=Tryz.f35.body.getD .skip
def Ams:Code:=Tryz.f56.body.getD .skip
def Amj:Aac:=⟨[Akb,wq4,Bbv,(43,.one (.val .bool))],Bas⟩
def A9q:Aac:=⟨B38,[]⟩
def A9r:Aac:=⟨C8h,[]⟩
def Bwg:Ac8:=.cons .ret A9q (.cons .normal A9r (.nil))
abbrev Cje(R:Type):=Int->Int->Bool->Int->Int->Int->(Int->Option R)->(Int->Option R)->Option R
abbrev Aq3:={R:Type}→Nat→Cje R
def Aep:Aq3:=fun {R} N b c d h e f a g=>if (d=true) then (a (wi (e+1))) else if ((c==24)=true) then (a (wi (2+f))) else g b
def Aw3(Aep:Aq3)(N:Nat):Aar Amj:=fun R x K=>Aep N x.1.1 x.1.2.2.1 x.1.2.2.2.1 x.2.1.1 x.2.1.2.1 x.2.1.2.2.1 (fun y0=>K .ret (Aab A9q ((y0,()),(())))) (fun y0=>K .normal (Aab A9r ((y0,()),(()))))
def Bwh(N:Nat):Aar Amj:=Aw3 @Aep N
def Amk:Aac:=⟨[Akb,wq4,Bbv,(18,.one (.val .bool))],Bas⟩
def A9s:Aac:=⟨B38,[]⟩
def A9t:Aac:=⟨C8h,[]⟩
def Bwi:Ac8:=.cons .ret A9s (.cons .normal A9t (.nil))
abbrev Cjf(R:Type):=Int->Int->Bool->Int->Int->Int->(Int->Option R)->(Int->Option R)->Option R
abbrev Ao2:={R:Type}→Nat→Cjf R
def Bft(Aep:Aq3):Ao2:=fun {R} N c a h e d f b g=>if (h=true) then (b (wi (c-1))) else if ((a==13)=true) then (b (wi (c-2))) else if ((a==15)=true) then (b (wi (c-3))) else if ((a==18)=true) then (b d) else if ((a==23)=true) then (Aep N c a (a==23) e d f (fun i=>b i) fun j=>g j) else Aep N c a (a==28) e d f (fun l=>b l) fun m=>g m
def Acz:Ao2:=@Bft @Aep
def Aw4(Acz:Ao2)(N:Nat):Aar Amk:=fun R x K=>Acz N x.1.1 x.1.2.2.1 x.1.2.2.2.1 x.2.1.1 x.2.1.2.1 x.2.1.2.2.1 (fun y0=>K .ret (Aab A9s ((y0,()),(())))) (fun y0=>K .normal (Aab A9t ((y0,()),(()))))
def Bwj(N:Nat):Aar Amk:=Aw4 @Acz N
def Aml:Aac:=⟨[Akb,wq4,Bbv,Dek],Bas⟩
def A9u:Aac:=⟨B38,[]⟩
def A9v:Aac:=⟨C8h,[]⟩
def Bwk:Ac8:=.cons .ret A9u (.cons .normal A9v (.nil))
abbrev Cjg(R:Type):=Int->Int->Bool->Int->Int->Int->(Int->Option R)->(Int->Option R)->Option R
abbrev Ao3:={R:Type}→Nat→Cjg R
def Bfu(Acz:Ao2):Ao3:=fun {R} N b a h d e f c g=>if (h=true) then (c (wi (b+1))) else if ((a==3)=true) then (Acz N b a (a==3) d e f (fun i=>c i) fun j=>g j) else if ((a==6)=true) then (Acz N b a (a==6) d e f (fun l=>c l) fun m=>g m) else if ((a==9)=true) then (Acz N b a (a==9) d e f (fun n=>c n) fun o=>g o) else if ((a==16)=true) then (Acz N b a (a==16) d e f (fun p=>c p) fun q=>g q) else if ((a==14)=true) then (Acz N b a (a==14) d e f (fun r=>c r) fun s=>g s) else if ((a==21)=true) then (Acz N b a (a==21) d e f (fun t=>c t) fun u=>g u) else if ((a==22)=true) then (Acz N b a (a==22) d e f (fun v=>c v) fun w=>g w) else if ((a==29)=true) then (Acz N b a (a==29) d e f (fun x=>c x) fun y=>g y) else if ((a==25)=true) then (Acz N b a (a==25) d e f (fun z=>c z) fun A=>g A) else Acz N b a (a==27) d e f (fun B=>c B) fun C=>g C
def Adf:Ao3:=@Bfu @Acz
def Aw5(Adf:Ao3)(N:Nat):Aar Aml:=fun R x K=>Adf N x.1.1 x.1.2.2.1 x.1.2.2.2.1 x.2.1.1 x.2.1.2.1 x.2.1.2.2.1 (fun y0=>K .ret (Aab A9u ((y0,()),(())))) (fun y0=>K .normal (Aab A9v ((y0,()),(()))))
def Bwl(N:Nat):Aar Aml:=Aw5 @Adf N
def Bqf:Aac:=⟨[Cef,Akb],[]⟩
def A69:Aac:=⟨Aio,[]⟩
abbrev Cw4(R:Type):=Int->Int->Int->Int->(Int->Option R)->Option R
abbrev Ape:={R:Type}→Nat→Cw4 R
def Bqg(Adf:Ao3):Ape:=fun {R} N a c d e b=>if ((a==1)=true) then (Adf N e a (a==1) a c d (fun f=>b f) fun g=>b g) else if ((a==2)=true) then (Adf N e a (a==2) a c d (fun h=>b h) fun i=>b i) else if ((a==4)=true) then (Adf N e a (a==4) a c d (fun j=>b j) fun l=>b l) else if ((a==5)=true) then (Adf N e a (a==5) a c d (fun m=>b m) fun n=>b n) else if ((a==7)=true) then (Adf N e a (a==7) a c d (fun o=>b o) fun p=>b p) else if ((a==8)=true) then (Adf N e a (a==8) a c d (fun q=>b q) fun r=>b r) else if ((a==10)=true) then (Adf N e a (a==10) a c d (fun s=>b s) fun t=>b t) else Adf N e a (a==11) a c d (fun u=>b u) fun v=>b v
def Ady:Ape:=@Bqg @Adf
def Di6(N:Nat):Aa0 Bqf [A69]:=fun R x C=>Ady N x.1.1.1 x.1.1.2.1 x.1.1.2.2.1 x.1.2.1 (fun y0=>C.1 ((y0,()),(())))
def Ax4(Ady:Ape)(N:Nat):Go.AX.Aae:=Aa9 [true,true] [] false 2 0 Bqf [A69] (fun R x C=>Ady N x.1.1.1 x.1.1.2.1 x.1.1.2.2.1 x.1.2.1 (fun y0=>C.1 ((y0,()),(()))))
def Bqh(N:Nat):Go.AX.Aae:=Ax4 @Ady N
def Di7(N:Nat):List (Nat×Abu):=[(60,Aaa Amj (Bwh N)),(42,Aaa Amk (Bwj N)),(20,Aaa Aml (Bwl N))]
def Cw5(N:Nat):List (Nat×Go.AX.Aae):=[]
def Ar9:Code:=Tryz.f71.body.getD .skip
def Ao4:Aac:=⟨[Bt9,(16,.one (.val .bool))],[]⟩
def A9w:Aac:=⟨C2b,[]⟩
def A9x:Aac:=⟨[],[]⟩
def Bwm:Ac8:=.cons .ret A9w (.cons .normal A9x (.nil))
abbrev Cjh(R:Type):=Int->Bool->(Int->Option R)->(Option R)->Option R
abbrev Atc:={R:Type}→Nat→Cjh R
def Afa:Atc:=fun {R} N b c a d=>if (c=true) then (a 2) else if ((b==15)=true) then (a 3) else d
def A3t(Afa:Atc)(N:Nat):Aar Ao4:=fun R x K=>Afa N x.1.1 x.1.2.1 (fun y0=>K .ret (Aab A9w ((y0,()),(())))) (K .normal (Aab A9x ((()),(()))))
def Bwn(N:Nat):Aar Ao4:=A3t @Afa N
def Ao5:Aac:=⟨[Bt9,Den],[]⟩
def A9y:Aac:=⟨C2b,[]⟩
def A9z:Aac:=⟨[],[]⟩
def Bwo:Ac8:=.cons .ret A9y (.cons .normal A9z (.nil))
abbrev Cji(R:Type):=Int->Bool->(Int->Option R)->(Option R)->Option R
abbrev Aq4:={R:Type}→Nat→Cji R
def Bfv(Afa:Atc):Aq4:=fun {R} N a d b c=>if (d=true) then (b 1) else if ((a==16)=true) then (Afa N a (a==16) (fun e=>b e) c) else if ((a==14)=true) then (Afa N a (a==14) (fun f=>b f) c) else Afa N a (a==13) (fun g=>b g) c
def Ado:Aq4:=@Bfv @Afa
def A3u(Ado:Aq4)(N:Nat):Aar Ao5:=fun R x K=>Ado N x.1.1 x.1.2.1 (fun y0=>K .ret (Aab A9y ((y0,()),(())))) (K .normal (Aab A9z ((()),(()))))
def Bwp(N:Nat):Aar Ao5:=A3u @Ado N
def Bqi:Aac:=⟨Cz4,[]⟩
def A7a:Aac:=⟨Aio,[]⟩
abbrev Cw6(R:Type):=Int->Int->Int->(Int->Option R)->Option R
abbrev Ax5:={R:Type}→Nat→Cw6 R
def Bqj(Ado:Aq4):Ax5:=fun {R} N a n o b=>if ((a==3)=true) then (Ado N a (a==3) (fun c=>b c) (b 0)) else if ((a==6)=true) then (Ado N a (a==6) (fun d=>b d) (b 0)) else if ((a==9)=true) then (Ado N a (a==9) (fun e=>b e) (b 0)) else if ((a==12)=true) then (Ado N a (a==12) (fun f=>b f) (b 0)) else if ((a==17)=true) then (Ado N a (a==17) (fun g=>b g) (b 0)) else if ((a==21)=true) then (Ado N a (a==21) (fun h=>b h) (b 0)) else if ((a==22)=true) then (Ado N a (a==22) (fun i=>b i) (b 0)) else if ((a==29)=true) then (Ado N a (a==29) (fun j=>b j) (b 0)) else if ((a==25)=true) then (Ado N a (a==25) (fun l=>b l) (b 0)) else Ado N a (a==27) (fun m=>b m) (b 0)
def Ahf:Ax5:=@Bqj @Ado
def Di8(N:Nat):Aa0 Bqi [A7a]:=fun R x C=>Ahf N x.1.1.1 x.1.1.2.1 x.1.1.2.2.1 (fun y0=>C.1 ((y0,()),(())))
def Bqk(Ahf:Ax5)(N:Nat):Go.AX.Aae:=Aa9 [true] [] false 1 0 Bqi [A7a] (fun R x C=>Ahf N x.1.1.1 x.1.1.2.1 x.1.1.2.2.1 (fun y0=>C.1 ((y0,()),(()))))
def B5f(N:Nat):Go.AX.Aae:=Bqk @Ahf N
def Di9(N:Nat):List (Nat×Abu):=[(32,Aaa Ao4 (Bwn N)),(24,Aaa Ao5 (Bwp N))]
def Cw7(N:Nat):List (Nat×Go.AX.Aae):=[]
def A4m:Code:=Tryz.f72.body.getD .skip
def Art:Aac:=⟨[Akb,wq4,Bbv,Dek],Bas⟩
def Bcm:Aac:=⟨A1z,[]⟩
def Bcn:Aac:=⟨[],[]⟩
def By9:Ac8:=.cons .ret Bcm (.cons .normal Bcn (.nil))
abbrev Cox(R:Type):=Int->Int->Bool->Int->Int->Int->(Bool->Option R)->(Option R)->Option R
abbrev Auy:={R:Type}→Nat→Cox R
def Bip(Aav:Afx):Auy:=fun {R} N c d e i a j b f=>if (e=true) then (Aav N a 2 (wi (c-1)) fun g=>b g) else if ((d==4)=true) then (b (decide (a≥2))) else if ((d==23)=true) then (Aav N a 2 (wi (c-3)) fun h=>b h) else if ((d==18)=true) then (b (decide (a≤(wi ((wi (c+2000))+2))))) else f
def Ajd:Auy:=@Bip @Aav
def Biq(Ajd:Auy)(N:Nat):Aar Art:=fun R x K=>Ajd N x.1.1 x.1.2.2.1 x.1.2.2.2.1 x.2.1.1 x.2.1.2.1 x.2.1.2.2.1 (fun y0=>K .ret (Aab Bcm ((y0,()),(())))) (K .normal (Aab Bcn ((()),(()))))
def Bza(N:Nat):Aar Art:=Biq @Ajd N
def Bql:Aac:=⟨[Cef,Akb],[]⟩
def A7b:Aac:=⟨Agj,[]⟩
abbrev Cw8(R:Type):=Int->Int->Int->Int->(Bool->Option R)->Option R
abbrev Ax6:={R:Type}→Nat→Cw8 R
def Bqm(Ajd:Auy):Ax6:=fun {R} N a c d e b=>if ((a==2)=true) then (Ajd N e a (a==2) a c d (fun f=>b f) (b true)) else Ajd N e a (a==3) a c d (fun g=>b g) (b true)
def Ahg:Ax6:=@Bqm @Ajd
def Dja(N:Nat):Aa0 Bql [A7b]:=fun R x C=>Ahg N x.1.1.1 x.1.1.2.1 x.1.1.2.2.1 x.1.2.1 (fun y0=>C.1 ((y0,()),(())))
def Bqn(Ahg:Ax6)(N:Nat):Go.AX.Aae:=Aa9 [true,true] [] false 2 0 Bql [A7b] (fun R x C=>Ahg N x.1.1.1 x.1.1.2.1 x.1.1.2.2.1 x.1.2.1 (fun y0=>C.1 ((y0,()),(()))))
def B5g(N:Nat):Go.AX.Aae:=Bqn @Ahg N
def Djb(N:Nat):List (Nat×Abu):=[(8,Aaa Art (Bza N))]
def Cw9(N:Nat):List (Nat×Go.AX.Aae):=[(68,Bih N)]
def Au9:Code:=Tryz.f73.body.getD .skip
def Ant:Aac:=⟨A6g,[]⟩
def A1a:Aac:=⟨A6g,[]⟩
def Bzb:Ac8:=.cons (.exit 0) A1a (.nil)
abbrev Bir(R:Type):=d4->Int->(d4->Int->Option R)->Option R
abbrev Bzc(R:Type):=d4->Int->Option R
abbrev A7c:={R:Type}→Nat→Nat→Bir R
def Bis{R:Type}(N:Nat)(rc:Bzc R):Bir R:=fun b a c=>if ((decide (a<(len b)))=true) then (if (0≤a∧a<len b) then (if (((b.getD a.toNat (0,(0,0))).1==19)=true) then (rc b (wi (a+1))) else c b a) else none) else c b a
def Aha{R:Type}(N:Nat):Nat→Bir R
 |0=>fun _ _ _=>none
 |k+1=>fun a b c=>Bis N (fun a b=>Aha N k a b c) a b c
def Bit(Aha:A7c)(N k:Nat):Aar Ant:=fun R x K=>Aha N k x.1.1 x.1.2.1 (fun y0 y1=>K (.exit 0) (Aab A1a ((y0,y1,()),(()))))
def Biu(N k:Nat):Aar Ant:=Bit @Aha N k
def Bqo:Aac:=⟨A6g,[]⟩
def A7d:Aac:=⟨Agj,[]⟩
abbrev Cxa(R:Type):=d4->Int->(Bool->Option R)->Option R
abbrev Ax7:={R:Type}→Nat→Cxa R
def Bqp(Aha:A7c):Ax7:=fun {R} N d e c=>Aha N N d e fun b a=>if ((decide (a<(len b)))=true) then (if (0≤a∧a<len b) then (c ((b.getD a.toNat (0,(0,0))).1==28)) else none) else c false
def Af6:Ax7:=@Bqp @Aha
def Djc(N:Nat):Aa0 Bqo [A7d]:=fun R x C=>Af6 N x.1.1 x.1.2.1 (fun y0=>C.1 ((y0,()),(())))
def Bqq(Af6:Ax7)(N:Nat):Go.AX.Aae:=Aa9 [true,true] [] false 2 0 Bqo [A7d] (fun R x C=>Af6 N x.1.1 x.1.2.1 (fun y0=>C.1 ((y0,()),(()))))
def B5h(N:Nat):Go.AX.Aae:=Bqq @Af6 N
def Djd(N:Nat):List (Nat×Abu):=[(3,Aaa Ant (Biu N N))]
def Cxb(N:Nat):List (Nat×Go.AX.Aae):=[]
def Apn:Aac:=⟨[wq4,C14,Axt,Del,Bt7],[Bdi,(33,.cells 63 [Blj,Blj])]⟩
def A3v:Aac:=⟨A1z,[]⟩
def A3w:Aac:=⟨[],[]⟩
def B2b:Ac8:=.cons .ret A3v (.cons (.exit 0) A3w (.nil))
abbrev Bl6(R:Type):=Int->Bool->Int->(List UInt8)->d5->d4->d1->Int->Int->d0->d0->(Bool->Option R)->(Option R)->Option R
abbrev Atd(R:Type):=Int->Bool->Int->(List UInt8)->d5->d4->d1->Int->Int->d0->d0->Option R
abbrev Ba9:={R:Type}→Nat→Nat→Bl6 R
def Bl7(Ady:Ape)(Ahf:Ax5)(Aav:Afx)(Ahg:Ax6)(Aci:Alo)(Af6:Ax7)(Abs:Am2){R:Type}(N:Nat)(rc:Atd R):Bl6 R:=fun q o d f g b h i j c l p y=>if ((decide (d<(len b)))=true) then (if (0≤d∧d<len b) then (let a:=(b.getD d.toNat (0,(0,0))).1;let n:=(b.getD d.toNat (0,(0,0))).2.1;let m:=(b.getD d.toNat (0,(0,0))).2.2;if ((a==24)=true) then (rc (wi (2+m)) true (wi (d+1)) f g b h i j c l) else Ady N a n m q fun e=>if ((a==18)=true) then (let x:=(wi (d-1));if (0≤x∧x<len b) then (Ahf N a n m fun z=>if ((decide ((wi (q-z))<2))=true) then (p false) else Aav N e 2 4000 fun A=>if ((!A)=true) then (p false) else if ((!((b.getD x.toNat (0,(0,0))).1==19))=true) then (Ahg N a n m q fun B=>if ((!B)=true) then (p false) else if ((a==28)=true) then (if (o=true) then (p false) else Aci N a n m fun r=>if ((decide (r > 0))=true) then (if (0≤r∧r<len c) then (Af6 N b (c.getD r.toNat 0) fun C=>if ((!(C==(a==27)))=true) then (p false) else if ((a != 19)=true) then (Abs N a n m fun D=>rc e D (wi (d+1)) f g b h i j c l) else rc e o (wi (d+1)) f g b h i j c l) else none) else if ((a != 19)=true) then (Abs N a n m fun E=>rc e E (wi (d+1)) f g b h i j c l) else rc e o (wi (d+1)) f g b h i j c l) else Aci N a n m fun s=>if ((decide (s > 0))=true) then (if (0≤s∧s<len c) then (Af6 N b (c.getD s.toNat 0) fun F=>if ((!(F==(a==27)))=true) then (p false) else if ((a != 19)=true) then (Abs N a n m fun G=>rc e G (wi (d+1)) f g b h i j c l) else rc e o (wi (d+1)) f g b h i j c l) else none) else if ((a != 19)=true) then (Abs N a n m fun H=>rc e H (wi (d+1)) f g b h i j c l) else rc e o (wi (d+1)) f g b h i j c l) else if ((a==28)=true) then (if (o=true) then (p false) else Aci N a n m fun t=>if ((decide (t > 0))=true) then (if (0≤t∧t<len c) then (Af6 N b (c.getD t.toNat 0) fun I=>if ((!(I==(a==27)))=true) then (p false) else if ((a != 19)=true) then (Abs N a n m fun J=>rc e J (wi (d+1)) f g b h i j c l) else rc e o (wi (d+1)) f g b h i j c l) else none) else if ((a != 19)=true) then (Abs N a n m fun L=>rc e L (wi (d+1)) f g b h i j c l) else rc e o (wi (d+1)) f g b h i j c l) else Aci N a n m fun u=>if ((decide (u > 0))=true) then (if (0≤u∧u<len c) then (Af6 N b (c.getD u.toNat 0) fun M=>if ((!(M==(a==27)))=true) then (p false) else if ((a != 19)=true) then (Abs N a n m fun O=>rc e O (wi (d+1)) f g b h i j c l) else rc e o (wi (d+1)) f g b h i j c l) else none) else if ((a != 19)=true) then (Abs N a n m fun P=>rc e P (wi (d+1)) f g b h i j c l) else rc e o (wi (d+1)) f g b h i j c l) else none) else Ahf N a n m fun Q=>if ((decide ((wi (q-Q))<2))=true) then (p false) else Aav N e 2 4000 fun S=>if ((!S)=true) then (p false) else Ahg N a n m q fun T=>if ((!T)=true) then (p false) else if ((a==28)=true) then (if (o=true) then (p false) else Aci N a n m fun v=>if ((decide (v > 0))=true) then (if (0≤v∧v<len c) then (Af6 N b (c.getD v.toNat 0) fun U=>if ((!(U==(a==27)))=true) then (p false) else if ((a != 19)=true) then (Abs N a n m fun V=>rc e V (wi (d+1)) f g b h i j c l) else rc e o (wi (d+1)) f g b h i j c l) else none) else if ((a != 19)=true) then (Abs N a n m fun W=>rc e W (wi (d+1)) f g b h i j c l) else rc e o (wi (d+1)) f g b h i j c l) else Aci N a n m fun w=>if ((decide (w > 0))=true) then (if (0≤w∧w<len c) then (Af6 N b (c.getD w.toNat 0) fun X=>if ((!(X==(a==27)))=true) then (p false) else if ((a != 19)=true) then (Abs N a n m fun Y=>rc e Y (wi (d+1)) f g b h i j c l) else rc e o (wi (d+1)) f g b h i j c l) else none) else if ((a != 19)=true) then (Abs N a n m fun Z=>rc e Z (wi (d+1)) f g b h i j c l) else rc e o (wi (d+1)) f g b h i j c l) else none) else y
def Agy{R:Type}(N:Nat):Nat→Bl6 R
 |0=>fun _ _ _ _ _ _ _ _ _ _ _ _ _=>none
 |k+1=>fun a b c d e f g h i j l m n=>Bl7 @Ady @Ahf @Aav @Ahg @Aci @Af6 @Abs N (fun a b c d e f g h i j l=>Agy N k a b c d e f g h i j l m n) a b c d e f g h i j l m n
def Bl8(Agy:Ba9)(N k:Nat):Aar Apn:=fun R x K=>Agy N k x.1.2.2.1 x.1.2.2.2.1 x.1.2.2.2.2.1 x.2.1.1 x.2.1.2.1 x.2.1.2.2.1 x.2.1.2.2.2.1 x.2.1.2.2.2.2.1 x.2.1.2.2.2.2.2.1 x.2.2.1.1 x.2.2.1.2.1 (fun y0=>K .ret (Aab A3v ((y0,()),(())))) (K (.exit 0) (Aab A3w ((()),(()))))
def Bl9(N k:Nat):Aar Apn:=Bl8 @Agy N k
def Bwq:Aac:=⟨[Cz8,(1,.agg [Blj,Blj])],[]⟩
def Bba:Aac:=⟨Agj,[]⟩
abbrev C25(R:Type):=(List UInt8)->d5->d4->d1->Int->Int->d0->d0->(Bool->Option R)->Option R
abbrev A2a:={R:Type}→Nat→C25 R
def Bwr(Agy:Ba9):A2a:=fun {R} N b c d e f g h i a=>Agy N N 0 false 0 b c d e f g h i (fun j=>a j) (a true)
def Alk:A2a:=@Bwr @Agy
def Dk1(N:Nat):Aa0 Bwq [Bba]:=fun R x C=>Alk N x.1.1.1 x.1.1.2.1 x.1.1.2.2.1 x.1.1.2.2.2.1 x.1.1.2.2.2.2.1 x.1.1.2.2.2.2.2.1 x.1.2.1.1 x.1.2.1.2.1 (fun y0=>C.1 ((y0,()),(())))
def Bws(Alk:A2a)(N:Nat):Go.AX.Aae:=Aa9 [true,true] [] false 2 0 Bwq [Bba] (fun R x C=>Alk N x.1.1.1 x.1.1.2.1 x.1.1.2.2.1 x.1.1.2.2.2.1 x.1.1.2.2.2.2.1 x.1.1.2.2.2.2.2.1 x.1.2.1.1 x.1.2.1.2.1 (fun y0=>C.1 ((y0,()),(()))))
def Cbi(N:Nat):Go.AX.Aae:=Bws @Alk N
def Dk2(N:Nat):List (Nat×Abu):=[(7,Aaa Apn (Bl9 N N))]
def C26(N:Nat):List (Nat×Go.AX.Aae):=[(56,Bqh N),(71,B5f N),(68,Bih N),(72,B5g N),(70,Bqe N),(73,B5h N),(69,Bl2 N)]
def Bqr:Aac:=⟨A2u,[]⟩
def A7e:Aac:=⟨Aio,[]⟩
abbrev Cxc(R:Type):=(List UInt8)->d5->d4->d1->Int->Int->(Int->Option R)->Option R
abbrev Ava:={R:Type}→Nat→Cxc R
def Bqs(Ahy:Auu)(Aks:Ax2)(Agf:A3p)(Ajz:Ax3)(Ail:Awh)(Alk:A2a):Ava:=fun {R} N d e f g b c a=>Ahy N d e f g b c fun o=>if (o=true) then (a 2) else if ((decide (b<0))=true) then (a 60) else if ((decide (c<0))=true) then (a 60) else Aks N d e f g b c fun p=>if ((!p)=true) then (a 60) else Agf N N 0 d e f g b c (fun q=>a q) fun h i j l m n=>Ajz N h i j l m n fun r=>if ((!r)=true) then (a 60) else Ail N h i j l m n fun s t u=>if ((!s)=true) then (a 60) else Alk N h i j l m n t u fun v=>if ((!v)=true) then (a 61) else a 0
def Ah4:Ava:=@Bqs @Ahy @Aks @Agf @Ajz @Ail @Alk
def Dje(N:Nat):Aa0 Bqr [A7e]:=fun R x C=>Ah4 N x.1.1.1 x.1.1.2.1 x.1.1.2.2.1 x.1.1.2.2.2.1 x.1.1.2.2.2.2.1 x.1.1.2.2.2.2.2.1 (fun y0=>C.1 ((y0,()),(())))
def Bdr(Ah4:Ava)(N:Nat):Go.AX.Aae:=Aa9 [true] [] false 1 0 Bqr [A7e] (fun R x C=>Ah4 N x.1.1.1 x.1.1.2.1 x.1.1.2.2.1 x.1.1.2.2.2.1 x.1.1.2.2.2.2.1 x.1.1.2.2.2.2.2.1 (fun y0=>C.1 ((y0,()),(()))))
def B5i(N:Nat):Go.AX.Aae:=Bdr @Ah4 N
def Djf(N:Nat):List (Nat×Abu):=[(13,Aaa Amg (Bfn N N))]
def Cxd(N:Nat):List (Nat×Go.AX.Aae):=[(30,By1 N),(31,B5d N),(32,By6 N),(33,B5e N),(34,B2a N),(35,Cbi N)]
def Am7:Aac:=⟨C8r,C8t⟩
def A58:Aac:=⟨C8r,C8t⟩
def Bsc:Ac8:=.cons .normal A58 (.nil)
abbrev Ce1(R:Type):=Int->Int->(List UInt8)->d5->d4->d1->Int->Int->d0->(Int->Int->(List UInt8)->d5->d4->d1->Int->Int->d0->Option R)->Option R
abbrev Ap7:={R:Type}→Nat→Ce1 R
def Bco(Ady:Ape):Ap7:=fun {R} N c a e f b g h i d j=>if ((((List.length d)+(List.length (c::([]:List Int))))*(8:Nat))≤(70368744177664:Nat)) then (if (0≤a∧a<len b) then (Ady N ((b.getD a.toNat (0,(0,0))).1) ((b.getD a.toNat (0,(0,0))).2.1) ((b.getD a.toNat (0,(0,0))).2.2) c fun l=>j l a e f b g h i (d++(c::([]:List Int)))) else none) else none
def Afg:Ap7:=@Bco @Ady
def A1b(Afg:Ap7)(N:Nat):Aar Am7:=fun R x K=>Afg N x.1.2.2.1 x.1.2.2.2.1 x.2.1.1 x.2.1.2.1 x.2.1.2.2.1 x.2.1.2.2.2.1 x.2.1.2.2.2.2.1 x.2.1.2.2.2.2.2.1 x.2.2.1 (fun y0 y1 y2 y3 y4 y5 y6 y7 y8=>K .normal (Aab A58 (((),(),y0,y1,()),((y2,y3,y4,y5,y6,y7,()),y8,()))))
def Bsd(N:Nat):Aar Am7:=A1b @Afg N
def Aku:Aac:=⟨C8r,C8t⟩
def Axp:Aac:=⟨[(5,.one (.slf 32))],B9q⟩
def Bse:Ac8:=.cons (.exit 0) Axp (.nil)
abbrev Bcp(R:Type):=Int->Int->(List UInt8)->d5->d4->d1->Int->Int->d0->(d0->Option R)->Option R
abbrev Bsf(R:Type):=Int->Int->(List UInt8)->d5->d4->d1->Int->Int->d0->Option R
abbrev Avl:={R:Type}→Nat→Nat→Bcp R
def A1c(Afg:Ap7){R:Type}(N:Nat)(rc:Bsf R):Bcp R:=fun i a d e b f g h c j=>if ((decide (a<(len b)))=true) then (if (0≤a∧a<len b) then (if (((b.getD a.toNat (0,(0,0))).1==24)=true) then (Afg N 0 a d e b f g h c fun l m n o p q r s t=>rc l (wi (m+1)) n o p q r s t) else Afg N i a d e b f g h c fun u v w x y z A B C=>rc u (wi (v+1)) w x y z A B C) else none) else j c
def Aeg{R:Type}(N:Nat):Nat→Bcp R
 |0=>fun _ _ _ _ _ _ _ _ _ _=>none
 |k+1=>fun a b c d e f g h i j=>A1c @Afg N (fun a b c d e f g h i=>Aeg N k a b c d e f g h i j) a b c d e f g h i j
def A1d(Aeg:Avl)(N k:Nat):Aar Aku:=fun R x K=>Aeg N k x.1.2.2.1 x.1.2.2.2.1 x.2.1.1 x.2.1.2.1 x.2.1.2.2.1 x.2.1.2.2.2.1 x.2.1.2.2.2.2.1 x.2.1.2.2.2.2.2.1 x.2.2.1 (fun y0=>K (.exit 0) (Aab Axp (((),()),(y0,()))))
def Bcq(N k:Nat):Aar Aku:=A1d @Aeg N k
def Bma:Aac:=⟨A2u,[]⟩
def A3x:Aac:=⟨Cz3,B9q⟩
abbrev Cs0(R:Type):=(List UInt8)->d5->d4->d1->Int->Int->(Int->d0->Option R)->Option R
abbrev Ak0:={R:Type}→Nat→Cs0 R
def Bbb(Ah4:Ava)(Aeg:Avl):Ak0:=fun {R} N a b c d e f g=>Ah4 N a b c d e f fun h=>if ((h != 0)=true) then (g h ([]:List Int)) else Aeg N N 0 0 a b c d e f ([]:List Int) fun i=>g 0 i
def Ac0:Ak0:=@Bbb @Ah4 @Aeg
def Dhw(N:Nat):Aa0 Bma [A3x]:=fun R x C=>Ac0 N x.1.1.1 x.1.1.2.1 x.1.1.2.2.1 x.1.1.2.2.2.1 x.1.1.2.2.2.2.1 x.1.1.2.2.2.2.2.1 (fun y0 y1=>C.1 (((),y0,()),(y1,())))
def Apo(Ac0:Ak0)(N:Nat):Go.AX.Aae:=Aa9 [true] [] false 1 0 Bma [A3x] (fun R x C=>Ac0 N x.1.1.1 x.1.1.2.1 x.1.1.2.2.1 x.1.1.2.2.2.1 x.1.1.2.2.2.2.1 x.1.1.2.2.2.2.2.1 (fun y0 y1=>C.1 (((),y0,()),(y1,()))))
def B2c(N:Nat):Go.AX.Aae:=Apo @Ac0 N
def Dhx(N:Nat):List (Nat×Abu):=[(22,Aaa Am7 (Bsd N)),(15,Aaa Aku (Bcq N N))]
def Cs1(N:Nat):List (Nat×Go.AX.Aae):=[(10,B5i N),(56,Bqh N)]
def Bwt:Code:=Tryz.f21.body.getD .skip
def Coy:Code:=Tryz.f26.body.getD .skip
def B4f:Aac:=⟨[wq9,Akb,Bha],[]⟩
def Biv:Aac:=⟨Agj,[]⟩
abbrev C82(R:Type):=d4->Int->Int->(Bool->Option R)->Option R
abbrev Afb:={R:Type}→Nat→C82 R
def Aax:Afb:=fun {R} N b a d c=>if ((decide (a≥0))=true) then (if ((decide (a<(len b)))=true) then (if (0≤a∧a<len b) then (c ((b.getD a.toNat (0,(0,0))).1==d)) else none) else c false) else c false
def C83(N:Nat):Aa0 B4f [Biv]:=fun R x C=>Aax N x.1.1 x.1.2.1 x.1.2.2.1 (fun y0=>C.1 ((y0,()),(())))
def Ald(Aax:Afb)(N:Nat):Go.AX.Aae:=Aa9 [true,true,true] [] false 3 0 B4f [Biv] (fun R x C=>Aax N x.1.1 x.1.2.1 x.1.2.2.1 (fun y0=>C.1 ((y0,()),(()))))
def Bbc(N:Nat):Go.AX.Aae:=Ald @Aax N
def C84(N:Nat):List (Nat×Abu):=[]
def Coz(N:Nat):List (Nat×Go.AX.Aae):=[]
def B5j:Code:=Tryz.f57.body.getD .skip
def B5k:Code:=Tryz.f96.body.getD .skip
def B5l:Code:=Tryz.f125.body.getD .skip
def Cbj:Code:=Tryz.f178.body.getD .skip
def Bwu:Aac:=⟨Aio,[]⟩
def Bbd:Aac:=⟨Agj,[]⟩
abbrev C27(R:Type):=Int->(Bool->Option R)->Option R
abbrev Biw:={R:Type}→Nat→C27 R
def Anu:Biw:=fun {R} N a b=>if ((a==16)=true) then (b true) else if ((a==24)=true) then (b true) else b (a==32)
def C28(N:Nat):Aa0 Bwu [Bbd]:=fun R x C=>Anu N x.1.1 (fun y0=>C.1 ((y0,()),(())))
def Cbk(Anu:Biw)(N:Nat):Go.AX.Aae:=Aa9 [true] [] false 1 0 Bwu [Bbd] (fun R x C=>Anu N x.1.1 (fun y0=>C.1 ((y0,()),(()))))
def Cbl(N:Nat):Go.AX.Aae:=Cbk @Anu N
def C29(N:Nat):List (Nat×Abu):=[]
def Cbm(N:Nat):List (Nat×Go.AX.Aae):=[]
def A90:Code:=Tryz.f126.body.getD .skip
def Avb:Code:=Tryz.f129.body.getD .skip
def Anv:Aac:=⟨[Bbw,A10,Bt9],[]⟩
def A1e:Aac:=⟨Det,[]⟩
def Bzd:Ac8:=.cons (.exit 0) A1e (.nil)
abbrev Bix(R:Type):=Int->Int->Int->(Int->Option R)->Option R
abbrev Bze(R:Type):=Int->Int->Int->Option R
abbrev A7f:={R:Type}→Nat→Nat→Bix R
def A7g{R:Type}(N:Nat)(rc:Bze R):Bix R:=fun a b c d=>if ((decide (c<a))=true) then (rc a (wi (b*2)) (wi (c+1))) else d b
def Agr{R:Type}(N:Nat):Nat→Bix R
 |0=>fun _ _ _ _=>none
 |k+1=>fun a b c d=>A7g N (fun a b c=>Agr N k a b c d) a b c d
def Biy(Agr:A7f)(N k:Nat):Aar Anv:=fun R x K=>Agr N k x.1.1 x.1.2.1 x.1.2.2.1 (fun y0=>K (.exit 0) (Aab A1e ((y0,()),(()))))
def Biz(N k:Nat):Aar Anv:=Biy @Agr N k
def Bqt:Aac:=⟨Aio,[]⟩
def A7h:Aac:=⟨Aio,[]⟩
abbrev Cxe(R:Type):=Int->(Int->Option R)->Option R
abbrev Ak1:={R:Type}→Nat→Cxe R
def Bqu(Agr:A7f):Ak1:=fun {R} N a b=>Agr N N a 1 0 fun c=>b c
def Ab0:Ak1:=@Bqu @Agr
def Djg(N:Nat):Aa0 Bqt [A7h]:=fun R x C=>Ab0 N x.1.1 (fun y0=>C.1 ((y0,()),(())))
def Avc(Ab0:Ak1)(N:Nat):Go.AX.Aae:=Aa9 [true] [] false 1 0 Bqt [A7h] (fun R x C=>Ab0 N x.1.1 (fun y0=>C.1 ((y0,()),(()))))
def A4n(N:Nat):Go.AX.Aae:=Avc @Ab0 N
def Djh(N:Nat):List (Nat×Abu):=[(7,Aaa Anv (Biz N N))]
def Cxf(N:Nat):List (Nat×Go.AX.Aae):=[]
def Aru:Aac:=⟨[Bbw,Axt],[]⟩
def Bcr:Aac:=⟨B38,[]⟩
def Bzf:Ac8:=.cons .ret Bcr (.nil)
abbrev Co0(R:Type):=Int->Int->(Int->Option R)->Option R
abbrev Azr:={R:Type}→Nat→Co0 R
def Ah1:Azr:=fun {R} N a b c=>if ((decide (a≥(wi (Int.tdiv b 2))))=true) then (c (wi (a-b))) else c a
def Bi0(Ah1:Azr)(N:Nat):Aar Aru:=fun R x K=>Ah1 N x.1.1 x.1.2.1 (fun y0=>K .ret (Aab Bcr ((y0,()),(()))))
def Bzg(N:Nat):Aar Aru:=Bi0 @Ah1 N
def Bwv:Aac:=⟨Bs3,[]⟩
def Bbe:Aac:=⟨Aio,[]⟩
abbrev C3a(R:Type):=Int->Int->(Int->Option R)->Option R
abbrev Akh:={R:Type}→Nat→C3a R
def Bww(Ab0:Ak1)(Ah1:Azr):Akh:=fun {R} N b d c=>Ab0 N d fun a=>if (a=0) then none else if ((decide ((Int.tmod b a)<(wi (Int.tdiv (wi (0-a)) 2))))=true) then (Ah1 N (wi ((Int.tmod b a)+a)) a fun e=>c e) else Ah1 N (Int.tmod b a) a fun f=>c f
def Abx:Akh:=@Bww @Ab0 @Ah1
def Dk3(N:Nat):Aa0 Bwv [Bbe]:=fun R x C=>Abx N x.1.1 x.1.2.1 (fun y0=>C.1 ((y0,()),(())))
def At4(Abx:Akh)(N:Nat):Go.AX.Aae:=Aa9 [true,true] [] false 2 0 Bwv [Bbe] (fun R x C=>Abx N x.1.1 x.1.2.1 (fun y0=>C.1 ((y0,()),(()))))
def A2b(N:Nat):Go.AX.Aae:=At4 @Abx N
def Dk4(N:Nat):List (Nat×Abu):=[(10,Aaa Aru (Bzg N))]
def C3b(N:Nat):List (Nat×Go.AX.Aae):=[(129,A4n N)]
def B5m:Code:=Tryz.f128.body.getD .skip
def B5n:Code:=Tryz.f181.body.getD .skip
def Bqv:Aac:=⟨Agj,[]⟩
def A7i:Aac:=⟨Aio,[]⟩
abbrev Cxg(R:Type):=Bool->(Int->Option R)->Option R
abbrev Bds:={R:Type}→Nat→Cxg R
def Aj0:Bds:=fun {R} N b a=>if (b=true) then (a (-1)) else a 0
def Cxh(N:Nat):Aa0 Bqv [A7i]:=fun R x C=>Aj0 N x.1.1 (fun y0=>C.1 ((y0,()),(())))
def B5o(Aj0:Bds)(N:Nat):Go.AX.Aae:=Aa9 [true] [] false 1 0 Bqv [A7i] (fun R x C=>Aj0 N x.1.1 (fun y0=>C.1 ((y0,()),(()))))
def B5p(N:Nat):Go.AX.Aae:=B5o @Aj0 N
def Cxi(N:Nat):List (Nat×Abu):=[]
def B5q(N:Nat):List (Nat×Go.AX.Aae):=[]
def Bqw:Aac:=⟨Ard,[]⟩
def A7j:Aac:=⟨[Bbw,(1,.one (.val .bool))],[]⟩
abbrev Cxj(R:Type):=Int->Int->Int->(Int->Bool->Option R)->Option R
abbrev Avd:={R:Type}→Nat→Cxj R
def Bqx(Aj0:Bds):Avd:=fun {R} N b c d a=>if ((b==1)=true) then (a (wi (c*d)) true) else if ((b==2)=true) then (if (d=0) then none else a (wi (Int.tdiv c d)) true) else if ((b==3)=true) then (if (d=0) then none else a (Int.tmod c d) true) else if ((b==4)=true) then (a (wi (c+d)) true) else if ((b==5)=true) then (a (wi (c-d)) true) else if ((b==18)=true) then (a (wi (0-c)) true) else if ((b==19)=true) then (a (wi ((wi (0-c))-1)) true) else if ((b==12)=true) then (Aj0 N (c==d) fun e=>a e true) else if ((b==13)=true) then (Aj0 N (c != d) fun f=>a f true) else if ((b==14)=true) then (Aj0 N (decide (c<d)) fun g=>a g true) else if ((b==15)=true) then (Aj0 N (decide (c≤d)) fun h=>a h true) else if ((b==16)=true) then (Aj0 N (decide (c > d)) fun i=>a i true) else if ((b==17)=true) then (Aj0 N (decide (c≥d)) fun j=>a j true) else a 0 false
def Ae8:Avd:=@Bqx @Aj0
def Dji(N:Nat):Aa0 Bqw [A7j]:=fun R x C=>Ae8 N x.1.1 x.1.2.1 x.1.2.2.1 (fun y0 y1=>C.1 ((y0,y1,()),(())))
def Bqy(Ae8:Avd)(N:Nat):Go.AX.Aae:=Aa9 [true,true,true] [] false 3 0 Bqw [A7j] (fun R x C=>Ae8 N x.1.1 x.1.2.1 x.1.2.2.1 (fun y0 y1=>C.1 ((y0,y1,()),(()))))
def Bqz(N:Nat):Go.AX.Aae:=Bqy @Ae8 N
def Djj(N:Nat):List (Nat×Abu):=[]
def Cxk(N:Nat):List (Nat×Go.AX.Aae):=[(181,B5p N)]
def Arv:Code:=Tryz.f179.body.getD .skip
def Bwx:Code:=Tryz.f246.body.getD .skip
def Bfw:Aac:=⟨Bs3,[]⟩
def Azs:Aac:=⟨Aio,[]⟩
abbrev Cjj(R:Type):=Int->Int->(Int->Option R)->Option R
abbrev Amm:={R:Type}→Nat→Cjj R
def Bfx(Abx:Akh)(Ab0:Ak1):Amm:=fun {R} N d b c=>Abx N d b fun a=>if ((decide (a<0))=true) then (Ab0 N b fun e=>c (wi (a+e))) else c a
def Adg:Amm:=@Bfx @Abx @Ab0
def Dfk(N:Nat):Aa0 Bfw [Azs]:=fun R x C=>Adg N x.1.1 x.1.2.1 (fun y0=>C.1 ((y0,()),(())))
def Aw6(Adg:Amm)(N:Nat):Go.AX.Aae:=Aa9 [true,true] [] false 2 0 Bfw [Azs] (fun R x C=>Adg N x.1.1 x.1.2.1 (fun y0=>C.1 ((y0,()),(()))))
def Bfy(N:Nat):Go.AX.Aae:=Aw6 @Adg N
def Dfl(N:Nat):List (Nat×Abu):=[]
def Cjk(N:Nat):List (Nat×Go.AX.Aae):=[(126,A2b N),(129,A4n N)]
def Ale:Aac:=⟨[Bbw,Akb,Bha,C18,B37],[]⟩
def Av7:Aac:=⟨[Bbw,Bha],[]⟩
def Boq:Ac8:=.cons (.exit 0) Av7 (.nil)
abbrev A91(R:Type):=Int->Int->Int->Bool->Int->(Int->Int->Option R)->Option R
abbrev Bor(R:Type):=Int->Int->Int->Bool->Int->Option R
abbrev Azt:={R:Type}→Nat→Nat→A91 R
def At5(Ab0:Ak1){R:Type}(N:Nat)(rc:Bor R):A91 R:=fun b c a d e g=>if ((decide (e<c))=true) then (if (d=true) then (Ab0 N a fun f=>if (f=0) then none else rc (Int.tmod (wi (b*2)) f) c a d (wi (e+1))) else rc (wi (Int.tdiv b 2)) c a d (wi (e+1))) else g b a
def Aes{R:Type}(N:Nat):Nat→A91 R
 |0=>fun _ _ _ _ _ _=>none
 |k+1=>fun a b c d e f=>At5 @Ab0 N (fun a b c d e=>Aes N k a b c d e f) a b c d e f
def A92(Aes:Azt)(N k:Nat):Aar Ale:=fun R x K=>Aes N k x.1.1 x.1.2.1 x.1.2.2.1 x.1.2.2.2.1 x.1.2.2.2.2.1 (fun y0 y1=>K (.exit 0) (Aab Av7 ((y0,y1,()),(()))))
def A93(N k:Nat):Aar Ale:=A92 @Aes N k
def Bi1:Aac:=⟨[Bbw,Akb,Bha,C18],[]⟩
def A1f:Aac:=⟨Aio,[]⟩
abbrev Co1(R:Type):=Int->Int->Int->Bool->(Int->Option R)->Option R
abbrev Azu:={R:Type}→Nat→Co1 R
def Azv(Adg:Amm)(Aes:Azt)(Abx:Akh):Azu:=fun {R} N d a b e c=>if ((decide (a<0))=true) then (c 0) else if ((decide (a≥b))=true) then (c 0) else Adg N d b fun f=>Aes N N f a b e 0 fun g h=>Abx N g h fun i=>c i
def Ae6:Azu:=@Azv @Adg @Aes @Abx
def Dgm(N:Nat):Aa0 Bi1 [A1f]:=fun R x C=>Ae6 N x.1.1 x.1.2.1 x.1.2.2.1 x.1.2.2.2.1 (fun y0=>C.1 ((y0,()),(())))
def Bzh(Ae6:Azu)(N:Nat):Go.AX.Aae:=Aa9 [true,true,true,true] [] false 4 0 Bi1 [A1f] (fun R x C=>Ae6 N x.1.1 x.1.2.1 x.1.2.2.1 x.1.2.2.2.1 (fun y0=>C.1 ((y0,()),(()))))
def Bzi(N:Nat):Go.AX.Aae:=Bzh @Ae6 N
def Dgn(N:Nat):List (Nat×Abu):=[(11,Aaa Ale (A93 N N))]
def Co2(N:Nat):List (Nat×Go.AX.Aae):=[(246,Bfy N),(129,A4n N),(126,A2b N)]
def Arw:Code:=Tryz.f180.body.getD .skip
def Alm:Aac:=⟨[Bbw,Akb,Bha,(7,.one (.ptr 1000)),B37,Cif,Csk],[(1000,.row 206 (.int .i64))]⟩
def Axq:Aac:=⟨[Bha,B37],[]⟩
def Bsg:Ac8:=.cons (.exit 0) Axq (.nil)
abbrev Bcs(R:Type):=Int->Int->Int->Int->Int->Int->d0->(Int->Int->Option R)->Option R
abbrev Bsh(R:Type):=Int->Int->Int->Int->Int->Int->d0->Option R
abbrev A1g:={R:Type}→Nat→Nat→Bcs R
def A1h{R:Type}(N:Nat)(rc:Bsh R):Bcs R:=fun d e b f g h c i=>if ((decide (h<b))=true) then (let a:=(wi ((wi (2*(Int.tmod d 2)))+(Int.tmod e 2)));if ((0≤a)∧(a<4)) then (if (a<(len c)) then (rc (wi (Int.tdiv d 2)) (wi (Int.tdiv e 2)) b (wi (f+(wi (g*(c.getD a.toNat 0))))) (wi (g*2)) (wi (h+1)) c) else none) else none) else i b f
def Afh{R:Type}(N:Nat):Nat→Bcs R
 |0=>fun _ _ _ _ _ _ _ _=>none
 |k+1=>fun a b c d e f g h=>A1h N (fun a b c d e f g=>Afh N k a b c d e f g h) a b c d e f g h
def Bct(Afh:A1g)(N k:Nat):Aar Alm:=fun R x K=>Afh N k x.1.1 x.1.2.1 x.1.2.2.1 x.1.2.2.2.2.1 x.1.2.2.2.2.2.1 x.1.2.2.2.2.2.2.1 x.2.1 (fun y0 y1=>K (.exit 0) (Aab Axq ((y0,y1,()),(()))))
def Bcu(N k:Nat):Aar Alm:=Bct @Afh N k
def Bi2:Aac:=⟨[Bbw,Akb,Bha,(3,.agg [wq0,wq0,wq0,wq0])],[]⟩
def A1i:Aac:=⟨Aio,[]⟩
abbrev Co3(R:Type):=Int->Int->Int->Int->Int->Int->Int->(Int->Option R)->Option R
abbrev Azw:={R:Type}→Nat→Co3 R
def Bi3(Adg:Amm)(Afh:A1g)(Abx:Akh):Azw:=fun {R} N b c a d e f g h=>Adg N b a fun i=>Adg N c a fun j=>Afh N N i j a 0 1 0 (d::(e::(f::(g::([]:List Int))))) fun l m=>Abx N m l fun n=>h n
def Adp:Azw:=@Bi3 @Adg @Afh @Abx
def Dgo(N:Nat):Aa0 Bi2 [A1i]:=fun R x C=>Adp N x.1.1 x.1.2.1 x.1.2.2.1 x.1.2.2.2.1.1 x.1.2.2.2.1.2.1 x.1.2.2.2.1.2.2.1 x.1.2.2.2.1.2.2.2.1 (fun y0=>C.1 ((y0,()),(())))
def Bzj(Adp:Azw)(N:Nat):Go.AX.Aae:=Aa9 [true,true,true,true] [] false 4 0 Bi2 [A1i] (fun R x C=>Adp N x.1.1 x.1.2.1 x.1.2.2.1 x.1.2.2.2.1.1 x.1.2.2.2.1.2.1 x.1.2.2.2.1.2.2.1 x.1.2.2.2.1.2.2.2.1 (fun y0=>C.1 ((y0,()),(()))))
def Bzk(N:Nat):Go.AX.Aae:=Bzj @Adp N
def Dgp(N:Nat):List (Nat×Abu):=[(9,Aaa Alm (Bcu N N))]
def Co4(N:Nat):List (Nat×Go.AX.Aae):=[(246,Bfy N),(126,A2b N)]
def Bq0:Aac:=⟨B4a,[]⟩
def A7k:Aac:=⟨Bs3,[]⟩
abbrev Cxl(R:Type):=Int->Int->Int->Int->(Int->Int->Option R)->Option R
abbrev A4o:={R:Type}→Nat→Cxl R
def A4p(Anu:Biw)(Abx:Akh)(Ae8:Avd)(Ae6:Azu)(Adp:Azw):A4o:=fun {R} N d f g b a=>Anu N b fun h=>if ((!h)=true) then (a 0 3) else if ((decide (d<1))=true) then (a 0 1) else if ((decide (d > 19))=true) then (a 0 1) else Abx N f b fun e=>Abx N g b fun c=>if ((d==2)=true) then (if ((c==0)=true) then (a 0 10) else Ae8 N d e c fun i j=>if (j=true) then (Abx N i b fun l=>a l 0) else if ((d==6)=true) then (Ae6 N e c b true fun m=>a m 0) else if ((d==7)=true) then (Ae6 N e c b false fun n=>a n 0) else if ((d==8)=true) then (Adp N e c b 0 0 0 1 fun o=>a o 0) else if ((d==9)=true) then (Adp N e c b 0 1 1 1 fun p=>a p 0) else if ((d==10)=true) then (Adp N e c b 0 1 1 0 fun q=>a q 0) else Adp N e c b 1 0 0 1 fun r=>a r 0) else if ((d==3)=true) then (if ((c==0)=true) then (a 0 10) else Ae8 N d e c fun s t=>if (t=true) then (Abx N s b fun u=>a u 0) else if ((d==6)=true) then (Ae6 N e c b true fun v=>a v 0) else if ((d==7)=true) then (Ae6 N e c b false fun w=>a w 0) else if ((d==8)=true) then (Adp N e c b 0 0 0 1 fun x=>a x 0) else if ((d==9)=true) then (Adp N e c b 0 1 1 1 fun y=>a y 0) else if ((d==10)=true) then (Adp N e c b 0 1 1 0 fun z=>a z 0) else Adp N e c b 1 0 0 1 fun A=>a A 0) else Ae8 N d e c fun B C=>if (C=true) then (Abx N B b fun D=>a D 0) else if ((d==6)=true) then (Ae6 N e c b true fun E=>a E 0) else if ((d==7)=true) then (Ae6 N e c b false fun F=>a F 0) else if ((d==8)=true) then (Adp N e c b 0 0 0 1 fun G=>a G 0) else if ((d==9)=true) then (Adp N e c b 0 1 1 1 fun H=>a H 0) else if ((d==10)=true) then (Adp N e c b 0 1 1 0 fun I=>a I 0) else Adp N e c b 1 0 0 1 fun J=>a J 0
def Ah5:A4o:=@A4p @Anu @Abx @Ae8 @Ae6 @Adp
def Djk(N:Nat):Aa0 Bq0 [A7k]:=fun R x C=>Ah5 N x.1.1 x.1.2.1 x.1.2.2.1 x.1.2.2.2.1 (fun y0 y1=>C.1 ((y0,y1,()),(())))
def B5r(Ah5:A4o)(N:Nat):Go.AX.Aae:=Aa9 [true,true,true,true] [] false 4 0 Bq0 [A7k] (fun R x C=>Ah5 N x.1.1 x.1.2.1 x.1.2.2.1 x.1.2.2.2.1 (fun y0 y1=>C.1 ((y0,y1,()),(()))))
def B5s(N:Nat):Go.AX.Aae:=B5r @Ah5 N
def Djl(N:Nat):List (Nat×Abu):=[]
def Cxm(N:Nat):List (Nat×Go.AX.Aae):=[(178,Cbl N),(126,A2b N),(128,Bqz N),(179,Bzi N),(180,Bzk N)]
def B2d:Code:=Tryz.f127.body.getD .skip
def Bmb:Aac:=⟨Aio,[]⟩
def A3y:Aac:=⟨Agj,[]⟩
abbrev Cs2(R:Type):=Int->(Bool->Option R)->Option R
abbrev Bbf:={R:Type}→Nat→Cs2 R
def Ahp:Bbf:=fun {R} N a b=>if ((decide (a≥(-32768)))=true) then (b (decide (a≤32767))) else b false
def Cs3(N:Nat):Aa0 Bmb [A3y]:=fun R x C=>Ahp N x.1.1 (fun y0=>C.1 ((y0,()),(())))
def B2e(Ahp:Bbf)(N:Nat):Go.AX.Aae:=Aa9 [true] [] false 1 0 Bmb [A3y] (fun R x C=>Ahp N x.1.1 (fun y0=>C.1 ((y0,()),(()))))
def B2f(N:Nat):Go.AX.Aae:=B2e @Ahp N
def Cs4(N:Nat):List (Nat×Abu):=[]
def B2g(N:Nat):List (Nat×Go.AX.Aae):=[]
def Bq1:Aac:=⟨B4a,[]⟩
def A7l:Aac:=⟨[Dej,Akb],[]⟩
abbrev Cxn(R:Type):=Int->Int->Int->Int->(Bool->Int->Option R)->Option R
abbrev A4q:={R:Type}→Nat→Cxn R
def A4r(Ah5:A4o)(Abx:Akh)(Ahp:Bbf)(Ae8:Avd)(Ab0:Ak1):A4q:=fun {R} N c g h f a=>Ah5 N c g h f fun e i=>if ((i != 0)=true) then (a false i) else Abx N g f fun d=>Abx N h f fun b=>if ((c==18)=true) then (Ahp N d fun j=>if ((!j)=true) then (a false 0) else Ahp N e fun l=>if ((!l)=true) then (a false 0) else Ae8 N c d b fun m n=>if (n=true) then (a (m==e) 0) else if ((c==6)=true) then (if ((decide (d<0))=true) then (a false 0) else if ((decide (b<0))=true) then (a false 0) else if ((decide (b > 15))=true) then (a false 0) else if ((c==6)=true) then (Ab0 N b fun o=>a (decide ((wi (d*o))≤32767)) 0) else a true 0) else if ((c==7)=true) then (if ((decide (d<0))=true) then (a false 0) else if ((decide (b<0))=true) then (a false 0) else if ((decide (b > 15))=true) then (a false 0) else if ((c==6)=true) then (Ab0 N b fun p=>a (decide ((wi (d*p))≤32767)) 0) else a true 0) else a true 0) else Ahp N d fun q=>if ((!q)=true) then (a false 0) else if ((!(c==19))=true) then (Ahp N b fun r=>if ((!r)=true) then (a false 0) else Ahp N e fun s=>if ((!s)=true) then (a false 0) else Ae8 N c d b fun t u=>if (u=true) then (a (t==e) 0) else if ((c==6)=true) then (if ((decide (d<0))=true) then (a false 0) else if ((decide (b<0))=true) then (a false 0) else if ((decide (b > 15))=true) then (a false 0) else if ((c==6)=true) then (Ab0 N b fun v=>a (decide ((wi (d*v))≤32767)) 0) else a true 0) else if ((c==7)=true) then (if ((decide (d<0))=true) then (a false 0) else if ((decide (b<0))=true) then (a false 0) else if ((decide (b > 15))=true) then (a false 0) else if ((c==6)=true) then (Ab0 N b fun w=>a (decide ((wi (d*w))≤32767)) 0) else a true 0) else a true 0) else Ahp N e fun x=>if ((!x)=true) then (a false 0) else Ae8 N c d b fun y z=>if (z=true) then (a (y==e) 0) else if ((c==6)=true) then (if ((decide (d<0))=true) then (a false 0) else if ((decide (b<0))=true) then (a false 0) else if ((decide (b > 15))=true) then (a false 0) else if ((c==6)=true) then (Ab0 N b fun A=>a (decide ((wi (d*A))≤32767)) 0) else a true 0) else if ((c==7)=true) then (if ((decide (d<0))=true) then (a false 0) else if ((decide (b<0))=true) then (a false 0) else if ((decide (b > 15))=true) then (a false 0) else if ((c==6)=true) then (Ab0 N b fun B=>a (decide ((wi (d*B))≤32767)) 0) else a true 0) else a true 0
def Aj1:A4q:=@A4r @Ah5 @Abx @Ahp @Ae8 @Ab0
def Djm(N:Nat):Aa0 Bq1 [A7l]:=fun R x C=>Aj1 N x.1.1 x.1.2.1 x.1.2.2.1 x.1.2.2.2.1 (fun y0 y1=>C.1 ((y0,y1,()),(())))
def B5t(Aj1:A4q)(N:Nat):Go.AX.Aae:=Aa9 [true,true,true,true] [] false 4 0 Bq1 [A7l] (fun R x C=>Aj1 N x.1.1 x.1.2.1 x.1.2.2.1 x.1.2.2.2.1 (fun y0 y1=>C.1 ((y0,y1,()),(()))))
def B5u(N:Nat):Go.AX.Aae:=B5t @Aj1 N
def Djn(N:Nat):List (Nat×Abu):=[]
def Cxo(N:Nat):List (Nat×Go.AX.Aae):=[(125,B5s N),(126,A2b N),(127,B2f N),(128,Bqz N),(129,A4n N)]
def B5v:Code:=Tryz.f27.body.getD .skip
def Bq2:Aac:=⟨Aio,[]⟩
def A7m:Aac:=⟨Agj,[]⟩
abbrev Cxp(R:Type):=Int->(Bool->Option R)->Option R
abbrev Ak2:={R:Type}→Nat→Cxp R
def Acj:Ak2:=fun {R} N a b=>if ((decide (a≥(-32768)))=true) then (b (decide (a≤32767))) else b false
def Cxq(N:Nat):Aa0 Bq2 [A7m]:=fun R x C=>Acj N x.1.1 (fun y0=>C.1 ((y0,()),(())))
def Apf(Acj:Ak2)(N:Nat):Go.AX.Aae:=Aa9 [true] [] false 1 0 Bq2 [A7m] (fun R x C=>Acj N x.1.1 (fun y0=>C.1 ((y0,()),(()))))
def Bq3(N:Nat):Go.AX.Aae:=Apf @Acj N
def Cxr(N:Nat):List (Nat×Abu):=[]
def B5w(N:Nat):List (Nat×Go.AX.Aae):=[]
def Bq4:Aac:=⟨Ard,[]⟩
def A7n:Aac:=⟨Agj,[]⟩
abbrev Cxs(R:Type):=Int->Int->Int->(Bool->Option R)->Option R
abbrev A4s:={R:Type}→Nat→Cxs R
def Bq5(Aj1:A4q)(Acj:Ak2):A4s:=fun {R} N d b c a=>Aj1 N d b c 16 fun e f=>Acj N b fun g=>if (g=true) then (Acj N c fun h=>if (h=true) then (if ((f==0)=true) then (a e) else a false) else a false) else a false
def Al3:A4s:=@Bq5 @Aj1 @Acj
def Djo(N:Nat):Aa0 Bq4 [A7n]:=fun R x C=>Al3 N x.1.1 x.1.2.1 x.1.2.2.1 (fun y0=>C.1 ((y0,()),(())))
def B5x(Al3:A4s)(N:Nat):Go.AX.Aae:=Aa9 [true,true,true] [] false 3 0 Bq4 [A7n] (fun R x C=>Al3 N x.1.1 x.1.2.1 x.1.2.2.1 (fun y0=>C.1 ((y0,()),(()))))
def B5y(N:Nat):Go.AX.Aae:=B5x @Al3 N
def Djp(N:Nat):List (Nat×Abu):=[]
def Cxt(N:Nat):List (Nat×Go.AX.Aae):=[(96,B5u N),(27,Bq3 N)]
def Cbn:Code:=Tryz.f58.body.getD .skip
def Ate:Code:=Tryz.f97.body.getD .skip
def Amn:Aac:=⟨[Cig,Akb,Axt],[]⟩
def Azx:Aac:=⟨B38,[]⟩
def Azy:Aac:=⟨[],[]⟩
def Bwy:Ac8:=.cons .ret Azx (.cons (.exit 0) Azy (.nil))
abbrev Bfz(R:Type):=d0->Int->Int->(Int->Option R)->(Option R)->Option R
abbrev Bwz(R:Type):=d0->Int->Int->Option R
abbrev A3z:={R:Type}→Nat→Nat→Bfz R
def Bf0{R:Type}(N:Nat)(rc:Bwz R):Bfz R:=fun b c a d e=>if ((decide (a<(len b)))=true) then (if (0≤a∧a<len b) then (if (((b.getD a.toNat 0)==c)=true) then (d a) else rc b c (wi (a+1))) else none) else e
def Ag7{R:Type}(N:Nat):Nat→Bfz R
 |0=>fun _ _ _ _ _=>none
 |k+1=>fun a b c d e=>Bf0 N (fun a b c=>Ag7 N k a b c d e) a b c d e
def Bf1(Ag7:A3z)(N k:Nat):Aar Amn:=fun R x K=>Ag7 N k x.1.1 x.1.2.1 x.1.2.2.1 (fun y0=>K .ret (Aab Azx ((y0,()),(())))) (K (.exit 0) (Aab Azy ((()),(()))))
def Bf2(N k:Nat):Aar Amn:=Bf1 @Ag7 N k
def Bmc:Aac:=⟨[Cig,Akb],[]⟩
def A30:Aac:=⟨Aio,[]⟩
abbrev Cs5(R:Type):=d0->Int->(Int->Option R)->Option R
abbrev A2c:={R:Type}→Nat→Cs5 R
def Bmd(Ag7:A3z):A2c:=fun {R} N b c a=>Ag7 N N b c 0 (fun d=>a d) (a (-1))
def Aly:A2c:=@Bmd @Ag7
def Dhy(N:Nat):Aa0 Bmc [A30]:=fun R x C=>Aly N x.1.1 x.1.2.1 (fun y0=>C.1 ((y0,()),(())))
def B2h(Aly:A2c)(N:Nat):Go.AX.Aae:=Aa9 [true,true] [] false 2 0 Bmc [A30] (fun R x C=>Aly N x.1.1 x.1.2.1 (fun y0=>C.1 ((y0,()),(()))))
def B2i(N:Nat):Go.AX.Aae:=B2h @Aly N
def Dhz(N:Nat):List (Nat×Abu):=[(5,Aaa Amn (Bf2 N N))]
def Cs6(N:Nat):List (Nat×Go.AX.Aae):=[]
def Bw0:Aac:=⟨Bs3,[]⟩
def Bbg:Aac:=⟨Agj,[]⟩
abbrev C3c(R:Type):=Int->Int->(Bool->Option R)->Option R
abbrev A94:={R:Type}→Nat→C3c R
def Bw1(Aly:A2c):A94:=fun {R} N c b a=>if ((c==0)=true) then (Aly N ([4,5,9,10,6,7]) b fun d=>a (decide (d≥0))) else if ((c==1)=true) then (if ((b==1)=true) then (a true) else a (b==2)) else if ((c==(-1))=true) then (a (b==8)) else a false
def App:A94:=@Bw1 @Aly
def Dk5(N:Nat):Aa0 Bw0 [Bbg]:=fun R x C=>App N x.1.1 x.1.2.1 (fun y0=>C.1 ((y0,()),(())))
def Cbo(App:A94)(N:Nat):Go.AX.Aae:=Aa9 [true,true] [] false 2 0 Bw0 [Bbg] (fun R x C=>App N x.1.1 x.1.2.1 (fun y0=>C.1 ((y0,()),(()))))
def Cbp(N:Nat):Go.AX.Aae:=Cbo @App N
def Dk6(N:Nat):List (Nat×Abu):=[]
def C3d(N:Nat):List (Nat×Go.AX.Aae):=[(97,B2i N)]
def Bf3:Aac:=⟨A6g,[]⟩
def Azz:Aac:=⟨Agj,[]⟩
abbrev Cjl(R:Type):=d4->Int->(Bool->Option R)->Option R
abbrev Aje:={R:Type}→Nat→Cjl R
def Bf4(Aax:Afb)(Al3:A4s)(App:A94):Aje:=fun {R} N a c d=>Aax N a c 1 fun g=>if ((!g)=true) then (d false) else if (0≤c∧c<len a) then (let f:=(a.getD c.toNat (0,(0,0))).2.1;let b:=(wi (c+1));Aax N a b 17 fun h=>if (h=true) then (if (0≤b∧b<len a) then (Al3 N ((a.getD b.toNat (0,(0,0))).2.1) f 0 fun i=>d i) else none) else Aax N a b 16 fun j=>if (j=true) then (if (0≤b∧b<len a) then (App N f ((a.getD b.toNat (0,(0,0))).2.1) fun l=>d l) else none) else Aax N a b 1 fun m=>if (m=true) then (let e:=(wi (c+2));Aax N a e 16 fun n=>if (n=true) then (if (0≤e∧e<len a) then (if (0≤b∧b<len a) then (Al3 N ((a.getD e.toNat (0,(0,0))).2.1) f ((a.getD b.toNat (0,(0,0))).2.1) fun o=>d o) else none) else none) else d false) else d false) else none
def Acc:Aje:=@Bf4 @Aax @Al3 @App
def Dfm(N:Nat):Aa0 Bf3 [Azz]:=fun R x C=>Acc N x.1.1 x.1.2.1 (fun y0=>C.1 ((y0,()),(())))
def Amo(Acc:Aje)(N:Nat):Go.AX.Aae:=Aa9 [true,true] [] false 2 0 Bf3 [Azz] (fun R x C=>Acc N x.1.1 x.1.2.1 (fun y0=>C.1 ((y0,()),(()))))
def Bw2(N:Nat):Go.AX.Aae:=Amo @Acc N
def Dfn(N:Nat):List (Nat×Abu):=[]
def Cjm(N:Nat):List (Nat×Go.AX.Aae):=[(26,Bbc N),(57,B5y N),(58,Cbp N)]
def Aix:Aac:=⟨[Ded,Dee,Def,Bt8,C8d],Bar⟩
def Bcv:Aac:=⟨B39,Bar⟩
def Bzl:Ac8:=.cons .normal Bcv (.nil)
abbrev Co5(R:Type):=d4->Int->Bool->d0->d0->(d4->Int->d0->d0->Option R)->Option R
abbrev Alf:={R:Type}→Nat→Co5 R
def Ab9:Alf:=fun {R} N c a f d b e=>if (f=true) then (if ((((List.length b)+(List.length (a::([]:List Int))))*(8:Nat))≤(70368744177664:Nat)) then (e c a d (b++(a::([]:List Int)))) else none) else e c a d b
def Anw(Ab9:Alf)(N:Nat):Aar Aix:=fun R x K=>Ab9 N x.1.2.1 x.1.2.2.2.1 x.1.2.2.2.2.1 x.2.1 x.2.2.1 (fun y0 y1 y2 y3=>K .normal (Aab Bcv (((),y0,(),y1,()),(y2,y3,()))))
def Bzm(N:Nat):Aar Aix:=Anw @Ab9 N
def Aiy:Aac:=⟨Cn6,Ceg⟩
def Bcw:Aac:=⟨B39,Bar⟩
def Bzn:Ac8:=.cons .normal Bcw (.nil)
abbrev Co6(R:Type):=d4->Int->Bool->d0->d0->Int->Int->Int->(d4->Int->d0->d0->Option R)->Option R
abbrev Aj6:={R:Type}→Nat→Co6 R
def Bi4(Ab9:Alf)(Aax:Afb):Aj6:=fun {R} N a b g c d h i B e=>if (g=true) then (Ab9 N a b true c d fun j l m n=>e j l m n) else if ((h==2)=true) then (let f:=(wi (b+1));Aax N a f 3 fun o=>if (o=true) then (if (0≤f∧f<len a) then (Ab9 N a b ((a.getD f.toNat (0,(0,0))).2.1==i) c d fun p q r s=>e p q r s) else none) else Ab9 N a b false c d fun t u v w=>e t u v w) else Ab9 N a b false c d fun x y z A=>e x y z A
def Aca:Aj6:=@Bi4 @Ab9 @Aax
def Anx(Aca:Aj6)(N:Nat):Aar Aiy:=fun R x K=>Aca N x.1.2.1 x.1.2.2.2.1 x.1.2.2.2.2.2.1 x.2.1 x.2.2.1 x.2.2.2.1.1 x.2.2.2.1.2.1 x.2.2.2.1.2.2.1 (fun y0 y1 y2 y3=>K .normal (Aab Bcw (((),y0,(),y1,()),(y2,y3,()))))
def Bzo(N:Nat):Aar Aiy:=Anx @Aca N
def Aiz:Aac:=⟨Cn6,Ceg⟩
def Bcx:Aac:=⟨B39,Bar⟩
def Bzp:Ac8:=.cons .normal Bcx (.nil)
abbrev Co7(R:Type):=d4->Int->Bool->d0->d0->Int->Int->Int->(d4->Int->d0->d0->Option R)->Option R
abbrev Aj7:={R:Type}→Nat→Co7 R
def Bi5(Aca:Aj6)(Acj:Ak2)(Aax:Afb):Aj7:=fun {R} N a b j e f c d g h=>if (j=true) then (Aca N a b true e f c d g fun l m n o=>h l m n o) else if ((c==1)=true) then (Acj N d fun p=>if (p=true) then (let i:=(wi (b+1));Aax N a i 21 fun q=>if (q=true) then (Aca N a b true e f c d g fun r s t u=>h r s t u) else Aax N a i 22 fun v=>Aca N a b v e f c d g fun w x y z=>h w x y z) else Aca N a b false e f c d g fun A B C D=>h A B C D) else Aca N a b false e f c d g fun E F G H=>h E F G H
def Ace:Aj7:=@Bi5 @Aca @Acj @Aax
def Anz(Ace:Aj7)(N:Nat):Aar Aiz:=fun R x K=>Ace N x.1.2.1 x.1.2.2.2.1 x.1.2.2.2.2.2.1 x.2.1 x.2.2.1 x.2.2.2.1.1 x.2.2.2.1.2.1 x.2.2.2.1.2.2.1 (fun y0 y1 y2 y3=>K .normal (Aab Bcx (((),y0,(),y1,()),(y2,y3,()))))
def Bzq(N:Nat):Aar Aiz:=Anz @Ace N
def Ai0:Aac:=⟨Cn6,Ceg⟩
def Bcy:Aac:=⟨B39,Bar⟩
def Bzr:Ac8:=.cons .normal Bcy (.nil)
abbrev Co8(R:Type):=d4->Int->Bool->d0->d0->Int->Int->Int->(d4->Int->d0->d0->Option R)->Option R
abbrev Aj8:={R:Type}→Nat→Co8 R
def Bi6(Ace:Aj7)(Aax:Afb):Aj8:=fun {R} N c a i b f d e g h=>if (i=true) then (Ace N c a true b f d e g fun j l m n=>h j l m n) else if ((d==18)=true) then (if (0≤a∧a<len b) then (if (((b.getD a.toNat 0)==e)=true) then (Aax N c (wi (a-1)) 19 fun o=>Ace N c a (!o) b f d e g fun p q r s=>h p q r s) else Ace N c a false b f d e g fun t u v w=>h t u v w) else none) else Ace N c a false b f d e g fun x y z A=>h x y z A
def Ack:Aj8:=@Bi6 @Ace @Aax
def An0(Ack:Aj8)(N:Nat):Aar Ai0:=fun R x K=>Ack N x.1.2.1 x.1.2.2.2.1 x.1.2.2.2.2.2.1 x.2.1 x.2.2.1 x.2.2.2.1.1 x.2.2.2.1.2.1 x.2.2.2.1.2.2.1 (fun y0 y1 y2 y3=>K .normal (Aab Bcy (((),y0,(),y1,()),(y2,y3,()))))
def Bzs(N:Nat):Aar Ai0:=An0 @Ack N
def Apg:Code:=Tryz.f25.body.getD .skip
def Ao6:Aac:=⟨[wq9,Akb,Axt,(6,.one (.ptr 32)),C8f,(19,.one (.val .bool))],Bas⟩
def A95:Aac:=⟨A1z,[]⟩
def A96:Aac:=⟨Cz6,[]⟩
def Bw3:Ac8:=.cons .ret A95 (.cons .normal A96 (.nil))
abbrev Cjn(R:Type):=d4->Int->Int->Int->Bool->Int->Int->Int->(Bool->Option R)->(d4->Int->Int->Option R)->Option R
abbrev Atf:={R:Type}→Nat→Cjn R
def Aeq:Atf:=fun {R} N b a c f g j h i e d=>if (g=true) then (if ((h==a)=true) then (e true) else d b a c) else if ((f==30)=true) then (if ((i==a)=true) then (e true) else d b a c) else d b a c
def A31(Aeq:Atf)(N:Nat):Aar Ao6:=fun R x K=>Aeq N x.1.1 x.1.2.1 x.1.2.2.1 x.1.2.2.2.2.1 x.1.2.2.2.2.2.1 x.2.1.1 x.2.1.2.1 x.2.1.2.2.1 (fun y0=>K .ret (Aab A95 ((y0,()),(())))) (fun y0 y1 y2=>K .normal (Aab A96 ((y0,y1,y2,()),(()))))
def Bw4(N:Nat):Aar Ao6:=A31 @Aeq N
def Al4:Aac:=⟨Cz6,[]⟩
def A1j:Aac:=⟨A1z,[]⟩
def A1k:Aac:=⟨[],[]⟩
def Bzt:Ac8:=.cons .ret A1j (.cons (.exit 0) A1k (.nil))
abbrev Bi7(R:Type):=d4->Int->Int->(Bool->Option R)->(Option R)->Option R
abbrev Bzu(R:Type):=d4->Int->Int->Option R
abbrev Az0:={R:Type}→Nat→Nat→Bi7 R
def A7o(Aeq:Atf){R:Type}(N:Nat)(rc:Bzu R):Bi7 R:=fun c d b e h=>if ((decide (b<(len c)))=true) then (if (0≤b∧b<len c) then (let a:=(c.getD b.toNat (0,(0,0))).1;let f:=(c.getD b.toNat (0,(0,0))).2.1;let g:=(c.getD b.toNat (0,(0,0))).2.2;if ((a==20)=true) then (Aeq N c d b a (a==20) a f g (fun i=>e i) fun j l m=>rc j l (wi (m+1))) else if ((a==21)=true) then (Aeq N c d b a (a==21) a f g (fun n=>e n) fun o p q=>rc o p (wi (q+1))) else if ((a==22)=true) then (Aeq N c d b a (a==22) a f g (fun r=>e r) fun s t u=>rc s t (wi (u+1))) else if ((a==27)=true) then (Aeq N c d b a (a==27) a f g (fun v=>e v) fun w x y=>rc w x (wi (y+1))) else Aeq N c d b a (a==29) a f g (fun z=>e z) fun A B C=>rc A B (wi (C+1))) else none) else h
def Afd{R:Type}(N:Nat):Nat→Bi7 R
 |0=>fun _ _ _ _ _=>none
 |k+1=>fun a b c d e=>A7o @Aeq N (fun a b c=>Afd N k a b c d e) a b c d e
def A7p(Afd:Az0)(N k:Nat):Aar Al4:=fun R x K=>Afd N k x.1.1 x.1.2.1 x.1.2.2.1 (fun y0=>K .ret (Aab A1j ((y0,()),(())))) (K (.exit 0) (Aab A1k ((()),(()))))
def Bi8(N k:Nat):Aar Al4:=A7p @Afd N k
def Bq6:Aac:=⟨A6g,[]⟩
def A7q:Aac:=⟨Agj,[]⟩
abbrev Cxu(R:Type):=d4->Int->(Bool->Option R)->Option R
abbrev Alp:={R:Type}→Nat→Cxu R
def Bq7(Afd:Az0):Alp:=fun {R} N b c a=>Afd N N b c 0 (fun d=>a d) (a false)
def Adk:Alp:=@Bq7 @Afd
def Djq(N:Nat):Aa0 Bq6 [A7q]:=fun R x C=>Adk N x.1.1 x.1.2.1 (fun y0=>C.1 ((y0,()),(())))
def Aqs(Adk:Alp)(N:Nat):Go.AX.Aae:=Aa9 [true,true] [] false 2 0 Bq6 [A7q] (fun R x C=>Adk N x.1.1 x.1.2.1 (fun y0=>C.1 ((y0,()),(()))))
def B5z(N:Nat):Go.AX.Aae:=Aqs @Adk N
def Djr(N:Nat):List (Nat×Abu):=[(22,Aaa Ao6 (Bw4 N)),(5,Aaa Al4 (Bi8 N N))]
def Cxv(N:Nat):List (Nat×Go.AX.Aae):=[]
def Ai1:Aac:=⟨Cn6,Ceg⟩
def Bcz:Aac:=⟨B39,Bar⟩
def Bzv:Ac8:=.cons .normal Bcz (.nil)
abbrev Co9(R:Type):=d4->Int->Bool->d0->d0->Int->Int->Int->(d4->Int->d0->d0->Option R)->Option R
abbrev Aj9:={R:Type}→Nat→Co9 R
def Bi9(Ack:Aj8)(Adk:Alp):Aj9:=fun {R} N a d i e f b c g h=>if (i=true) then (Ack N a d true e f b c g fun j l m n=>h j l m n) else if ((b==19)=true) then (Adk N a c fun o=>Ack N a d (!o) e f b c g fun p q r s=>h p q r s) else Ack N a d false e f b c g fun t u v w=>h t u v w
def Acf:Aj9:=@Bi9 @Ack @Adk
def An1(Acf:Aj9)(N:Nat):Aar Ai1:=fun R x K=>Acf N x.1.2.1 x.1.2.2.2.1 x.1.2.2.2.2.2.1 x.2.1 x.2.2.1 x.2.2.2.1.1 x.2.2.2.1.2.1 x.2.2.2.1.2.2.1 (fun y0 y1 y2 y3=>K .normal (Aab Bcz (((),y0,(),y1,()),(y2,y3,()))))
def Bzw(N:Nat):Aar Ai1:=An1 @Acf N
def A4t:Code:=Tryz.f24.body.getD .skip
def Aq5:Aac:=⟨[wq9,Akb,Csk,(12,.one (.val .bool))],[]⟩
def A97:Aac:=⟨A1z,[]⟩
def A98:Aac:=⟨[],[]⟩
def Bw5:Ac8:=.cons .ret A97 (.cons .normal A98 (.nil))
abbrev Cjo(R:Type):=d4->Int->Int->Bool->(Bool->Option R)->(Option R)->Option R
abbrev Atg:={R:Type}→Nat→Cjo R
def Bf5(Aax:Afb):Atg:=fun {R} N b a d e c f=>if (e=true) then (c true) else if ((d==29)=true) then (if (0≤a∧a<len b) then (c ((b.getD a.toNat (0,(0,0))).2.2==0)) else none) else if ((d==30)=true) then (Aax N b (wi (a+1)) 30 fun g=>c (!g)) else f
def Agg:Atg:=@Bf5 @Aax
def Bf6(Agg:Atg)(N:Nat):Aar Aq5:=fun R x K=>Agg N x.1.1 x.1.2.1 x.1.2.2.1 x.1.2.2.2.1 (fun y0=>K .ret (Aab A97 ((y0,()),(())))) (K .normal (Aab A98 ((()),(()))))
def Bw6(N:Nat):Aar Aq5:=Bf6 @Agg N
def Bq8:Aac:=⟨A6g,[]⟩
def A7r:Aac:=⟨Agj,[]⟩
abbrev Cxw(R:Type):=d4->Int->(Bool->Option R)->Option R
abbrev Alq:={R:Type}→Nat→Cxw R
def Bq9(Agg:Atg):Alq:=fun {R} N d c b=>if ((decide (c<0))=true) then (b false) else if (0≤c∧c<len d) then (let a:=(d.getD c.toNat (0,(0,0))).1;if ((a==20)=true) then (Agg N d c a (a==20) (fun e=>b e) (b false)) else if ((a==25)=true) then (Agg N d c a (a==25) (fun f=>b f) (b false)) else if ((a==26)=true) then (Agg N d c a (a==26) (fun g=>b g) (b false)) else Agg N d c a (a==27) (fun h=>b h) (b false)) else none
def Adl:Alq:=@Bq9 @Agg
def Djs(N:Nat):Aa0 Bq8 [A7r]:=fun R x C=>Adl N x.1.1 x.1.2.1 (fun y0=>C.1 ((y0,()),(())))
def Aqt(Adl:Alq)(N:Nat):Go.AX.Aae:=Aa9 [true,true] [] false 2 0 Bq8 [A7r] (fun R x C=>Adl N x.1.1 x.1.2.1 (fun y0=>C.1 ((y0,()),(()))))
def B50(N:Nat):Go.AX.Aae:=Aqt @Adl N
def Djt(N:Nat):List (Nat×Abu):=[(16,Aaa Aq5 (Bw6 N))]
def Cxx(N:Nat):List (Nat×Go.AX.Aae):=[(26,Bbc N)]
def Ai2:Aac:=⟨Cn6,Ceg⟩
def Bc0:Aac:=⟨B39,Bar⟩
def Bzx:Ac8:=.cons .normal Bc0 (.nil)
abbrev Cpa(R:Type):=d4->Int->Bool->d0->d0->Int->Int->Int->(d4->Int->d0->d0->Option R)->Option R
abbrev Aka:={R:Type}→Nat→Cpa R
def Bja(Acf:Aj9)(Adl:Alq):Aka:=fun {R} N b c i d e a f g h=>if (i=true) then (Acf N b c true d e a f g fun j l m n=>h j l m n) else if ((a != 19)=true) then (if ((a != 24)=true) then (Adl N b (wi (c-1)) fun o=>Acf N b c o d e a f g fun p q r s=>h p q r s) else Acf N b c false d e a f g fun t u v w=>h t u v w) else Acf N b c false d e a f g fun x y z A=>h x y z A
def Acl:Aka:=@Bja @Acf @Adl
def An2(Acl:Aka)(N:Nat):Aar Ai2:=fun R x K=>Acl N x.1.2.1 x.1.2.2.2.1 x.1.2.2.2.2.2.1 x.2.1 x.2.2.1 x.2.2.2.1.1 x.2.2.2.1.2.1 x.2.2.2.1.2.2.1 (fun y0 y1 y2 y3=>K .normal (Aab Bc0 (((),y0,(),y1,()),(y2,y3,()))))
def Bzy(N:Nat):Aar Ai2:=An2 @Acl N
def Aw7:Code:=Tryz.f22.body.getD .skip
def Apq:Aac:=⟨Cz6,[]⟩
def A32:Aac:=⟨A1z,[]⟩
def A33:Aac:=⟨[],[]⟩
def B2j:Ac8:=.cons .ret A32 (.cons (.exit 0) A33 (.nil))
abbrev Bme(R:Type):=d4->Int->Int->(Bool->Option R)->(Option R)->Option R
abbrev B2k(R:Type):=d4->Int->Int->Option R
abbrev Bbh:={R:Type}→Nat→Nat→Bme R
def Bbi(Aax:Afb){R:Type}(N:Nat)(rc:B2k R):Bme R:=fun a c b d e=>Aax N a b 19 fun f=>if (f=true) then (if (0≤b∧b<len a) then (if (0≤c∧c<len a) then (if (((a.getD b.toNat (0,(0,0))).2.1==(a.getD c.toNat (0,(0,0))).2.1)=true) then (d true) else rc a c (wi (b+1))) else none) else none) else e
def Ahq{R:Type}(N:Nat):Nat→Bme R
 |0=>fun _ _ _ _ _=>none
 |k+1=>fun a b c d e=>Bbi @Aax N (fun a b c=>Ahq N k a b c d e) a b c d e
def Bmf(Ahq:Bbh)(N k:Nat):Aar Apq:=fun R x K=>Ahq N k x.1.1 x.1.2.1 x.1.2.2.1 (fun y0=>K .ret (Aab A32 ((y0,()),(())))) (K (.exit 0) (Aab A33 ((()),(()))))
def Bmg(N k:Nat):Aar Apq:=Bmf @Ahq N k
def Bw7:Aac:=⟨A6g,[]⟩
def Bbj:Aac:=⟨Agj,[]⟩
abbrev C3e(R:Type):=d4->Int->(Bool->Option R)->Option R
abbrev Amt:={R:Type}→Nat→C3e R
def Bw8(Aax:Afb)(Ahq:Bbh):Amt:=fun {R} N c a b=>Aax N c a 20 fun d=>if ((!d)=true) then (b false) else Ahq N N c a (wi (a+1)) (fun e=>b e) (b false)
def Ad4:Amt:=@Bw8 @Aax @Ahq
def Dk7(N:Nat):Aa0 Bw7 [Bbj]:=fun R x C=>Ad4 N x.1.1 x.1.2.1 (fun y0=>C.1 ((y0,()),(())))
def Arx(Ad4:Amt)(N:Nat):Go.AX.Aae:=Aa9 [true,true] [] false 2 0 Bw7 [Bbj] (fun R x C=>Ad4 N x.1.1 x.1.2.1 (fun y0=>C.1 ((y0,()),(()))))
def Cbq(N:Nat):Go.AX.Aae:=Arx @Ad4 N
def Dk8(N:Nat):List (Nat×Abu):=[(9,Aaa Apq (Bmg N N))]
def C3f(N:Nat):List (Nat×Go.AX.Aae):=[(26,Bbc N)]
def A4u:Code:=Tryz.f23.body.getD .skip
def Ary:Code:=Tryz.f59.body.getD .skip
def Al5:Code:=Tryz.f98.body.getD .skip
def Aw8:Code:=Tryz.f130.body.getD .skip
def Apr:Aac:=⟨Cz6,[]⟩
def A34:Aac:=⟨B38,[]⟩
def A35:Aac:=⟨[],[]⟩
def B2l:Ac8:=.cons .ret A34 (.cons (.exit 0) A35 (.nil))
abbrev Bmh(R:Type):=d4->Int->Int->(Int->Option R)->(Option R)->Option R
abbrev B2m(R:Type):=d4->Int->Int->Option R
abbrev Bbk:={R:Type}→Nat→Nat→Bmh R
def Bbl{R:Type}(N:Nat)(rc:B2m R):Bmh R:=fun b c a d e=>if ((decide (a<(len b)))=true) then (if (0≤a∧a<len b) then (if (((b.getD a.toNat (0,(0,0))).1==19)=true) then (if (0≤a∧a<len b) then (if (((b.getD a.toNat (0,(0,0))).2.1==c)=true) then (d a) else rc b c (wi (a+1))) else none) else rc b c (wi (a+1))) else none) else e
def Ahr{R:Type}(N:Nat):Nat→Bmh R
 |0=>fun _ _ _ _ _=>none
 |k+1=>fun a b c d e=>Bbl N (fun a b c=>Ahr N k a b c d e) a b c d e
def Bmi(Ahr:Bbk)(N k:Nat):Aar Apr:=fun R x K=>Ahr N k x.1.1 x.1.2.1 x.1.2.2.1 (fun y0=>K .ret (Aab A34 ((y0,()),(())))) (K (.exit 0) (Aab A35 ((()),(()))))
def Bmj(N k:Nat):Aar Apr:=Bmi @Ahr N k
def Bw9:Aac:=⟨A6g,[]⟩
def Bbm:Aac:=⟨Aio,[]⟩
abbrev C3g(R:Type):=d4->Int->(Int->Option R)->Option R
abbrev Aw9:={R:Type}→Nat→C3g R
def Bxa(Ahr:Bbk):Aw9:=fun {R} N b c a=>Ahr N N b c 0 (fun d=>a d) (a (-1))
def Ajr:Aw9:=@Bxa @Ahr
def Dk9(N:Nat):Aa0 Bw9 [Bbm]:=fun R x C=>Ajr N x.1.1 x.1.2.1 (fun y0=>C.1 ((y0,()),(())))
def Bjb(Ajr:Aw9)(N:Nat):Go.AX.Aae:=Aa9 [true,true] [] false 2 0 Bw9 [Bbm] (fun R x C=>Ajr N x.1.1 x.1.2.1 (fun y0=>C.1 ((y0,()),(()))))
def Cbr(N:Nat):Go.AX.Aae:=Bjb @Ajr N
def Dla(N:Nat):List (Nat×Abu):=[(5,Aaa Apr (Bmj N N))]
def C3h(N:Nat):List (Nat×Go.AX.Aae):=[]
def Akv:Aac:=⟨C8k,[]⟩
def Axr:Aac:=⟨C8k,[]⟩
def Bsi:Ac8:=.cons (.exit 0) Axr (.nil)
abbrev Bc1(R:Type):=d4->Int->(d4->Int->Option R)->Option R
abbrev Bsj(R:Type):=d4->Int->Option R
abbrev Avm:={R:Type}→Nat→Nat→Bc1 R
def Avn(Aax:Afb){R:Type}(N:Nat)(rc:Bsj R):Bc1 R:=fun a b c=>Aax N a b 19 fun d=>if (d=true) then (rc a (wi (b+1))) else c a b
def Adj{R:Type}(N:Nat):Nat→Bc1 R
 |0=>fun _ _ _=>none
 |k+1=>fun a b c=>Avn @Aax N (fun a b=>Adj N k a b c) a b c
def A1l(Adj:Avm)(N k:Nat):Aar Akv:=fun R x K=>Adj N k x.1.1 x.1.2.1 (fun y0 y1=>K (.exit 0) (Aab Axr ((y0,y1,()),(()))))
def Bc2(N k:Nat):Aar Akv:=A1l @Adj N k
def Al9:Aac:=⟨C8k,[]⟩
def A36:Aac:=⟨B38,[]⟩
def Bos:Ac8:=.cons .ret A36 (.nil)
abbrev Cbs(R:Type):=d4->Int->(Int->Option R)->Option R
abbrev Ao7:={R:Type}→Nat→Cbs R
def Az1(Aax:Afb):Ao7:=fun {R} N b a c=>Aax N b a 20 fun d=>if (d=true) then (if (0≤a∧a<len b) then (c ((b.getD a.toNat (0,(0,0))).2.1)) else none) else c 0
def Aeb:Ao7:=@Az1 @Aax
def Az2(Aeb:Ao7)(N:Nat):Aar Al9:=fun R x K=>Aeb N x.1.1 x.1.2.1 (fun y0=>K .ret (Aab A36 ((y0,()),(()))))
def Bot(N:Nat):Aar Al9:=Az2 @Aeb N
def Bjc:Aac:=⟨A6g,[]⟩
def A1m:Aac:=⟨Aio,[]⟩
abbrev Cpb(R:Type):=d4->Int->(Int->Option R)->Option R
abbrev Arz:={R:Type}→Nat→Cpb R
def Bjd(Ajr:Aw9)(Adj:Avm)(Aax:Afb)(Aeb:Ao7):Arz:=fun {R} N c e d=>Ajr N c e fun f=>Adj N N c f fun a b=>Aax N a b 18 fun g=>if (g=true) then (Aeb N a (wi (b+1)) fun h=>d h) else Aeb N a b fun i=>d i
def Aft:Arz:=@Bjd @Ajr @Adj @Aax @Aeb
def Dgq(N:Nat):Aa0 Bjc [A1m]:=fun R x C=>Aft N x.1.1 x.1.2.1 (fun y0=>C.1 ((y0,()),(())))
def Bje(Aft:Arz)(N:Nat):Go.AX.Aae:=Aa9 [true,true] [] false 2 0 Bjc [A1m] (fun R x C=>Aft N x.1.1 x.1.2.1 (fun y0=>C.1 ((y0,()),(()))))
def Bzz(N:Nat):Go.AX.Aae:=Bje @Aft N
def Dgr(N:Nat):List (Nat×Abu):=[(5,Aaa Akv (Bc2 N N)),(12,Aaa Al9 (Bot N))]
def Cpc(N:Nat):List (Nat×Go.AX.Aae):=[(130,Cbr N),(26,Bbc N)]
def Alg:Aac:=⟨[wq9,Akb,Bbv,Bt7],[]⟩
def Av8:Aac:=⟨A1z,[]⟩
def Av9:Aac:=⟨[],[]⟩
def Bou:Ac8:=.cons .ret Av8 (.cons (.exit 0) Av9 (.nil))
abbrev A99(R:Type):=d4->Int->Int->Int->(Bool->Option R)->(Option R)->Option R
abbrev Bov(R:Type):=d4->Int->Int->Int->Option R
abbrev Az3:={R:Type}→Nat→Nat→A99 R
def At6(Aft:Arz){R:Type}(N:Nat)(rc:Bov R):A99 R:=fun a b c d e g=>if ((decide (d≤(len a)))=true) then (if ((c==b)=true) then (e false) else Aft N a c fun f=>if ((f==0)=true) then (e true) else rc a b f (wi (d+1))) else g
def Adr{R:Type}(N:Nat):Nat→A99 R
 |0=>fun _ _ _ _ _ _=>none
 |k+1=>fun a b c d e f=>At6 @Aft N (fun a b c d=>Adr N k a b c d e f) a b c d e f
def Baa(Adr:Az3)(N k:Nat):Aar Alg:=fun R x K=>Adr N k x.1.1 x.1.2.1 x.1.2.2.1 x.1.2.2.2.1 (fun y0=>K .ret (Aab Av8 ((y0,()),(())))) (K (.exit 0) (Aab Av9 ((()),(()))))
def Bab(N k:Nat):Aar Alg:=Baa @Adr N k
def Bjf:Aac:=⟨A6g,[]⟩
def A1n:Aac:=⟨Agj,[]⟩
abbrev Cpd(R:Type):=d4->Int->(Bool->Option R)->Option R
abbrev Auz:={R:Type}→Nat→Cpd R
def A7s(Aft:Arz)(Adr:Az3):Auz:=fun {R} N b c a=>Aft N b c fun d=>if ((d==0)=true) then (a false) else Adr N N b c d 0 (fun e=>a e) (a true)
def Ags:Auz:=@A7s @Aft @Adr
def Dgs(N:Nat):Aa0 Bjf [A1n]:=fun R x C=>Ags N x.1.1 x.1.2.1 (fun y0=>C.1 ((y0,()),(())))
def Bjg(Ags:Auz)(N:Nat):Go.AX.Aae:=Aa9 [true,true] [] false 2 0 Bjf [A1n] (fun R x C=>Ags N x.1.1 x.1.2.1 (fun y0=>C.1 ((y0,()),(()))))
def Bz0(N:Nat):Go.AX.Aae:=Bjg @Ags N
def Dgt(N:Nat):List (Nat×Abu):=[(13,Aaa Alg (Bab N N))]
def Cpe(N:Nat):List (Nat×Go.AX.Aae):=[(98,Bzz N)]
def Aq6:Aac:=⟨[wq9,Akb,B37,C8d],[]⟩
def Bac:Aac:=⟨A1z,[]⟩
def Bad:Aac:=⟨[],[]⟩
def Bxb:Ac8:=.cons .ret Bac (.cons .normal Bad (.nil))
abbrev Cjp(R:Type):=d4->Int->Int->Bool->(Bool->Option R)->(Option R)->Option R
abbrev Ath:={R:Type}→Nat→Cjp R
def Bf7(Ags:Auz):Ath:=fun {R} N a b d e c f=>if (e=true) then (if (0≤b∧b<len a) then (Ags N a ((a.getD b.toNat (0,(0,0))).2.1) fun g=>c g) else none) else if ((d==30)=true) then (if (0≤b∧b<len a) then (Ags N a ((a.getD b.toNat (0,(0,0))).2.2) fun h=>c h) else none) else f
def Agh:Ath:=@Bf7 @Ags
def Bf8(Agh:Ath)(N:Nat):Aar Aq6:=fun R x K=>Agh N x.1.1 x.1.2.1 x.1.2.2.1 x.1.2.2.2.1 (fun y0=>K .ret (Aab Bac ((y0,()),(())))) (K .normal (Aab Bad ((()),(()))))
def Bxc(N:Nat):Aar Aq6:=Bf8 @Agh N
def Bra:Aac:=⟨A6g,[]⟩
def A7t:Aac:=⟨Agj,[]⟩
abbrev Cxy(R:Type):=d4->Int->(Bool->Option R)->Option R
abbrev Alr:={R:Type}→Nat→Cxy R
def Brb(Agh:Ath):Alr:=fun {R} N d c b=>if (0≤c∧c<len d) then (let a:=(d.getD c.toNat (0,(0,0))).1;if ((a==20)=true) then (Agh N d c a (a==20) (fun e=>b e) (b false)) else if ((a==21)=true) then (Agh N d c a (a==21) (fun f=>b f) (b false)) else if ((a==22)=true) then (Agh N d c a (a==22) (fun g=>b g) (b false)) else Agh N d c a (a==29) (fun h=>b h) (b false)) else none
def Adm:Alr:=@Brb @Agh
def Dju(N:Nat):Aa0 Bra [A7t]:=fun R x C=>Adm N x.1.1 x.1.2.1 (fun y0=>C.1 ((y0,()),(())))
def Aqu(Adm:Alr)(N:Nat):Go.AX.Aae:=Aa9 [true,true] [] false 2 0 Bra [A7t] (fun R x C=>Adm N x.1.1 x.1.2.1 (fun y0=>C.1 ((y0,()),(()))))
def B51(N:Nat):Go.AX.Aae:=Aqu @Adm N
def Djv(N:Nat):List (Nat×Abu):=[(12,Aaa Aq6 (Bxc N))]
def Cxz(N:Nat):List (Nat×Go.AX.Aae):=[(59,Bz0 N)]
def Agz:Aac:=⟨B39,Bar⟩
def A1o:Aac:=⟨[(7,.one (.slf 32))],B9q⟩
def Bz1:Ac8:=.cons (.exit 0) A1o (.nil)
abbrev Bjh(R:Type):=d4->Int->d0->d0->(d0->Option R)->Option R
abbrev Bz2(R:Type):=d4->Int->d0->d0->Option R
abbrev Al6:={R:Type}→Nat→Nat→Bjh R
def A7u(Acc:Aje)(Acl:Aka)(Ad4:Amt)(Adm:Alr){R:Type}(N:Nat)(rc:Bz2 R):Bjh R:=fun b a d c h=>if ((decide (a<(len b)))=true) then (if (0≤a∧a<len b) then (let e:=(b.getD a.toNat (0,(0,0))).1;let f:=(b.getD a.toNat (0,(0,0))).2.1;let g:=(b.getD a.toNat (0,(0,0))).2.2;Acc N b a fun i=>if (i=true) then (Acl N b a true d c e f g fun j l m n=>rc j (wi (l+1)) m n) else Ad4 N b a fun o=>if (o=true) then (Acl N b a true d c e f g fun p q r s=>rc p (wi (q+1)) r s) else Adm N b a fun t=>Acl N b a t d c e f g fun u v w x=>rc u (wi (v+1)) w x) else none) else h c
def Abt{R:Type}(N:Nat):Nat→Bjh R
 |0=>fun _ _ _ _ _=>none
 |k+1=>fun a b c d e=>A7u @Acc @Acl @Ad4 @Adm N (fun a b c d=>Abt N k a b c d e) a b c d e
def An3(Abt:Al6)(N k:Nat):Aar Agz:=fun R x K=>Abt N k x.1.2.1 x.1.2.2.2.1 x.2.1 x.2.2.1 (fun y0=>K (.exit 0) (Aab A1o (((),()),(y0,()))))
def Bji(N k:Nat):Aar Agz:=An3 @Abt N k
def Bxd:Aac:=⟨A2u,[]⟩
def Bbn:Aac:=⟨Cz3,B9q⟩
abbrev C3i(R:Type):=(List UInt8)->d5->d4->d1->Int->Int->(Int->d0->Option R)->Option R
abbrev Bae:={R:Type}→Nat→C3i R
def Bjj(Ac0:Ak0)(Abt:Al6):Bae:=fun {R} N d e a f g h b=>Ac0 N d e a f g h fun c i=>if ((c != 0)=true) then (b c ([]:List Int)) else Abt N N a 0 i ([]:List Int) fun j=>b 0 j
def An4:Bae:=@Bjj @Ac0 @Abt
def Dlb(N:Nat):Aa0 Bxd [Bbn]:=fun R x C=>An4 N x.1.1.1 x.1.1.2.1 x.1.1.2.2.1 x.1.1.2.2.2.1 x.1.1.2.2.2.2.1 x.1.1.2.2.2.2.2.1 (fun y0 y1=>C.1 (((),y0,()),(y1,())))
def Cbt(An4:Bae)(N:Nat):Go.AX.Aae:=Aa9 [true] [] false 1 0 Bxd [Bbn] (fun R x C=>An4 N x.1.1.1 x.1.1.2.1 x.1.1.2.2.1 x.1.1.2.2.2.1 x.1.1.2.2.2.2.1 x.1.1.2.2.2.2.2.1 (fun y0 y1=>C.1 (((),y0,()),(y1,()))))
def Cbu(N:Nat):Go.AX.Aae:=Cbt @An4 N
def Dlc(N:Nat):List (Nat×Abu):=[(32,Aaa Aix (Bzm N)),(30,Aaa Aiy (Bzo N)),(28,Aaa Aiz (Bzq N)),(26,Aaa Ai0 (Bzs N)),(24,Aaa Ai1 (Bzw N)),(22,Aaa Ai2 (Bzy N)),(15,Aaa Agz (Bji N N))]
def C3j(N:Nat):List (Nat×Go.AX.Aae):=[(20,B2c N),(21,Bw2 N),(26,Bbc N),(27,Bq3 N),(25,B5z N),(24,B50 N),(22,Cbq N),(23,B51 N)]
def Ati:Code:=Tryz.f8.body.getD .skip
def Amp:Aac:=⟨[Cig,Dev,Axt],[]⟩
def Az4:Aac:=⟨A1z,[]⟩
def Az5:Aac:=⟨[],[]⟩
def Bxe:Ac8:=.cons .ret Az4 (.cons (.exit 0) Az5 (.nil))
abbrev Bf9(R:Type):=d0->d0->Int->(Bool->Option R)->(Option R)->Option R
abbrev Bxf(R:Type):=d0->d0->Int->Option R
abbrev A37:={R:Type}→Nat→Nat→Bf9 R
def A38{R:Type}(N:Nat)(rc:Bxf R):Bf9 R:=fun b c a d e=>if ((decide (a<(len b)))=true) then (if (0≤a∧a<len b) then (if (0≤a∧a<len c) then (if (((b.getD a.toNat 0) != (c.getD a.toNat 0))=true) then (d false) else rc b c (wi (a+1))) else none) else none) else e
def Af1{R:Type}(N:Nat):Nat→Bf9 R
 |0=>fun _ _ _ _ _=>none
 |k+1=>fun a b c d e=>A38 N (fun a b c=>Af1 N k a b c d e) a b c d e
def Bga(Af1:A37)(N k:Nat):Aar Amp:=fun R x K=>Af1 N k x.1.1 x.1.2.1 x.1.2.2.1 (fun y0=>K .ret (Aab Az4 ((y0,()),(())))) (K (.exit 0) (Aab Az5 ((()),(()))))
def Bgb(N k:Nat):Aar Amp:=Bga @Af1 N k
def Bmk:Aac:=⟨[Cig,Dev],[]⟩
def A39:Aac:=⟨Agj,[]⟩
abbrev Cs7(R:Type):=d0->d0->(Bool->Option R)->Option R
abbrev A2d:={R:Type}→Nat→Cs7 R
def Bml(Af1:A37):A2d:=fun {R} N b c a=>if (((len b) != (len c))=true) then (a false) else Af1 N N b c 0 (fun d=>a d) (a true)
def Alz:A2d:=@Bml @Af1
def Dh0(N:Nat):Aa0 Bmk [A39]:=fun R x C=>Alz N x.1.1 x.1.2.1 (fun y0=>C.1 ((y0,()),(())))
def B2n(Alz:A2d)(N:Nat):Go.AX.Aae:=Aa9 [true,true] [] false 2 0 Bmk [A39] (fun R x C=>Alz N x.1.1 x.1.2.1 (fun y0=>C.1 ((y0,()),(()))))
def B2o(N:Nat):Go.AX.Aae:=B2n @Alz N
def Dh1(N:Nat):List (Nat×Abu):=[(9,Aaa Amp (Bgb N N))]
def Cs8(N:Nat):List (Nat×Go.AX.Aae):=[]
def Brc(N:Nat):Go.AX.Aae:=B3q
def Bc3:Aac:=⟨[(0,.agg [.val .str,.val z3,.val z4,.val z1,.val (.int .i64),.val (.int .i64)])],[]⟩
def Axs:Aac:=⟨Agj,[]⟩
abbrev Ce2(R:Type):=(List UInt8)->d5->d4->d1->Int->Int->(Bool->Option R)->Option R
abbrev Bc4:={R:Type}→Nat→Ce2 R
def Bc5(Aiq:Avg)(Aqi:Bda)(An4:Bae)(Alz:A2d):Bc4:=fun {R} N b c d e f g a=>Aiq N b c d e f g 400 fun h=>if (h=true) then (a true) else Aqi N b c d e f g fun i j=>An4 N b c d e f g fun l m=>if ((i==l)=true) then (Alz N j m fun n=>if (n=true) then (a true) else a false) else a false
def Au0:Bc4:=@Bc5 @Aiq @Aqi @An4 @Alz
def Dc5(N:Nat):Aa0 Bc3 [Axs]:=fun R x C=>Au0 N x.1.1.1 x.1.1.2.1 x.1.1.2.2.1 x.1.1.2.2.2.1 x.1.1.2.2.2.2.1 x.1.1.2.2.2.2.2.1 (fun y0=>C.1 ((y0,()),(())))
def Ce3(Au0:Bc4)(N:Nat):Go.AX.Aae:=Aa9 [true] [] false 1 0 Bc3 [Axs] (fun R x C=>Au0 N x.1.1.1 x.1.1.2.1 x.1.1.2.2.1 x.1.1.2.2.2.1 x.1.1.2.2.2.2.1 x.1.1.2.2.2.2.2.1 (fun y0=>C.1 ((y0,()),(()))))
def Bsk(N:Nat):Go.AX.Aae:=Ce3 @Au0 N
def Dc6(N:Nat):List (Nat×Abu):=[]
def Ce4(N:Nat):List (Nat×Go.AX.Aae):=[(5,Brp N),(6,Chm N),(7,Cbu N),(8,B2o N),(9,Brc N)]
end
end Q

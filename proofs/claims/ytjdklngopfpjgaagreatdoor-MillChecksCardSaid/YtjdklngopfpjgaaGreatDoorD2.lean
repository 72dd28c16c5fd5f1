/- Part D2 of the proof. -/
import Derived.Test.YtjdklngopfpjgaaGreatDoorD1
open Go Go.AX Go.Proofs
namespace Q
noncomputable section
set_option maxRecDepth 100000
set_option linter.unusedVariables false
def A46(Aeb:Aq2)(N:Nat):Aao Aml:=fun R x K=>Aeb N x.1.2.1 x.1.2.2.1 x.2.1.1 x.2.1.2.1 x.2.1.2.2.1 (fun y0=>K .ret (Aab Azw ((y0,()),(())))) (K .normal (Aab Azx ((()),(()))))
def Bg8(N:Nat):Aao Aml:=A46 @Aeb N
def Bcy:Aac:=⟨Cjd,[]⟩
def Ayf:Aac:=⟨Aun,[]⟩
abbrev B91(R:Type):=Int->Int->Int->(Int->Option R)->Option R
abbrev Aiv:={R:Type}→Nat→B91 R
def Bcz(Aeb:Aq2):Aiv:=fun {R} N a c d b=>if ((a==20)=true) then (Aeb N a (a==20) a c d (fun e=>b e) (b 0)) else if ((a==21)=true) then (Aeb N a (a==21) a c d (fun f=>b f) (b 0)) else if ((a==22)=true) then (Aeb N a (a==22) a c d (fun g=>b g) (b 0)) else if ((a==27)=true) then (Aeb N a (a==27) a c d (fun h=>b h) (b 0)) else Aeb N a (a==29) a c d (fun i=>b i) (b 0)
def Abj:Aiv:=@Bcz @Aeb
def Cqu(N:Nat):Ab0 Bcy [Ayf]:=fun R x C=>Abj N x.1.1.1 x.1.1.2.1 x.1.1.2.2.1 (fun y0=>C.1 ((y0,()),(())))
def Anq(Abj:Aiv)(N:Nat):Go.AX.Aak:=Ac1 [true] [] false 1 0 Bcy [Ayf] (fun R x C=>Abj N x.1.1.1 x.1.1.2.1 x.1.1.2.2.1 (fun y0=>C.1 ((y0,()),(()))))
def Bc0(N:Nat):Go.AX.Aak:=Anq @Abj N
def Cqv(N:Nat):List (Nat×Ac4):=[(14,Aaa Aml (Bg8 N))]
def B92(N:Nat):List (Nat×Go.AX.Aak):=[]
def Agf:Aac:=⟨[wq3,Cd0,Cd1,Cd4],Bou⟩
def Arg:Aac:=⟨Cnq,Cjh⟩
def Arh:Aac:=⟨[Ay3,(4,.one (.ptr 33))],[(32,.cells 130 [(.slf 34),(.slf 35)]),(33,.cells 130 [(.slf 36),(.slf 37)]),Ci2,Cr4,Cr5,Cr6]⟩
def Bd6:Ack:=.cons .ret Arg (.cons (.exit 4) Arh (.nil))
abbrev A1z(R:Type):=Int->(List UInt8)->d3->d2->d1->Int->Int->d0->d0->d0->d0->(Bool->d0->d0->Option R)->(d0->d0->d0->d0->Option R)->Option R
abbrev Bd7(R:Type):=Int->(List UInt8)->d3->d2->d1->Int->Int->d0->d0->d0->d0->Option R
abbrev Al0:={R:Type}→Nat→Nat→A1z R
def A10(Abj:Aiv){R:Type}(N:Nat)(rc:Bd7 R):A1z R:=fun a i j d l m n g h c b o p=>if ((decide (a<(len d)))=true) then (if (0≤a∧a<len d) then (Abj N ((d.getD a.toNat (0,(0,0))).1) ((d.getD a.toNat (0,(0,0))).2.1) ((d.getD a.toNat (0,(0,0))).2.2) fun e=>if ((decide (e > 0))=true) then (if (0≤e∧e<len c) then (let f:=(c.getD e.toNat 0);if ((decide (f<0))=true) then (o false c b) else if (0≤e∧e<len c) then (if (0≤f∧f<len b) then (if (0≤a∧a<len b) then (if (((b.getD f.toNat 0) != (b.getD a.toNat 0))=true) then (o false c b) else rc (wi (a+1)) i j d l m n g h c b) else none) else none) else none) else none) else rc (wi (a+1)) i j d l m n g h c b) else none) else p g h c b
def Abq{R:Type}(N:Nat):Nat→A1z R
 |0=>fun _ _ _ _ _ _ _ _ _ _ _ _ _=>none
 |k+1=>fun a b c d e f g h i j l m n=>A10 @Abj N (fun a b c d e f g h i j l=>Abq N k a b c d e f g h i j l m n) a b c d e f g h i j l m n
def Anl(Abq:Al0)(N k:Nat):Aao Agf:=fun R x K=>Abq N k x.1.2.2.2.1 x.2.1.1 x.2.1.2.1 x.2.1.2.2.1 x.2.1.2.2.2.1 x.2.1.2.2.2.2.1 x.2.1.2.2.2.2.2.1 x.2.2.2.2.1 x.2.2.2.2.2.1 x.2.2.2.2.2.2.1 x.2.2.2.2.2.2.2.1 (fun y0 y1 y2=>K .ret (Aab Arg (((),y0,()),(((),(),()),y1,y2,())))) (fun y0 y1 y2 y3=>K (.exit 4) (Aab Arh (((),(),()),(((),(),()),((),(),()),y0,y1,y2,y3,()))))
def A11(N k:Nat):Aao Agf:=Anl @Abq N k
def A9p:Aac:=⟨A6d,[]⟩
def Av8:Aac:=⟨[(0,.agg [(.slf 32),(.slf 33)]),(1,.one (.val .bool))],Cd6⟩
abbrev B5p(R:Type):=(List UInt8)->d3->d2->d1->Int->Int->(Bool->d0->d0->Option R)->Option R
abbrev Aql:={R:Type}→Nat→B5p R
def A9q(Ab9:Amk)(Abv:Alz)(Abq:Al0):Aql:=fun {R} N e f a g h d c=>let b:=(wi (d+1));if ((0≤b)∧((b≤b)∧((b*8)≤70368744177664))) then (if ((0≤(len a))∧(((len a)≤(len a))∧(((len a)*8)≤70368744177664))) then (Ab9 N N 0 e f a g h d ([]:List Int) ([]:List Int) (List.replicate (Int.toNat b) 0) (List.replicate (Int.toNat (len a)) 0) fun i j l m n o p q r s=>Abv N N 0 0 i j l m n o p q r s (fun t u v=>c t u v) fun w x y z A B C D E F=>Abq N N 0 w x y z A B C D E F (fun G H I=>c G H I) fun M O J L=>c true J L) else none) else none
def Agr:Aql:=@A9q @Ab9 @Abv @Abq
def Cpt(N:Nat):Ab0 A9p [Av8]:=fun R x C=>Agr N x.1.1.1 x.1.1.2.1 x.1.1.2.2.1 x.1.1.2.2.2.1 x.1.1.2.2.2.2.1 x.1.1.2.2.2.2.2.1 (fun y0 y1 y2=>C.1 ((((),(),()),y0,()),(y1,y2,())))
def A9r(Agr:Aql)(N:Nat):Go.AX.Aak:=Ac1 [true] [] false 1 0 A9p [Av8] (fun R x C=>Agr N x.1.1.1 x.1.1.2.1 x.1.1.2.2.1 x.1.1.2.2.2.1 x.1.1.2.2.2.2.1 x.1.1.2.2.2.2.2.1 (fun y0 y1 y2=>C.1 ((((),(),()),y0,()),(y1,y2,()))))
def Bm7(N:Nat):Go.AX.Aak:=A9r @Agr N
def Cpu(N:Nat):List (Nat×Ac4):=[(7,Aaa Ag5 (A45 N N)),(24,Aaa Ah1 (Bd3 N)),(17,Aaa Age (A1y N N)),(37,Aaa Agf (A11 N N))]
def B5q(N:Nat):List (Nat×Go.AX.Aak):=[(174,Bc0 N)]
def Aq3:Code:=Tryz.f111.body.getD .skip
def Aju:Code:=Tryz.f175.body.getD .skip
def Ajl:Aac:=⟨[Am9,Ay3,A84,Cnl],A2m⟩
def Azy:Aac:=⟨Ci7,[]⟩
def Azz:Aac:=⟨Ci8,[]⟩
def Bg9:Ack:=.cons .ret Azy (.cons .normal Azz (.nil))
abbrev Bxi(R:Type):=Int->Int->Bool->Int->Int->Int->(Int->Option R)->(Int->Option R)->Option R
abbrev Amm:={R:Type}→Nat→Bxi R
def Adk:Amm:=fun {R} N b c d h e f a g=>if (d=true) then (a (wi (e+1))) else if ((c==24)=true) then (a (wi (2+f))) else g b
def Aq4(Adk:Amm)(N:Nat):Aao Ajl:=fun R x K=>Adk N x.1.1 x.1.2.2.1 x.1.2.2.2.1 x.2.1.1 x.2.1.2.1 x.2.1.2.2.1 (fun y0=>K .ret (Aab Azy ((y0,()),(())))) (fun y0=>K .normal (Aab Azz ((y0,()),(()))))
def Bha(N:Nat):Aao Ajl:=Aq4 @Adk N
def Ajm:Aac:=⟨[Am9,Ay3,A84,(18,.one (.val .bool))],A2m⟩
def Az0:Aac:=⟨Ci7,[]⟩
def Az1:Aac:=⟨Ci8,[]⟩
def Bhb:Ack:=.cons .ret Az0 (.cons .normal Az1 (.nil))
abbrev Bxj(R:Type):=Int->Int->Bool->Int->Int->Int->(Int->Option R)->(Int->Option R)->Option R
abbrev Ak9:={R:Type}→Nat→Bxj R
def A47(Adk:Amm):Ak9:=fun {R} N c a h e d f b g=>if (h=true) then (b (wi (c-1))) else if ((a==13)=true) then (b (wi (c-2))) else if ((a==15)=true) then (b (wi (c-3))) else if ((a==18)=true) then (b d) else if ((a==23)=true) then (Adk N c a (a==23) e d f (fun i=>b i) fun j=>g j) else Adk N c a (a==28) e d f (fun l=>b l) fun m=>g m
def Abw:Ak9:=@A47 @Adk
def Aq5(Abw:Ak9)(N:Nat):Aao Ajm:=fun R x K=>Abw N x.1.1 x.1.2.2.1 x.1.2.2.2.1 x.2.1.1 x.2.1.2.1 x.2.1.2.2.1 (fun y0=>K .ret (Aab Az0 ((y0,()),(())))) (fun y0=>K .normal (Aab Az1 ((y0,()),(()))))
def Bhc(N:Nat):Aao Ajm:=Aq5 @Abw N
def Ajn:Aac:=⟨[Am9,Ay3,A84,Bop],A2m⟩
def Az2:Aac:=⟨Ci7,[]⟩
def Az3:Aac:=⟨Ci8,[]⟩
def Bhd:Ack:=.cons .ret Az2 (.cons .normal Az3 (.nil))
abbrev Bxk(R:Type):=Int->Int->Bool->Int->Int->Int->(Int->Option R)->(Int->Option R)->Option R
abbrev Ala:={R:Type}→Nat→Bxk R
def A48(Abw:Ak9):Ala:=fun {R} N b a h d e f c g=>if (h=true) then (c (wi (b+1))) else if ((a==3)=true) then (Abw N b a (a==3) d e f (fun i=>c i) fun j=>g j) else if ((a==6)=true) then (Abw N b a (a==6) d e f (fun l=>c l) fun m=>g m) else if ((a==9)=true) then (Abw N b a (a==9) d e f (fun n=>c n) fun o=>g o) else if ((a==16)=true) then (Abw N b a (a==16) d e f (fun p=>c p) fun q=>g q) else if ((a==14)=true) then (Abw N b a (a==14) d e f (fun r=>c r) fun s=>g s) else if ((a==21)=true) then (Abw N b a (a==21) d e f (fun t=>c t) fun u=>g u) else if ((a==22)=true) then (Abw N b a (a==22) d e f (fun v=>c v) fun w=>g w) else if ((a==29)=true) then (Abw N b a (a==29) d e f (fun x=>c x) fun y=>g y) else if ((a==25)=true) then (Abw N b a (a==25) d e f (fun z=>c z) fun A=>g A) else Abw N b a (a==27) d e f (fun B=>c B) fun C=>g C
def Aca:Ala:=@A48 @Abw
def Aq6(Aca:Ala)(N:Nat):Aao Ajn:=fun R x K=>Aca N x.1.1 x.1.2.2.1 x.1.2.2.2.1 x.2.1.1 x.2.1.2.1 x.2.1.2.2.1 (fun y0=>K .ret (Aab Az2 ((y0,()),(())))) (fun y0=>K .normal (Aab Az3 ((y0,()),(()))))
def Bhe(N:Nat):Aao Ajn:=Aq6 @Aca N
def Bc1:Aac:=⟨[B4y,Am9],[]⟩
def Ayg:Aac:=⟨Aun,[]⟩
abbrev B93(R:Type):=Int->Int->Int->Int->(Int->Option R)->Option R
abbrev Arr:={R:Type}→Nat→B93 R
def Bc2(Aca:Ala):Arr:=fun {R} N a c d e b=>if ((a==1)=true) then (Aca N e a (a==1) a c d (fun f=>b f) fun g=>b g) else if ((a==2)=true) then (Aca N e a (a==2) a c d (fun h=>b h) fun i=>b i) else if ((a==4)=true) then (Aca N e a (a==4) a c d (fun j=>b j) fun l=>b l) else if ((a==5)=true) then (Aca N e a (a==5) a c d (fun m=>b m) fun n=>b n) else if ((a==7)=true) then (Aca N e a (a==7) a c d (fun o=>b o) fun p=>b p) else if ((a==8)=true) then (Aca N e a (a==8) a c d (fun q=>b q) fun r=>b r) else if ((a==10)=true) then (Aca N e a (a==10) a c d (fun s=>b s) fun t=>b t) else Aca N e a (a==11) a c d (fun u=>b u) fun v=>b v
def Agx:Arr:=@Bc2 @Aca
def Cqw(N:Nat):Ab0 Bc1 [Ayg]:=fun R x C=>Agx N x.1.1.1 x.1.1.2.1 x.1.1.2.2.1 x.1.2.1 (fun y0=>C.1 ((y0,()),(())))
def Bc3(Agx:Arr)(N:Nat):Go.AX.Aak:=Ac1 [true,true] [] false 2 0 Bc1 [Ayg] (fun R x C=>Agx N x.1.1.1 x.1.1.2.1 x.1.1.2.2.1 x.1.2.1 (fun y0=>C.1 ((y0,()),(()))))
def Bp1(N:Nat):Go.AX.Aak:=Bc3 @Agx N
def Cqx(N:Nat):List (Nat×Ac4):=[(60,Aaa Ajl (Bha N)),(42,Aaa Ajm (Bhc N)),(20,Aaa Ajn (Bhe N))]
def B94(N:Nat):List (Nat×Go.AX.Aak):=[]
def Anr:Code:=Tryz.f176.body.getD .skip
def Alb:Aac:=⟨[A1p,(16,.one (.val .bool))],[]⟩
def Az4:Aac:=⟨Bbt,[]⟩
def Az5:Aac:=⟨[],[]⟩
def Bhf:Ack:=.cons .ret Az4 (.cons .normal Az5 (.nil))
abbrev Bxl(R:Type):=Int->Bool->(Int->Option R)->(Option R)->Option R
abbrev Aor:={R:Type}→Nat→Bxl R
def Ad0:Aor:=fun {R} N b c a d=>if (c=true) then (a 2) else if ((b==15)=true) then (a 3) else d
def Av9(Ad0:Aor)(N:Nat):Aao Alb:=fun R x K=>Ad0 N x.1.1 x.1.2.1 (fun y0=>K .ret (Aab Az4 ((y0,()),(())))) (K .normal (Aab Az5 ((()),(()))))
def Bhg(N:Nat):Aao Alb:=Av9 @Ad0 N
def Alc:Aac:=⟨[A1p,Cni],[]⟩
def Az6:Aac:=⟨Bbt,[]⟩
def Az7:Aac:=⟨[],[]⟩
def Bhh:Ack:=.cons .ret Az6 (.cons .normal Az7 (.nil))
abbrev Bxm(R:Type):=Int->Bool->(Int->Option R)->(Option R)->Option R
abbrev Amn:={R:Type}→Nat→Bxm R
def A49(Ad0:Aor):Amn:=fun {R} N a d b c=>if (d=true) then (b 1) else if ((a==16)=true) then (Ad0 N a (a==16) (fun e=>b e) c) else if ((a==14)=true) then (Ad0 N a (a==14) (fun f=>b f) c) else Ad0 N a (a==13) (fun g=>b g) c
def Ach:Amn:=@A49 @Ad0
def Awa(Ach:Amn)(N:Nat):Aao Alc:=fun R x K=>Ach N x.1.1 x.1.2.1 (fun y0=>K .ret (Aab Az6 ((y0,()),(())))) (K .normal (Aab Az7 ((()),(()))))
def Bhi(N:Nat):Aao Alc:=Awa @Ach N
def Bc4:Aac:=⟨Cjd,[]⟩
def Ayh:Aac:=⟨Aun,[]⟩
abbrev B95(R:Type):=Int->Int->Int->(Int->Option R)->Option R
abbrev Ars:={R:Type}→Nat→B95 R
def Bc5(Ach:Amn):Ars:=fun {R} N a n o b=>if ((a==3)=true) then (Ach N a (a==3) (fun c=>b c) (b 0)) else if ((a==6)=true) then (Ach N a (a==6) (fun d=>b d) (b 0)) else if ((a==9)=true) then (Ach N a (a==9) (fun e=>b e) (b 0)) else if ((a==12)=true) then (Ach N a (a==12) (fun f=>b f) (b 0)) else if ((a==17)=true) then (Ach N a (a==17) (fun g=>b g) (b 0)) else if ((a==21)=true) then (Ach N a (a==21) (fun h=>b h) (b 0)) else if ((a==22)=true) then (Ach N a (a==22) (fun i=>b i) (b 0)) else if ((a==29)=true) then (Ach N a (a==29) (fun j=>b j) (b 0)) else if ((a==25)=true) then (Ach N a (a==25) (fun l=>b l) (b 0)) else Ach N a (a==27) (fun m=>b m) (b 0)
def Afv:Ars:=@Bc5 @Ach
def Cqy(N:Nat):Ab0 Bc4 [Ayh]:=fun R x C=>Afv N x.1.1.1 x.1.1.2.1 x.1.1.2.2.1 (fun y0=>C.1 ((y0,()),(())))
def Bc6(Afv:Ars)(N:Nat):Go.AX.Aak:=Ac1 [true] [] false 1 0 Bc4 [Ayh] (fun R x C=>Afv N x.1.1.1 x.1.1.2.1 x.1.1.2.2.1 (fun y0=>C.1 ((y0,()),(()))))
def Bp2(N:Nat):Go.AX.Aak:=Bc6 @Afv N
def Cqz(N:Nat):List (Nat×Ac4):=[(32,Aaa Alb (Bhg N)),(24,Aaa Alc (Bhi N))]
def B96(N:Nat):List (Nat×Go.AX.Aak):=[]
def Awt:Code:=Tryz.f177.body.getD .skip
def Ani:Aac:=⟨[Am9,Ay3,A84,Bop],A2m⟩
def A12:Aac:=⟨Arj,[]⟩
def A13:Aac:=⟨[],[]⟩
def Bj2:Ack:=.cons .ret A12 (.cons .normal A13 (.nil))
abbrev B17(R:Type):=Int->Int->Bool->Int->Int->Int->(Bool->Option R)->(Option R)->Option R
abbrev Apf:={R:Type}→Nat→B17 R
def A7z(Aaq:Aei):Apf:=fun {R} N c d e i a j b f=>if (e=true) then (Aaq N a 2 (wi (c-1)) fun g=>b g) else if ((d==4)=true) then (b (decide (a≥2))) else if ((d==23)=true) then (Aaq N a 2 (wi (c-3)) fun h=>b h) else if ((d==18)=true) then (b (decide (a≤(wi ((wi (c+2000))+2))))) else f
def Ag6:Apf:=@A7z @Aaq
def A70(Ag6:Apf)(N:Nat):Aao Ani:=fun R x K=>Ag6 N x.1.1 x.1.2.2.1 x.1.2.2.2.1 x.2.1.1 x.2.1.2.1 x.2.1.2.2.1 (fun y0=>K .ret (Aab A12 ((y0,()),(())))) (K .normal (Aab A13 ((()),(()))))
def Bj3(N:Nat):Aao Ani:=A70 @Ag6 N
def Bc7:Aac:=⟨[B4y,Am9],[]⟩
def Ayi:Aac:=⟨Akf,[]⟩
abbrev B97(R:Type):=Int->Int->Int->Int->(Bool->Option R)->Option R
abbrev Art:={R:Type}→Nat→B97 R
def Bc8(Ag6:Apf):Art:=fun {R} N a c d e b=>if ((a==2)=true) then (Ag6 N e a (a==2) a c d (fun f=>b f) (b true)) else Ag6 N e a (a==3) a c d (fun g=>b g) (b true)
def Afw:Art:=@Bc8 @Ag6
def Cq0(N:Nat):Ab0 Bc7 [Ayi]:=fun R x C=>Afw N x.1.1.1 x.1.1.2.1 x.1.1.2.2.1 x.1.2.1 (fun y0=>C.1 ((y0,()),(())))
def Bc9(Afw:Art)(N:Nat):Go.AX.Aak:=Ac1 [true,true] [] false 2 0 Bc7 [Ayi] (fun R x C=>Afw N x.1.1.1 x.1.1.2.1 x.1.1.2.2.1 x.1.2.1 (fun y0=>C.1 ((y0,()),(()))))
def Bp3(N:Nat):Go.AX.Aak:=Bc9 @Afw N
def Cq1(N:Nat):List (Nat×Ac4):=[(8,Aaa Ani (Bj3 N))]
def B98(N:Nat):List (Nat×Go.AX.Aak):=[(172,A7r N)]
def Apu:Code:=Tryz.f178.body.getD .skip
def Ako:Aac:=⟨B4u,[]⟩
def Auc:Aac:=⟨B4u,[]⟩
def Bj4:Ack:=.cons (.exit 0) Auc (.nil)
abbrev A71(R:Type):=d2->Int->(d2->Int->Option R)->Option R
abbrev Bj5(R:Type):=d2->Int->Option R
abbrev Ayj:={R:Type}→Nat→Nat→A71 R
def A72{R:Type}(N:Nat)(rc:Bj5 R):A71 R:=fun b a c=>if ((decide (a<(len b)))=true) then (if (0≤a∧a<len b) then (if (((b.getD a.toNat (0,(0,0))).1==19)=true) then (rc b (wi (a+1))) else c b a) else none) else c b a
def Afo{R:Type}(N:Nat):Nat→A71 R
 |0=>fun _ _ _=>none
 |k+1=>fun a b c=>A72 N (fun a b=>Afo N k a b c) a b c
def A73(Afo:Ayj)(N k:Nat):Aao Ako:=fun R x K=>Afo N k x.1.1 x.1.2.1 (fun y0 y1=>K (.exit 0) (Aab Auc ((y0,y1,()),(()))))
def A74(N k:Nat):Aao Ako:=A73 @Afo N k
def Bda:Aac:=⟨B4u,[]⟩
def Ayk:Aac:=⟨Akf,[]⟩
abbrev B99(R:Type):=d2->Int->(Bool->Option R)->Option R
abbrev Aru:={R:Type}→Nat→B99 R
def Bdb(Afo:Ayj):Aru:=fun {R} N d e c=>Afo N N d e fun b a=>if ((decide (a<(len b)))=true) then (if (0≤a∧a<len b) then (c ((b.getD a.toNat (0,(0,0))).1==28)) else none) else c false
def Aer:Aru:=@Bdb @Afo
def Cq2(N:Nat):Ab0 Bda [Ayk]:=fun R x C=>Aer N x.1.1 x.1.2.1 (fun y0=>C.1 ((y0,()),(())))
def Bdc(Aer:Aru)(N:Nat):Go.AX.Aak:=Ac1 [true,true] [] false 2 0 Bda [Ayk] (fun R x C=>Aer N x.1.1 x.1.2.1 (fun y0=>C.1 ((y0,()),(()))))
def Bp4(N:Nat):Go.AX.Aak:=Bdc @Aer N
def Cq3(N:Nat):List (Nat×Ac4):=[(3,Aaa Ako (A74 N N))]
def Caa(N:Nat):List (Nat×Go.AX.Aak):=[]
def Alt:Aac:=⟨[Ay3,Bbr,Bbs,Boq,Bos],[A6e,(33,.cells 130 [Bw7,Bw7])]⟩
def Awb:Aac:=⟨Arj,[]⟩
def Awc:Aac:=⟨[],[]⟩
def Bm8:Ack:=.cons .ret Awb (.cons (.exit 0) Awc (.nil))
abbrev A9s(R:Type):=Int->Bool->Int->(List UInt8)->d3->d2->d1->Int->Int->d0->d0->(Bool->Option R)->(Option R)->Option R
abbrev Aos(R:Type):=Int->Bool->Int->(List UInt8)->d3->d2->d1->Int->Int->d0->d0->Option R
abbrev A1f:={R:Type}→Nat→Nat→A9s R
def A9t(Agx:Arr)(Afv:Ars)(Aaq:Aei)(Afw:Art)(Abj:Aiv)(Aer:Aru)(Aa2:Aka){R:Type}(N:Nat)(rc:Aos R):A9s R:=fun q o d f g b h i j c l p y=>if ((decide (d<(len b)))=true) then (if (0≤d∧d<len b) then (let a:=(b.getD d.toNat (0,(0,0))).1;let n:=(b.getD d.toNat (0,(0,0))).2.1;let m:=(b.getD d.toNat (0,(0,0))).2.2;if ((a==24)=true) then (rc (wi (2+m)) true (wi (d+1)) f g b h i j c l) else Agx N a n m q fun e=>if ((a==18)=true) then (let x:=(wi (d-1));if (0≤x∧x<len b) then (Afv N a n m fun z=>if ((decide ((wi (q-z))<2))=true) then (p false) else Aaq N e 2 4000 fun A=>if ((!A)=true) then (p false) else if ((!((b.getD x.toNat (0,(0,0))).1==19))=true) then (Afw N a n m q fun B=>if ((!B)=true) then (p false) else if ((a==28)=true) then (if (o=true) then (p false) else Abj N a n m fun r=>if ((decide (r > 0))=true) then (if (0≤r∧r<len c) then (Aer N b (c.getD r.toNat 0) fun C=>if ((!(C==(a==27)))=true) then (p false) else if ((a != 19)=true) then (Aa2 N a n m fun D=>rc e D (wi (d+1)) f g b h i j c l) else rc e o (wi (d+1)) f g b h i j c l) else none) else if ((a != 19)=true) then (Aa2 N a n m fun E=>rc e E (wi (d+1)) f g b h i j c l) else rc e o (wi (d+1)) f g b h i j c l) else Abj N a n m fun s=>if ((decide (s > 0))=true) then (if (0≤s∧s<len c) then (Aer N b (c.getD s.toNat 0) fun F=>if ((!(F==(a==27)))=true) then (p false) else if ((a != 19)=true) then (Aa2 N a n m fun G=>rc e G (wi (d+1)) f g b h i j c l) else rc e o (wi (d+1)) f g b h i j c l) else none) else if ((a != 19)=true) then (Aa2 N a n m fun H=>rc e H (wi (d+1)) f g b h i j c l) else rc e o (wi (d+1)) f g b h i j c l) else if ((a==28)=true) then (if (o=true) then (p false) else Abj N a n m fun t=>if ((decide (t > 0))=true) then (if (0≤t∧t<len c) then (Aer N b (c.getD t.toNat 0) fun I=>if ((!(I==(a==27)))=true) then (p false) else if ((a != 19)=true) then (Aa2 N a n m fun J=>rc e J (wi (d+1)) f g b h i j c l) else rc e o (wi (d+1)) f g b h i j c l) else none) else if ((a != 19)=true) then (Aa2 N a n m fun L=>rc e L (wi (d+1)) f g b h i j c l) else rc e o (wi (d+1)) f g b h i j c l) else Abj N a n m fun u=>if ((decide (u > 0))=true) then (if (0≤u∧u<len c) then (Aer N b (c.getD u.toNat 0) fun M=>if ((!(M==(a==27)))=true) then (p false) else if ((a != 19)=true) then (Aa2 N a n m fun O=>rc e O (wi (d+1)) f g b h i j c l) else rc e o (wi (d+1)) f g b h i j c l) else none) else if ((a != 19)=true) then (Aa2 N a n m fun P=>rc e P (wi (d+1)) f g b h i j c l) else rc e o (wi (d+1)) f g b h i j c l) else none) else Afv N a n m fun Q=>if ((decide ((wi (q-Q))<2))=true) then (p false) else Aaq N e 2 4000 fun S=>if ((!S)=true) then (p false) else Afw N a n m q fun T=>if ((!T)=true) then (p false) else if ((a==28)=true) then (if (o=true) then (p false) else Abj N a n m fun v=>if ((decide (v > 0))=true) then (if (0≤v∧v<len c) then (Aer N b (c.getD v.toNat 0) fun U=>if ((!(U==(a==27)))=true) then (p false) else if ((a != 19)=true) then (Aa2 N a n m fun V=>rc e V (wi (d+1)) f g b h i j c l) else rc e o (wi (d+1)) f g b h i j c l) else none) else if ((a != 19)=true) then (Aa2 N a n m fun W=>rc e W (wi (d+1)) f g b h i j c l) else rc e o (wi (d+1)) f g b h i j c l) else Abj N a n m fun w=>if ((decide (w > 0))=true) then (if (0≤w∧w<len c) then (Aer N b (c.getD w.toNat 0) fun X=>if ((!(X==(a==27)))=true) then (p false) else if ((a != 19)=true) then (Aa2 N a n m fun Y=>rc e Y (wi (d+1)) f g b h i j c l) else rc e o (wi (d+1)) f g b h i j c l) else none) else if ((a != 19)=true) then (Aa2 N a n m fun Z=>rc e Z (wi (d+1)) f g b h i j c l) else rc e o (wi (d+1)) f g b h i j c l) else none) else y
def Afc{R:Type}(N:Nat):Nat→A9s R
 |0=>fun _ _ _ _ _ _ _ _ _ _ _ _ _=>none
 |k+1=>fun a b c d e f g h i j l m n=>A9t @Agx @Afv @Aaq @Afw @Abj @Aer @Aa2 N (fun a b c d e f g h i j l=>Afc N k a b c d e f g h i j l m n) a b c d e f g h i j l m n
def A9u(Afc:A1f)(N k:Nat):Aao Alt:=fun R x K=>Afc N k x.1.2.2.1 x.1.2.2.2.1 x.1.2.2.2.2.1 x.2.1.1 x.2.1.2.1 x.2.1.2.2.1 x.2.1.2.2.2.1 x.2.1.2.2.2.2.1 x.2.1.2.2.2.2.2.1 x.2.2.1.1 x.2.2.1.2.1 (fun y0=>K .ret (Aab Awb ((y0,()),(())))) (K (.exit 0) (Aab Awc ((()),(()))))
def A9v(N k:Nat):Aao Alt:=A9u @Afc N k
def Bhj:Aac:=⟨[Cji,(1,.agg [Bw7,Bw7])],[]⟩
def A1g:Aac:=⟨Akf,[]⟩
abbrev Cei(R:Type):=(List UInt8)->d3->d2->d1->Int->Int->d0->d0->(Bool->Option R)->Option R
abbrev Auw:={R:Type}→Nat→Cei R
def Bhk(Afc:A1f):Auw:=fun {R} N b c d e f g h i a=>Afc N N 0 false 0 b c d e f g h i (fun j=>a j) (a true)
def Ait:Auw:=@Bhk @Afc
def Csh(N:Nat):Ab0 Bhj [A1g]:=fun R x C=>Ait N x.1.1.1 x.1.1.2.1 x.1.1.2.2.1 x.1.1.2.2.2.1 x.1.1.2.2.2.2.1 x.1.1.2.2.2.2.2.1 x.1.2.1.1 x.1.2.1.2.1 (fun y0=>C.1 ((y0,()),(())))
def Bhl(Ait:Auw)(N:Nat):Go.AX.Aak:=Ac1 [true,true] [] false 2 0 Bhj [A1g] (fun R x C=>Ait N x.1.1.1 x.1.1.2.1 x.1.1.2.2.1 x.1.1.2.2.2.1 x.1.1.2.2.2.2.1 x.1.1.2.2.2.2.2.1 x.1.2.1.1 x.1.2.1.2.1 (fun y0=>C.1 ((y0,()),(()))))
def Bsh(N:Nat):Go.AX.Aak:=Bhl @Ait N
def Csi(N:Nat):List (Nat×Ac4):=[(7,Aaa Alt (A9v N N))]
def Cej(N:Nat):List (Nat×Go.AX.Aak):=[(175,Bp1 N),(176,Bp2 N),(172,A7r N),(177,Bp3 N),(174,Bc0 N),(178,Bp4 N),(173,A9o N)]
def Bdd:Aac:=⟨A6d,[]⟩
def Ayl:Aac:=⟨Aun,[]⟩
abbrev Cab(R:Type):=(List UInt8)->d3->d2->d1->Int->Int->(Int->Option R)->Option R
abbrev Arv:={R:Type}→Nat→Cab R
def Bde(Agd:Apb)(Ah0:Arp)(Ae4:Av5)(Ahi:Arq)(Agr:Aql)(Ait:Auw):Arv:=fun {R} N d e f g b c a=>Agd N d e f g b c fun o=>if (o=true) then (a 2) else if ((decide (b<0))=true) then (a 60) else if ((decide (c<0))=true) then (a 60) else Ah0 N d e f g b c fun p=>if ((!p)=true) then (a 60) else Ae4 N N 0 d e f g b c (fun q=>a q) fun h i j l m n=>Ahi N h i j l m n fun r=>if ((!r)=true) then (a 60) else Agr N h i j l m n fun s t u=>if ((!s)=true) then (a 60) else Ait N h i j l m n t u fun v=>if ((!v)=true) then (a 61) else a 0
def Ahj:Arv:=@Bde @Agd @Ah0 @Ae4 @Ahi @Agr @Ait
def Cq4(N:Nat):Ab0 Bdd [Ayl]:=fun R x C=>Ahj N x.1.1.1 x.1.1.2.1 x.1.1.2.2.1 x.1.1.2.2.2.1 x.1.1.2.2.2.2.1 x.1.1.2.2.2.2.2.1 (fun y0=>C.1 ((y0,()),(())))
def Bdf(Ahj:Arv)(N:Nat):Go.AX.Aak:=Ac1 [true] [] false 1 0 Bdd [Ayl] (fun R x C=>Ahj N x.1.1.1 x.1.1.2.1 x.1.1.2.2.1 x.1.1.2.2.2.1 x.1.1.2.2.2.2.1 x.1.1.2.2.2.2.2.1 (fun y0=>C.1 ((y0,()),(()))))
def Bp5(N:Nat):Go.AX.Aak:=Bdf @Ahj N
def Cq5(N:Nat):List (Nat×Ac4):=[(13,Aaa Aji (A41 N N))]
def Cac(N:Nat):List (Nat×Go.AX.Aak):=[(106,Bju N),(107,Bpz N),(108,Bjz N),(109,Bp0 N),(110,Bm7 N),(111,Bsh N)]
def Bdg:Aac:=⟨B4x,[]⟩
def Aym:Aac:=⟨Aun,[]⟩
abbrev Cad(R:Type):=(List UInt8)->d3->d1->d2->d4->(Int->Option R)->Option R
abbrev Ans:={R:Type}→Nat→Cad R
def Bdh(Aem:Avr)(Ahj:Arv):Ans:=fun {R} N c d e a f b=>if ((decide ((len f) > 32000))=true) then (b 2) else if ((decide ((len a) > 200))=true) then (b 2) else Aem N N 0 c d e a f c d e (len a) 0 ([]:List (Int×Int×Int)) fun g h i j l m=>Ahj N g h m i j l fun n=>b n
def Ae0:Ans:=@Bdh @Aem @Ahj
def Cq6(N:Nat):Ab0 Bdg [Aym]:=fun R x C=>Ae0 N x.1.1.1 x.1.1.2.1 x.1.1.2.2.1 x.1.1.2.2.2.1 x.1.1.2.2.2.2.1 (fun y0=>C.1 ((y0,()),(())))
def Awu(Ae0:Ans)(N:Nat):Go.AX.Aak:=Ac1 [true] [] false 1 0 Bdg [Aym] (fun R x C=>Ae0 N x.1.1.1 x.1.1.2.1 x.1.1.2.2.1 x.1.1.2.2.2.1 x.1.1.2.2.2.2.1 (fun y0=>C.1 ((y0,()),(()))))
def Bp6(N:Nat):Go.AX.Aak:=Awu @Ae0 N
def Cq7(N:Nat):List (Nat×Ac4):=[(11,Aaa Ajh (A4r N N))]
def Cae(N:Nat):List (Nat×Go.AX.Aak):=[(67,Bp5 N)]
def Acu:Code:=Tryz.f35.body.getD .skip
def Bsi:Code:=Tryz.f68.body.getD .skip
def Bhm:Code:=Tryz.f69.body.getD .skip
def B18:Code:=Tryz.f38.body.getD .skip
def Box:Aac:=⟨Cjg,[]⟩
def A75:Aac:=⟨Akf,[]⟩
abbrev Cju(R:Type):=Int->Int->Int->(Bool->Option R)->Option R
abbrev Aex:={R:Type}→Nat→Cju R
def Aaw:Aex:=fun {R} N a c d b=>if ((decide (a≥c))=true) then (b (decide (a≤d))) else b false
def Cjv(N:Nat):Ab0 Box [A75]:=fun R x C=>Aaw N x.1.1 x.1.2.1 x.1.2.2.1 (fun y0=>C.1 ((y0,()),(())))
def Aic(Aaw:Aex)(N:Nat):Go.AX.Aak:=Ac1 [true,true,true] [] false 3 0 Box [A75] (fun R x C=>Aaw N x.1.1 x.1.2.1 x.1.2.2.1 (fun y0=>C.1 ((y0,()),(()))))
def A1h(N:Nat):Go.AX.Aak:=Aic @Aaw N
def Cjw(N:Nat):List (Nat×Ac4):=[]
def B19(N:Nat):List (Nat×Go.AX.Aak):=[]
def A5a:Aac:=⟨Aun,[]⟩
def As4:Aac:=⟨Akf,[]⟩
abbrev Bxn(R:Type):=Int->(Bool->Option R)->Option R
abbrev Ads:={R:Type}→Nat→Bxn R
def A5b(Aaw:Aex):Ads:=fun {R} N a b=>Aaw N a 0 7 fun c=>b c
def Aan:Ads:=@A5b @Aaw
def Cnu(N:Nat):Ab0 A5a [As4]:=fun R x C=>Aan N x.1.1 (fun y0=>C.1 ((y0,()),(())))
def Ahr(Aan:Ads)(N:Nat):Go.AX.Aak:=Ac1 [true] [] false 1 0 A5a [As4] (fun R x C=>Aan N x.1.1 (fun y0=>C.1 ((y0,()),(()))))
def A5c(N:Nat):Go.AX.Aak:=Ahr @Aan N
def Cnv(N:Nat):List (Nat×Ac4):=[]
def Bxo(N:Nat):List (Nat×Go.AX.Aak):=[(38,A1h N)]
def Bhn:Aac:=⟨[(0,.agg Bt4),Am9,Bfl],[]⟩
def A1i:Aac:=⟨Akf,[]⟩
abbrev Cek(R:Type):=Int->Int->Int->Int->Int->Int->Int->(Bool->Option R)->Option R
abbrev Af2:={R:Type}→Nat→Cek R
def Bho(Aan:Ads)(Aaw:Aex):Af2:=fun {R} N i b c d j e f a=>Aan N b fun g=>if (g=true) then (Aaw N c e f fun h=>if (h=true) then (a (d==0)) else a false) else a false
def Aa0:Af2:=@Bho @Aan @Aaw
def Csj(N:Nat):Ab0 Bhn [A1i]:=fun R x C=>Aa0 N x.1.1.1 x.1.1.2.1 x.1.1.2.2.1 x.1.1.2.2.2.1 x.1.1.2.2.2.2.1 x.1.2.1 x.1.2.2.1 (fun y0=>C.1 ((y0,()),(())))
def Al9(Aa0:Af2)(N:Nat):Go.AX.Aak:=Ac1 [true,true,true] [] false 3 0 Bhn [A1i] (fun R x C=>Aa0 N x.1.1.1 x.1.1.2.1 x.1.1.2.2.1 x.1.1.2.2.2.1 x.1.1.2.2.2.2.1 x.1.2.1 x.1.2.2.1 (fun y0=>C.1 ((y0,()),(()))))
def Bsj(N:Nat):Go.AX.Aak:=Al9 @Aa0 N
def Csk(N:Nat):List (Nat×Ac4):=[]
def Cel(N:Nat):List (Nat×Go.AX.Aak):=[(69,A5c N),(38,A1h N)]
def Bp7:Code:=Tryz.f37.body.getD .skip
def Bdi:Aac:=⟨[B4w,Am9],[]⟩
def Ayn:Aac:=⟨Akf,[]⟩
abbrev Caf(R:Type):=(List UInt8)->d3->d1->d2->d4->Int->(Bool->Option R)->Option R
abbrev Aey:={R:Type}→Nat→Caf R
def Bdj(Aaw:Aex):Aey:=fun {R} N e f g h b a c=>Aaw N a 0 (wi ((len b)-1)) fun d=>if (d=true) then (if (0≤a∧a<len b) then (c ((b.getD a.toNat (0,(0,(0,(0,0))))).1 != 23)) else none) else c false
def Aax:Aey:=@Bdj @Aaw
def Cq8(N:Nat):Ab0 Bdi [Ayn]:=fun R x C=>Aax N x.1.1.1 x.1.1.2.1 x.1.1.2.2.1 x.1.1.2.2.2.1 x.1.1.2.2.2.2.1 x.1.2.1 (fun y0=>C.1 ((y0,()),(())))
def Ahm(Aax:Aey)(N:Nat):Go.AX.Aak:=Ac1 [true,true] [] false 2 0 Bdi [Ayn] (fun R x C=>Aax N x.1.1.1 x.1.1.2.1 x.1.1.2.2.1 x.1.1.2.2.2.1 x.1.1.2.2.2.2.1 x.1.2.1 (fun y0=>C.1 ((y0,()),(()))))
def Bdk(N:Nat):Go.AX.Aak:=Ahm @Aax N
def Cq9(N:Nat):List (Nat×Ac4):=[]
def Cag(N:Nat):List (Nat×Go.AX.Aak):=[(38,A1h N)]
def Afd:Aac:=⟨[wq4,(149,.one (.val .bool))],Axj⟩
def Az8:Aac:=⟨Arj,[]⟩
def Az9:Aac:=⟨A3b,Axj⟩
def Bhp:Ack:=.cons .ret Az8 (.cons .normal Az9 (.nil))
abbrev Bxp(R:Type):=Bool->Int->Int->Int->Int->Int->(Bool->Option R)->(Int->Int->Int->Int->Int->Option R)->Option R
abbrev Af4:={R:Type}→Nat→Bxp R
def A5d(Aa0:Af2):Af4:=fun {R} N f a b c d e g h=>if (f=true) then (Aa0 N a b c d e 0 7 fun i=>g i) else h a b c d e
def Abb:Af4:=@A5d @Aa0
def Aie(Abb:Af4)(N:Nat):Aao Afd:=fun R x K=>Abb N x.1.2.1 x.2.1.1 x.2.1.2.1 x.2.1.2.2.1 x.2.1.2.2.2.1 x.2.1.2.2.2.2.1 (fun y0=>K .ret (Aab Az8 ((y0,()),(())))) (fun y0 y1 y2 y3 y4=>K .normal (Aab Az9 (((),()),((y0,y1,y2,y3,y4,()),()))))
def Bhq(N:Nat):Aao Afd:=Aie @Abb N
def Afe:Aac:=⟨[Ay3,Bbr,Bfm,(96,.one (.val .bool))],Bot⟩
def A0a:Aac:=⟨Arj,[]⟩
def A0b:Aac:=⟨A3b,Axj⟩
def Bhr:Ack:=.cons .ret A0a (.cons .normal A0b (.nil))
abbrev Bxq(R:Type):=Int->Bool->(List UInt8)->d3->d1->d2->d4->Int->Int->Int->Int->Int->(Bool->Option R)->(Int->Int->Int->Int->Int->Option R)->Option R
abbrev Af5:={R:Type}→Nat→Bxq R
def A5e(Aan:Ads)(Aax:Aey)(Aa0:Af2)(Aaw:Aex)(Abb:Af4):Af5:=fun {R} N b o f g h i j l c d e m a n=>if (o=true) then (Aan N c fun p=>if (p=true) then (if ((e==0)=true) then (Aax N f g h i j d fun q=>a q) else a false) else a false) else if ((b==21)=true) then (Aa0 N l c d e m 0 0 fun r=>a r) else if ((b==22)=true) then (Aan N c fun s=>if (s=true) then (Aaw N d 0 1000 fun t=>if (t=true) then (Aax N f g h i j e fun u=>a u) else a false) else a false) else if ((b==23)=true) then (if ((c==0)=true) then (Aaw N d (-2147483648) 2147483647 fun v=>if (v=true) then (Aax N f g h i j e fun w=>a w) else a false) else a false) else if ((b==58)=true) then (Abb N (b==58) l c d e m (fun x=>a x) fun y z A B C=>n y z A B C) else Abb N (b==59) l c d e m (fun D=>a D) fun E F G H I=>n E F G H I
def Abc:Af5:=@A5e @Aan @Aax @Aa0 @Aaw @Abb
def Aif(Abc:Af5)(N:Nat):Aao Afe:=fun R x K=>Abc N x.1.2.2.1 x.1.2.2.2.1 x.2.1.1 x.2.1.2.1 x.2.1.2.2.1 x.2.1.2.2.2.1 x.2.1.2.2.2.2.1 x.2.2.1.1 x.2.2.1.2.1 x.2.2.1.2.2.1 x.2.2.1.2.2.2.1 x.2.2.1.2.2.2.2.1 (fun y0=>K .ret (Aab A0a ((y0,()),(())))) (fun y0 y1 y2 y3 y4=>K .normal (Aab A0b (((),()),((y0,y1,y2,y3,y4,()),()))))
def Bhs(N:Nat):Aao Afe:=Aif @Abc N
def Aff:Aac:=⟨[Ay3,Bbr,Bfm,(64,.one (.val .bool))],Bot⟩
def A0c:Aac:=⟨Arj,[]⟩
def A0d:Aac:=⟨A3b,Axj⟩
def Bht:Ack:=.cons .ret A0c (.cons .normal A0d (.nil))
abbrev Bxr(R:Type):=Int->Bool->(List UInt8)->d3->d1->d2->d4->Int->Int->Int->Int->Int->(Bool->Option R)->(Int->Int->Int->Int->Int->Option R)->Option R
abbrev Af6:={R:Type}→Nat→Bxr R
def A5f(Aan:Ads)(Aax:Aey)(Abc:Af5):Af6:=fun {R} N b o f g h i j l c d e m a n=>if (o=true) then (Aan N c fun p=>if (p=true) then (Aan N d fun q=>if (q=true) then (Aan N e fun r=>a r) else a false) else a false) else if ((b==17)=true) then (if ((c==0)=true) then (if ((e==0)=true) then (Aax N f g h i j d fun s=>a s) else a false) else a false) else if ((b==18)=true) then (Abc N b (b==18) f g h i j l c d e m (fun t=>a t) fun u v w x y=>n u v w x y) else Abc N b (b==19) f g h i j l c d e m (fun z=>a z) fun A B C D E=>n A B C D E
def Abd:Af6:=@A5f @Aan @Aax @Abc
def Aig(Abd:Af6)(N:Nat):Aao Aff:=fun R x K=>Abd N x.1.2.2.1 x.1.2.2.2.1 x.2.1.1 x.2.1.2.1 x.2.1.2.2.1 x.2.1.2.2.2.1 x.2.1.2.2.2.2.1 x.2.2.1.1 x.2.2.1.2.1 x.2.2.1.2.2.1 x.2.2.1.2.2.2.1 x.2.2.1.2.2.2.2.1 (fun y0=>K .ret (Aab A0c ((y0,()),(())))) (fun y0 y1 y2 y3 y4=>K .normal (Aab A0d (((),()),((y0,y1,y2,y3,y4,()),()))))
def Bhu(N:Nat):Aao Aff:=Aig @Abd N
def Afg:Aac:=⟨[Ay3,Bbr,Bfm,(48,.one (.val .bool))],Bot⟩
def A0e:Aac:=⟨Arj,[]⟩
def A0f:Aac:=⟨A3b,Axj⟩
def Bhv:Ack:=.cons .ret A0e (.cons .normal A0f (.nil))
abbrev Bxs(R:Type):=Int->Bool->(List UInt8)->d3->d1->d2->d4->Int->Int->Int->Int->Int->(Bool->Option R)->(Int->Int->Int->Int->Int->Option R)->Option R
abbrev Af7:={R:Type}→Nat→Bxs R
def A5g(Aan:Ads)(Aaw:Aex)(Abd:Af6):Af7:=fun {R} N a o f g h i j l c d e m b n=>if (o=true) then (Aan N c fun p=>if (p=true) then (Aan N d fun q=>if (q=true) then (Aaw N e (-4000) 4000 fun r=>b r) else b false) else b false) else if ((a==15)=true) then (Abd N a (a==15) f g h i j l c d e m (fun s=>b s) fun t u v w x=>n t u v w x) else Abd N a (a==16) f g h i j l c d e m (fun y=>b y) fun z A B C D=>n z A B C D
def Abe:Af7:=@A5g @Aan @Aaw @Abd
def Aih(Abe:Af7)(N:Nat):Aao Afg:=fun R x K=>Abe N x.1.2.2.1 x.1.2.2.2.1 x.2.1.1 x.2.1.2.1 x.2.1.2.2.1 x.2.1.2.2.2.1 x.2.1.2.2.2.2.1 x.2.2.1.1 x.2.2.1.2.1 x.2.2.1.2.2.1 x.2.2.1.2.2.2.1 x.2.2.1.2.2.2.2.1 (fun y0=>K .ret (Aab A0e ((y0,()),(())))) (fun y0 y1 y2 y3 y4=>K .normal (Aab A0f (((),()),((y0,y1,y2,y3,y4,()),()))))
def Bhw(N:Nat):Aao Afg:=Aih @Abe N
def Afh:Aac:=⟨[Ay3,Bbr,Bfm,(27,.one (.val .bool))],Bot⟩
def A0g:Aac:=⟨Arj,[]⟩
def A0h:Aac:=⟨A3b,Axj⟩
def Bhx:Ack:=.cons .ret A0g (.cons .normal A0h (.nil))
abbrev Bxt(R:Type):=Int->Bool->(List UInt8)->d3->d1->d2->d4->Int->Int->Int->Int->Int->(Bool->Option R)->(Int->Int->Int->Int->Int->Option R)->Option R
abbrev Af8:={R:Type}→Nat→Bxt R
def A5h(Aa0:Af2)(Abe:Af7):Af8:=fun {R} N a o j h l i m b c d e f g n=>if (o=true) then (Aa0 N b c d e f 0 (wi ((len h)-1)) fun p=>g p) else if ((a==11)=true) then (Aa0 N b c d e f 1 (len i) fun q=>g q) else if ((a==12)=true) then (Aa0 N b c d e f 0 7 fun r=>g r) else if ((a==13)=true) then (Abe N a (a==13) j h l i m b c d e f (fun s=>g s) fun t u v w x=>n t u v w x) else Abe N a (a==14) j h l i m b c d e f (fun y=>g y) fun z A B C D=>n z A B C D
def Aa7:Af8:=@A5h @Aa0 @Abe
def Aii(Aa7:Af8)(N:Nat):Aao Afh:=fun R x K=>Aa7 N x.1.2.2.1 x.1.2.2.2.1 x.2.1.1 x.2.1.2.1 x.2.1.2.2.1 x.2.1.2.2.2.1 x.2.1.2.2.2.2.1 x.2.2.1.1 x.2.2.1.2.1 x.2.2.1.2.2.1 x.2.2.1.2.2.2.1 x.2.2.1.2.2.2.2.1 (fun y0=>K .ret (Aab A0g ((y0,()),(())))) (fun y0 y1 y2 y3 y4=>K .normal (Aab A0h (((),()),((y0,y1,y2,y3,y4,()),()))))
def Bhy(N:Nat):Aao Afh:=Aii @Aa7 N
def Afi:Aac:=⟨[Ay3,Bbr,Bfm,(21,.one (.val .bool))],Bot⟩
def A0i:Aac:=⟨Arj,[]⟩
def A0j:Aac:=⟨A3b,Axj⟩
def Bhz:Ack:=.cons .ret A0i (.cons .normal A0j (.nil))
abbrev Bxu(R:Type):=Int->Bool->(List UInt8)->d3->d1->d2->d4->Int->Int->Int->Int->Int->(Bool->Option R)->(Int->Int->Int->Int->Int->Option R)->Option R
abbrev Af9:={R:Type}→Nat→Bxu R
def A5i(Aa0:Af2)(Aa7:Af8):Af9:=fun {R} N a o h i j l m b c d e f g n=>if (o=true) then (Aa0 N b c d e f 0 199 fun p=>g p) else if ((a==6)=true) then (Aa7 N a (a==6) h i j l m b c d e f (fun q=>g q) fun r s t u v=>n r s t u v) else if ((a==7)=true) then (Aa7 N a (a==7) h i j l m b c d e f (fun w=>g w) fun x y z A B=>n x y z A B) else Aa7 N a (a==10) h i j l m b c d e f (fun C=>g C) fun D E F G H=>n D E F G H
def Aa8:Af9:=@A5i @Aa0 @Aa7
def Aij(Aa8:Af9)(N:Nat):Aao Afi:=fun R x K=>Aa8 N x.1.2.2.1 x.1.2.2.2.1 x.2.1.1 x.2.1.2.1 x.2.1.2.2.1 x.2.1.2.2.2.1 x.2.1.2.2.2.2.1 x.2.2.1.1 x.2.2.1.2.1 x.2.2.1.2.2.1 x.2.2.1.2.2.2.1 x.2.2.1.2.2.2.2.1 (fun y0=>K .ret (Aab A0i ((y0,()),(())))) (fun y0 y1 y2 y3 y4=>K .normal (Aab A0j (((),()),((y0,y1,y2,y3,y4,()),()))))
def Bh0(N:Nat):Aao Afi:=Aij @Aa8 N
def Afj:Aac:=⟨[Ay3,Bbr,Bfm,(14,.one (.val .bool))],Bot⟩
def A0k:Aac:=⟨Arj,[]⟩
def A0l:Aac:=⟨A3b,Axj⟩
def Bh1:Ack:=.cons .ret A0k (.cons .normal A0l (.nil))
abbrev Bxv(R:Type):=Int->Bool->(List UInt8)->d3->d1->d2->d4->Int->Int->Int->Int->Int->(Bool->Option R)->(Int->Int->Int->Int->Int->Option R)->Option R
abbrev Aga:={R:Type}→Nat→Bxv R
def A5j(Aa0:Af2)(Aa8:Af9):Aga:=fun {R} N a o h i j l m b c d e f g n=>if (o=true) then (Aa0 N b c d e f 0 4000 fun p=>g p) else if ((a==4)=true) then (Aa8 N a (a==4) h i j l m b c d e f (fun q=>g q) fun r s t u v=>n r s t u v) else if ((a==5)=true) then (Aa8 N a (a==5) h i j l m b c d e f (fun w=>g w) fun x y z A B=>n x y z A B) else Aa8 N a (a==9) h i j l m b c d e f (fun C=>g C) fun D E F G H=>n D E F G H
def Aa3:Aga:=@A5j @Aa0 @Aa8
def Aik(Aa3:Aga)(N:Nat):Aao Afj:=fun R x K=>Aa3 N x.1.2.2.1 x.1.2.2.2.1 x.2.1.1 x.2.1.2.1 x.2.1.2.2.1 x.2.1.2.2.2.1 x.2.1.2.2.2.2.1 x.2.2.1.1 x.2.2.1.2.1 x.2.2.1.2.2.1 x.2.2.1.2.2.2.1 x.2.2.1.2.2.2.2.1 (fun y0=>K .ret (Aab A0k ((y0,()),(())))) (fun y0 y1 y2 y3 y4=>K .normal (Aab A0l (((),()),((y0,y1,y2,y3,y4,()),()))))
def Bh2(N:Nat):Aao Afj:=Aik @Aa3 N
def Afk:Aac:=⟨A3b,Axj⟩
def A0m:Aac:=⟨Arj,[]⟩
def Bh3:Ack:=.cons .ret A0m (.nil)
abbrev Bxw(R:Type):=Int->Int->Int->Int->Int->(Bool->Option R)->Option R
abbrev Agb:={R:Type}→Nat→Bxw R
def A5k(Aaw:Aex)(Aan:Ads):Agb:=fun {R} N b c d e j a=>Aaw N b 41 57 fun f=>if (f=true) then (Aan N c fun g=>if (g=true) then (Aan N d fun h=>if (h=true) then (Aan N e fun i=>a i) else a false) else a false) else a false
def Aa4:Agb:=@A5k @Aaw @Aan
def Ail(Aa4:Agb)(N:Nat):Aao Afk:=fun R x K=>Aa4 N x.2.1.1 x.2.1.2.1 x.2.1.2.2.1 x.2.1.2.2.2.1 x.2.1.2.2.2.2.1 (fun y0=>K .ret (Aab A0m ((y0,()),(()))))
def Bh4(N:Nat):Aao Afk:=Ail @Aa4 N
def Bdl:Aac:=⟨[B4w,(1,.agg Bt4)],[]⟩
def Ayo:Aac:=⟨Akf,[]⟩
abbrev Cah(R:Type):=(List UInt8)->d3->d1->d2->d4->Int->Int->Int->Int->Int->(Bool->Option R)->Option R
abbrev Ant:={R:Type}→Nat→Cah R
def Bdm(Aa0:Af2)(Aa3:Aga)(Aa4:Agb):Ant:=fun {R} N g h i j l a d e f c b=>if ((c != 0)=true) then (b false) else if ((a==1)=true) then (Aa0 N a d e f c (-2147483648) 2147483647 fun m=>b m) else if ((a==2)=true) then (Aa3 N a (a==2) g h i j l a d e f c (fun n=>b n) fun o p q r s=>Aa4 N o p q r s fun t=>b t) else if ((a==3)=true) then (Aa3 N a (a==3) g h i j l a d e f c (fun u=>b u) fun v w x y z=>Aa4 N v w x y z fun A=>b A) else if ((a==8)=true) then (Aa3 N a (a==8) g h i j l a d e f c (fun B=>b B) fun C D E F G=>Aa4 N C D E F G fun H=>b H) else Aa3 N a (a==20) g h i j l a d e f c (fun I=>b I) fun J L M O P=>Aa4 N J L M O P fun Q=>b Q
def Ae1:Ant:=@Bdm @Aa0 @Aa3 @Aa4
def Cra(N:Nat):Ab0 Bdl [Ayo]:=fun R x C=>Ae1 N x.1.1.1 x.1.1.2.1 x.1.1.2.2.1 x.1.1.2.2.2.1 x.1.1.2.2.2.2.1 x.1.2.1.1 x.1.2.1.2.1 x.1.2.1.2.2.1 x.1.2.1.2.2.2.1 x.1.2.1.2.2.2.2.1 (fun y0=>C.1 ((y0,()),(())))
def Awv(Ae1:Ant)(N:Nat):Go.AX.Aak:=Ac1 [true,true] [] false 2 0 Bdl [Ayo] (fun R x C=>Ae1 N x.1.1.1 x.1.1.2.1 x.1.1.2.2.1 x.1.1.2.2.2.1 x.1.1.2.2.2.2.1 x.1.2.1.1 x.1.2.1.2.1 x.1.2.1.2.2.1 x.1.2.1.2.2.2.1 x.1.2.1.2.2.2.2.1 (fun y0=>C.1 ((y0,()),(()))))
def Bp8(N:Nat):Go.AX.Aak:=Awv @Ae1 N
def Crb(N:Nat):List (Nat×Ac4):=[(84,Aaa Afd (Bhq N)),(66,Aaa Afe (Bhs N)),(56,Aaa Aff (Bhu N)),(50,Aaa Afg (Bhw N)),(36,Aaa Afh (Bhy N)),(28,Aaa Afi (Bh0 N)),(20,Aaa Afj (Bh2 N)),(86,Aaa Afk (Bh4 N))]
def Cai(N:Nat):List (Nat×Go.AX.Aak):=[(68,Bsj N),(69,A5c N),(38,A1h N),(37,Bdk N)]
def Bm9:Code:=Tryz.f36.body.getD .skip
def A9w:Aac:=⟨Aun,[]⟩
def Awd:Aac:=⟨Akf,[]⟩
abbrev B5r(R:Type):=Int->(Bool->Option R)->Option R
abbrev Amy:={R:Type}→Nat→B5r R
def Adg:Amy:=fun {R} N a b=>if ((a != 17)=true) then (if ((a != 21)=true) then (if ((a != 22)=true) then (b (a != 23)) else b false) else b false) else b false
def B5s(N:Nat):Ab0 A9w [Awd]:=fun R x C=>Adg N x.1.1 (fun y0=>C.1 ((y0,()),(())))
def Aux(Adg:Amy)(N:Nat):Go.AX.Aak:=Ac1 [true] [] false 1 0 A9w [Awd] (fun R x C=>Adg N x.1.1 (fun y0=>C.1 ((y0,()),(()))))
def Bna(N:Nat):Go.AX.Aak:=Aux @Adg N
def B5t(N:Nat):List (Nat×Ac4):=[]
def Bnb(N:Nat):List (Nat×Go.AX.Aak):=[]
def Ajo:Aac:=⟨[wq3,A1p,Bbs,wq7],Bot⟩
def A0n:Aac:=⟨[wq3,A1p,Bbs],A6c⟩
def Bh5:Ack:=.cons .normal A0n (.nil)
abbrev Bxx(R:Type):=Int->Int->(List UInt8)->d3->d1->d2->d4->Int->Int->Int->Int->Int->(Int->Int->(List UInt8)->d3->d1->d2->d4->Option R)->Option R
abbrev Amo:={R:Type}→Nat→Bxx R
def Aci:Amo:=fun {R} N h a b c d e f i l j m n g=>if ((i==22)=true) then (g j a b c d e f) else g h a b c d e f
def Aq7(Aci:Amo)(N:Nat):Aao Ajo:=fun R x K=>Aci N x.1.2.1 x.1.2.2.1 x.2.1.1 x.2.1.2.1 x.2.1.2.2.1 x.2.1.2.2.2.1 x.2.1.2.2.2.2.1 x.2.2.1.1 x.2.2.1.2.1 x.2.2.1.2.2.1 x.2.2.1.2.2.2.1 x.2.2.1.2.2.2.2.1 (fun y0 y1 y2 y3 y4 y5 y6=>K .normal (Aab A0n (((),y0,y1,()),((y2,y3,y4,y5,y6,()),()))))
def Bh6(N:Nat):Aao Ajo:=Aq7 @Aci N
def Ahs:Aac:=⟨[wq3,A1p,Bbs],A6c⟩
def As5:Aac:=⟨Bbt,[]⟩
def As6:Aac:=⟨[wq3,A1p],A6c⟩
def Bh7:Ack:=.cons .ret As5 (.cons (.exit 0) As6 (.nil))
abbrev A5l(R:Type):=Int->Int->(List UInt8)->d3->d1->d2->d4->(Int->Option R)->(Int->(List UInt8)->d3->d1->d2->d4->Option R)->Option R
abbrev Bh8(R:Type):=Int->Int->(List UInt8)->d3->d1->d2->d4->Option R
abbrev Aot:={R:Type}→Nat→Nat→A5l R
def Awe(Ae1:Ant)(Adg:Amy)(Aci:Amo){R:Type}(N:Nat)(rc:Bh8 R):A5l R:=fun c b e f g h a n o=>if ((decide (b<(len a)))=true) then (if (0≤b∧b<len a) then (let d:=(a.getD b.toNat (0,(0,(0,(0,0))))).1;let i:=(a.getD b.toNat (0,(0,(0,(0,0))))).2.1;let j:=(a.getD b.toNat (0,(0,(0,(0,0))))).2.2.1;let l:=(a.getD b.toNat (0,(0,(0,(0,0))))).2.2.2.1;let m:=(a.getD b.toNat (0,(0,(0,(0,0))))).2.2.2.2;Ae1 N e f g h a d i j l m fun p=>if ((!p)=true) then (n 60) else if ((!((decide (c > 0))==(d==23)))=true) then (n 60) else if (((wi (b+1))==(len a))=true) then (Adg N d fun q=>if (q=true) then (n 60) else if ((decide (c > 0))=true) then (Aci N (wi (c-1)) b e f g h a d i j l m fun r s t u v w x=>rc r (wi (s+1)) t u v w x) else Aci N c b e f g h a d i j l m fun y z A B C D E=>rc y (wi (z+1)) A B C D E) else if ((decide (c > 0))=true) then (Aci N (wi (c-1)) b e f g h a d i j l m fun F G H I J L M=>rc F (wi (G+1)) H I J L M) else Aci N c b e f g h a d i j l m fun O P Q S T U V=>rc O (wi (P+1)) Q S T U V) else none) else o c e f g h a
def Acx{R:Type}(N:Nat):Nat→A5l R
 |0=>fun _ _ _ _ _ _ _ _ _=>none
 |k+1=>fun a b c d e f g h i=>Awe @Ae1 @Adg @Aci N (fun a b c d e f g=>Acx N k a b c d e f g h i) a b c d e f g h i
def Aq8(Acx:Aot)(N k:Nat):Aao Ahs:=fun R x K=>Acx N k x.1.2.1 x.1.2.2.1 x.2.1.1 x.2.1.2.1 x.2.1.2.2.1 x.2.1.2.2.2.1 x.2.1.2.2.2.2.1 (fun y0=>K .ret (Aab As5 ((y0,()),(())))) (fun y0 y1 y2 y3 y4 y5=>K (.exit 0) (Aab As6 (((),y0,()),((y1,y2,y3,y4,y5,()),()))))
def A5m(N k:Nat):Aao Ahs:=Aq8 @Acx N k
def Aht:Aac:=⟨[wq3,Bos],A6c⟩
def As7:Aac:=⟨Bbt,[]⟩
def As8:Aac:=⟨[],[]⟩
def Bh9:Ack:=.cons .ret As7 (.cons (.exit 2) As8 (.nil))
abbrev A5n(R:Type):=Int->(List UInt8)->d3->d1->d2->d4->(Int->Option R)->(Option R)->Option R
abbrev Bia(R:Type):=Int->(List UInt8)->d3->d1->d2->d4->Option R
abbrev Aou:={R:Type}→Nat→Nat→A5n R
def A5o(Aax:Aey)(Aaw:Aex)(Adg:Amy){R:Type}(N:Nat)(rc:Bia R):A5n R:=fun a e f g b c d j=>if ((decide (a<(len b)))=true) then (if (0≤a∧a<len b) then (let h:=(b.getD a.toNat (0,(0,0))).1;Aax N e f g b c h fun l=>if ((!l)=true) then (d 60) else Aaw N ((b.getD a.toNat (0,(0,0))).2.1) 0 8 fun m=>if ((!m)=true) then (d 60) else Aaw N ((b.getD a.toNat (0,(0,0))).2.2) 2 4001 fun n=>if ((!n)=true) then (d 60) else if ((decide (h > 0))=true) then (let i:=(wi (h-1));if (0≤i∧i<len c) then (Adg N ((c.getD i.toNat (0,(0,(0,(0,0))))).1) fun o=>if (o=true) then (d 60) else rc (wi (a+1)) e f g b c) else none) else rc (wi (a+1)) e f g b c) else none) else j
def Acy{R:Type}(N:Nat):Nat→A5n R
 |0=>fun _ _ _ _ _ _ _ _=>none
 |k+1=>fun a b c d e f g h=>A5o @Aax @Aaw @Adg N (fun a b c d e f=>Acy N k a b c d e f g h) a b c d e f g h
def Aq9(Acy:Aou)(N k:Nat):Aao Aht:=fun R x K=>Acy N k x.1.2.1 x.2.1.1 x.2.1.2.1 x.2.1.2.2.1 x.2.1.2.2.2.1 x.2.1.2.2.2.2.1 (fun y0=>K .ret (Aab As7 ((y0,()),(())))) (K (.exit 2) (Aab As8 ((()),(()))))
def A5p(N k:Nat):Aao Aht:=Aq9 @Acy N k
def Bdn:Aac:=⟨B4x,[]⟩
def Ayp:Aac:=⟨Aun,[]⟩
abbrev Caj(R:Type):=(List UInt8)->d3->d1->d2->d4->(Int->Option R)->Option R
abbrev Anu:={R:Type}→Nat→Caj R
def Bdo(Ae0:Ans)(Acx:Aot)(Acy:Aou):Anu:=fun {R} N b c d e f a=>Ae0 N b c d e f fun g=>if ((g != 0)=true) then (a g) else Acx N N 0 0 b c d e f (fun h=>a h) fun i j l m n o=>if ((decide (i > 0))=true) then (a 60) else Acy N N 0 j l m n o (fun p=>a p) (a 0)
def Aeh:Anu:=@Bdo @Ae0 @Acx @Acy
def Crc(N:Nat):Ab0 Bdn [Ayp]:=fun R x C=>Aeh N x.1.1.1 x.1.1.2.1 x.1.1.2.2.1 x.1.1.2.2.2.1 x.1.1.2.2.2.2.1 (fun y0=>C.1 ((y0,()),(())))
def A2y(Aeh:Anu)(N:Nat):Go.AX.Aak:=Ac1 [true] [] false 1 0 Bdn [Ayp] (fun R x C=>Aeh N x.1.1.1 x.1.1.2.1 x.1.1.2.2.1 x.1.1.2.2.2.1 x.1.1.2.2.2.2.1 (fun y0=>C.1 ((y0,()),(()))))
def Bdp(N:Nat):Go.AX.Aak:=A2y @Aeh N
def Crd(N:Nat):List (Nat×Ac4):=[(26,Aaa Ajo (Bh6 N)),(13,Aaa Ahs (A5m N N)),(37,Aaa Aht (A5p N N))]
def Cak(N:Nat):List (Nat×Go.AX.Aak):=[(34,Bp6 N),(35,Bp8 N),(36,Bna N),(37,Bdk N),(38,A1h N)]
def A1j(N:Nat):Go.AX.Aak:=Bob
def Akp:Aac:=⟨[wq3,(5,.one (.slf 33)),A84],[Bw9,Cr2]⟩
def Aud:Aac:=⟨[(5,.one (.slf 32))],[(32,.row 5 (.int .u8))]⟩
def Bj6:Ack:=.cons (.exit 0) Aud (.nil)
abbrev A76(R:Type):=Int->(List UInt8)->d3->d1->d2->d4->d0->(d0->Option R)->Option R
abbrev Bj7(R:Type):=Int->(List UInt8)->d3->d1->d2->d4->d0->Option R
abbrev Ayq:={R:Type}→Nat→Nat→A76 R
def Ayr{R:Type}(N:Nat)(rc:Bj7 R):A76 R:=fun a i j l m e h n=>if ((decide (a<(len e)))=true) then (if (0≤a∧a<len e) then (let c:=(e.getD a.toNat (0,(0,(0,(0,0))))).1;let d:=(e.getD a.toNat (0,(0,(0,(0,0))))).2.1;let f:=(e.getD a.toNat (0,(0,(0,(0,0))))).2.2.1;let g:=(e.getD a.toNat (0,(0,(0,(0,0))))).2.2.2.1;if ((A2k a)=true) then (if (((List.length (Adl a))+(1:Nat))≤(70368744177664:Nat)) then (if ((A2k c)=true) then (if (((List.length ((Adl a)++[(32:UInt8)]))+(List.length (Adl c)))≤(70368744177664:Nat)) then (if (((List.length (((Adl a)++[(32:UInt8)])++(Adl c)))+(1:Nat))≤(70368744177664:Nat)) then (if ((A2k d)=true) then (if (((List.length ((((Adl a)++[(32:UInt8)])++(Adl c))++[(32:UInt8)]))+(List.length (Adl d)))≤(70368744177664:Nat)) then (if (((List.length (((((Adl a)++[(32:UInt8)])++(Adl c))++[(32:UInt8)])++(Adl d)))+(1:Nat))≤(70368744177664:Nat)) then (if ((A2k f)=true) then (if (((List.length ((((((Adl a)++[(32:UInt8)])++(Adl c))++[(32:UInt8)])++(Adl d))++[(32:UInt8)]))+(List.length (Adl f)))≤(70368744177664:Nat)) then (if (((List.length (((((((Adl a)++[(32:UInt8)])++(Adl c))++[(32:UInt8)])++(Adl d))++[(32:UInt8)])++(Adl f)))+(1:Nat))≤(70368744177664:Nat)) then (if ((A2k g)=true) then (if (((List.length ((((((((Adl a)++[(32:UInt8)])++(Adl c))++[(32:UInt8)])++(Adl d))++[(32:UInt8)])++(Adl f))++[(32:UInt8)]))+(List.length (Adl g)))≤(70368744177664:Nat)) then (if (((List.length (((((((((Adl a)++[(32:UInt8)])++(Adl c))++[(32:UInt8)])++(Adl d))++[(32:UInt8)])++(Adl f))++[(32:UInt8)])++(Adl g)))+(1:Nat))≤(70368744177664:Nat)) then (if ((((List.length h)+(List.length (List.map (fun b:UInt8=>(((UInt8.toNat b):Nat):Int)) ((((((((((Adl a)++[(32:UInt8)])++(Adl c))++[(32:UInt8)])++(Adl d))++[(32:UInt8)])++(Adl f))++[(32:UInt8)])++(Adl g))++[(10:UInt8)]))))*(1:Nat))≤(70368744177664:Nat)) then (rc (wi (a+1)) i j l m e (h++(List.map (fun b:UInt8=>(((UInt8.toNat b):Nat):Int)) ((((((((((Adl a)++[(32:UInt8)])++(Adl c))++[(32:UInt8)])++(Adl d))++[(32:UInt8)])++(Adl f))++[(32:UInt8)])++(Adl g))++[(10:UInt8)])))) else none) else none) else none) else none) else none) else none) else none) else none) else none) else none) else none) else none) else none) else none) else none) else none) else n h
def Aez{R:Type}(N:Nat):Nat→A76 R
 |0=>fun _ _ _ _ _ _ _ _=>none
 |k+1=>fun a b c d e f g h=>Ayr N (fun a b c d e f g=>Aez N k a b c d e f g h) a b c d e f g h
def A77(Aez:Ayq)(N k:Nat):Aao Akp:=fun R x K=>Aez N k x.1.2.2.1 x.2.1.1 x.2.1.2.1 x.2.1.2.2.1 x.2.1.2.2.2.1 x.2.1.2.2.2.2.1 x.2.2.1 (fun y0=>K (.exit 0) (Aab Aud (((),()),(y0,()))))
def A78(N k:Nat):Aao Akp:=A77 @Aez N k
def Bib:Aac:=⟨B4x,[]⟩
def A1k:Aac:=⟨Cja,[]⟩
abbrev Cem(R:Type):=(List UInt8)->d3->d1->d2->d4->((List UInt8)->Int->Option R)->Option R
abbrev A0o:={R:Type}→Nat→Cem R
def Bic(Aeh:Anu)(Aez:Ayq):A0o:=fun {R} N a b c d e f=>Aeh N a b c d e fun g=>if ((g != 0)=true) then (f ([]:List UInt8) g) else Aez N N 0 a b c d e ([]:List Int) fun h=>f (List.map (fun n:Int=>UInt8.ofNat (Int.toNat n)) h) 0
def Amd:A0o:=@Bic @Aeh @Aez
def Csl(N:Nat):Ab0 Bib [A1k]:=fun R x C=>Amd N x.1.1.1 x.1.1.2.1 x.1.1.2.2.1 x.1.1.2.2.2.1 x.1.1.2.2.2.2.1 (fun y0 y1=>C.1 ((y0,y1,()),(())))
def Bsk(Amd:A0o)(N:Nat):Go.AX.Aak:=Ac1 [true] [] false 1 0 Bib [A1k] (fun R x C=>Amd N x.1.1.1 x.1.1.2.1 x.1.1.2.2.1 x.1.1.2.2.2.1 x.1.1.2.2.2.2.1 (fun y0 y1=>C.1 ((y0,y1,()),(()))))
def Bsl(N:Nat):Go.AX.Aak:=Bsk @Amd N
def Csm(N:Nat):List (Nat×Ac4):=[(13,Aaa Akp (A78 N N))]
def Cen(N:Nat):List (Nat×Go.AX.Aak):=[(14,Bdp N),(26,A1j N)]
def Bdq(N:Nat):Go.AX.Aak:=Bn9
def A0p:Aac:=⟨[(0,.agg [.val .str,.val z3,.val z1,.val z4,.val z6])],[]⟩
def Ap7:Aac:=⟨Akf,[]⟩
abbrev Bsm(R:Type):=(List UInt8)->d3->d1->d2->d4->(Bool->Option R)->Option R
abbrev A0q:={R:Type}→Nat→Bsm R
def A0r(Ajz:Awi)(Anp:A2a)(Amd:A0o)(Agi:Aqw)(Aeh:Anu):A0q:=fun {R} N a b c d e f=>Ajz N a b c d e fun g=>if (g=true) then (f true) else Anp N a b c d e fun h i=>Amd N a b c d e fun j l=>Agi N a b c d e fun m=>Aeh N a b c d e fun n=>if ((m==n)=true) then (if ((h==j)=true) then (if ((i==l)=true) then (f true) else f false) else f false) else f false
def Aov:A0q:=@A0r @Ajz @Anp @Amd @Agi @Aeh
def Cll(N:Nat):Ab0 A0p [Ap7]:=fun R x C=>Aov N x.1.1.1 x.1.1.2.1 x.1.1.2.2.1 x.1.1.2.2.2.1 x.1.1.2.2.2.2.1 (fun y0=>C.1 ((y0,()),(())))
def Bsn(Aov:A0q)(N:Nat):Go.AX.Aak:=Ac1 [true] [] false 1 0 A0p [Ap7] (fun R x C=>Aov N x.1.1.1 x.1.1.2.1 x.1.1.2.2.1 x.1.1.2.2.2.1 x.1.1.2.2.2.2.1 (fun y0=>C.1 ((y0,()),(()))))
def Bba(N:Nat):Go.AX.Aak:=Bsn @Aov N
def Clm(N:Nat):List (Nat×Ac4):=[]
def Bso(N:Nat):List (Nat×Go.AX.Aak):=[(10,Bpc N),(11,Bwh N),(12,Bsl N),(13,Bgo N),(14,Bdp N),(15,Bdq N)]
end
end Q

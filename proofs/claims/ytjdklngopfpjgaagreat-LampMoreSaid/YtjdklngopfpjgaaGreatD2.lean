/- Part D2 of the proof. -/
import Derived.Test.YtjdklngopfpjgaaGreatD1
open Go Go.AX Go.Proofs
namespace Q
noncomputable section
set_option maxRecDepth 100000
set_option linter.unusedVariables false
def A8m(Ae3:Ay2)(N k:Nat):Aa7 Ajh:=fun R x K=>Ae3 N k x.1.2.2.1 x.1.2.2.2.1 x.1.2.2.2.2.1 x.1.2.2.2.2.2.1 x.2.1.1 x.2.1.2.1 x.2.2.1 (fun y0 y1=>K (.exit 0) (Aaf Avo (((),y0,()),(y1,()))))
def A8n(N k:Nat):Aa7 Ajh:=A8m @Ae3 N k
def Bh3:Aac:=⟨[C86,B65],[]⟩
def A1c:Aac:=⟨[wq8,Aim,Aui],Cf1⟩
abbrev Cnd(R:Type):=(List UInt8)->d4->d3->d2->Int->Int->Int->Bool->(Int->Int->d0->Option R)->Option R
abbrev Azt:={R:Type}→Nat→Cnd R
def Bh4(Adg:Al5)(Abe:Ahq)(Ae3:Ay2):Azt:=fun {R} N g b h i j l c d a=>Adg N g b h i j l fun e=>if ((e != 0)=true) then (a 0 e ([]:List Int)) else Abe N c d fun m=>if ((!m)=true) then (a 0 3 ([]:List Int)) else Ae3 N N 200 b (len b) 0 c d ([]:List Int) fun f n=>if ((decide (f > 8000))=true) then (a 0 2 ([]:List Int)) else a f 0 n
def Ajm:Azt:=@Bh4 @Adg @Abe @Ae3
def Dar(N:Nat):Aas Bh3 [A1c]:=fun R x C=>Ajm N x.1.1.1 x.1.1.2.1 x.1.1.2.2.1 x.1.1.2.2.2.1 x.1.1.2.2.2.2.1 x.1.1.2.2.2.2.2.1 x.1.2.1.1 x.1.2.1.2.1 (fun y0 y1 y2=>C.1 (((),y0,y1,()),(y2,())))
def Byu(Ajm:Azt)(N:Nat):Go.AX.Aad:=Aaz [true,true] [] false 2 0 Bh3 [A1c] (fun R x C=>Ajm N x.1.1.1 x.1.1.2.1 x.1.1.2.2.1 x.1.1.2.2.2.1 x.1.1.2.2.2.2.1 x.1.1.2.2.2.2.2.1 x.1.2.1.1 x.1.2.1.2.1 (fun y0 y1 y2=>C.1 (((),y0,y1,()),(y2,()))))
def Byv(N:Nat):Go.AX.Aad:=Byu @Ajm N
def Das(N:Nat):List (Nat×Aa6):=[(19,Aab Ajh (A8n N N))]
def Cne(N:Nat):List (Nat×Go.AX.Aad):=[(77,Bl5 N),(148,Azr N),(215,Bl9 N)]
def Ae4:Code:=Tryz.f150.body.getD .skip
def Ahr:Aac:=⟨[Cu7,(1,.one (.val z1)),Cu8,Cu9,(12,.one wq0)],Cji⟩
def Avp:Aac:=⟨[Cu7,(1,.one (.val z1)),Cu8,Cu9],Cji⟩
def Bm0:Afc:=.cons (.exit 0) Avp (.nil)
abbrev A8o(R:Type):=d4->d2->Int->Int->Bool->Int->Bool->Int->Int->d3->Bool->(List UInt8)->Int->Int->Int->Int->Int->(List UInt8)->Int->(Option Nat)->d0->d1->d6->d0->d0->(d4->d2->Int->Bool->Int->Bool->Int->Int->d3->Bool->(List UInt8)->Int->Int->Int->Int->Int->(List UInt8)->Int->(Option Nat)->d0->d1->d6->d0->d0->Option R)->Option R
abbrev Bm2(R:Type):=d4->d2->Int->Int->Bool->Int->Bool->Int->Int->d3->Bool->(List UInt8)->Int->Int->Int->Int->Int->(List UInt8)->Int->(Option Nat)->d0->d1->d6->d0->d0->Option R
abbrev Ao9:={R:Type}→Nat→Nat→A8o R
def A8p{R:Type}(N:Nat)(rc:Bm2 R):A8o R:=fun c d a e f g h i j l m n o p q r s t u v w x y z b A=>if ((decide (a≤11))=true) then (if ((0≤a)∧(a<32000)) then (if (a<(len b)) then (rc c d (wi (a+1)) e f g h i j l m n o p q r s t u v w x y z (b.set a.toNat (wi (32500+a)))) else none) else none) else A c d e f g h i j l m n o p q r s t u v w x y z b
def Acs{R:Type}(N:Nat):Nat→A8o R
 |0=>fun _ _ _ _ _ _ _ _ _ _ _ _ _ _ _ _ _ _ _ _ _ _ _ _ _ _=>none
 |k+1=>fun a b c d e f g h i j l m n o p q r s t u v w x y z A=>A8p N (fun a b c d e f g h i j l m n o p q r s t u v w x y z=>Acs N k a b c d e f g h i j l m n o p q r s t u v w x y z A) a b c d e f g h i j l m n o p q r s t u v w x y z A
def Asg(Acs:Ao9)(N k:Nat):Aa7 Ahr:=fun R x K=>Acs N k x.1.1 x.1.2.1 x.1.2.2.2.2.1 x.2.1.1 x.2.1.2.1 x.2.2.1.1 x.2.2.1.2.1 x.2.2.1.2.2.2.1 x.2.2.1.2.2.2.2.1 x.2.2.1.2.2.2.2.2.1 x.2.2.1.2.2.2.2.2.2.2.2.2.2.1 x.2.2.1.2.2.2.2.2.2.2.2.2.2.2.1 x.2.2.1.2.2.2.2.2.2.2.2.2.2.2.2.1 x.2.2.1.2.2.2.2.2.2.2.2.2.2.2.2.2.1 x.2.2.1.2.2.2.2.2.2.2.2.2.2.2.2.2.2.1 x.2.2.1.2.2.2.2.2.2.2.2.2.2.2.2.2.2.2.1 x.2.2.1.2.2.2.2.2.2.2.2.2.2.2.2.2.2.2.2.1 x.2.2.1.2.2.2.2.2.2.2.2.2.2.2.2.2.2.2.2.2.2.2.1 x.2.2.1.2.2.2.2.2.2.2.2.2.2.2.2.2.2.2.2.2.2.2.2.1 x.2.2.1.2.2.2.2.2.2.2.2.2.2.2.2.2.2.2.2.2.2.2.2.2.1 x.2.2.2.1 x.2.2.2.2.1 x.2.2.2.2.2.1 x.2.2.2.2.2.2.1 x.2.2.2.2.2.2.2.1 (fun y0 y1 y2 y3 y4 y5 y6 y7 y8 y9 y10 y11 y12 y13 y14 y15 y16 y17 y18 y19 y20 y21 y22 y23=>K (.exit 0) (Aaf Avp ((y0,y1,(),(),()),((y2,y3,()),(y4,y5,(),y6,y7,y8,(),(),(),(),y9,y10,y11,y12,y13,y14,y15,(),(),y16,y17,y18,(),(),(),()),y19,y20,y21,y22,y23,()))))
def A8q(N k:Nat):Aa7 Ahr:=Asg @Acs N k
def Ag2:Aac:=⟨[Cu7,Cu8,Cu9,(42,.one (.val z1)),(43,.one wq0),(44,.one wq0)],Cji⟩
def Asx:Aac:=⟨[Cu7,Cu8,Cu9],Cji⟩
def Bjt:Afc:=.cons (.exit 2) Asx (.nil)
abbrev A5k(R:Type):=d4->d2->Int->Int->Int->Bool->Int->Bool->Int->Int->d3->Bool->(List UInt8)->Int->Int->Int->Int->Int->(List UInt8)->Int->(Option Nat)->d0->d1->d6->d0->d0->(d4->Int->Bool->Int->Bool->Int->Int->d3->Bool->(List UInt8)->Int->Int->Int->Int->Int->(List UInt8)->Int->(Option Nat)->d0->d1->d6->d0->d0->Option R)->Option R
abbrev Bju(R:Type):=d4->d2->Int->Int->Int->Bool->Int->Bool->Int->Int->d3->Bool->(List UInt8)->Int->Int->Int->Int->Int->(List UInt8)->Int->(Option Nat)->d0->d1->d6->d0->d0->Option R
abbrev An3:={R:Type}→Nat→Nat→A5k R
def A5l{R:Type}(N:Nat)(rc:Bju R):A5k R:=fun e b f a g h i j l m n o p q r s t u v w x y z A B d C=>if ((decide (a<f))=true) then (if (0≤a∧a<len b) then (let c:=(b.getD a.toNat (0,0)).1;if ((0≤c)∧(c<32000)) then (if (c<(len d)) then (rc e b f (wi (a+1)) g h i j l m n o p q r s t u v w x y z A B (d.set c.toNat (wi (32000+(b.getD a.toNat (0,0)).2)))) else none) else none) else none) else C e g h i j l m n o p q r s t u v w x y z A B d
def Ace{R:Type}(N:Nat):Nat→A5k R
 |0=>fun _ _ _ _ _ _ _ _ _ _ _ _ _ _ _ _ _ _ _ _ _ _ _ _ _ _ _=>none
 |k+1=>fun a b c d e f g h i j l m n o p q r s t u v w x y z A B=>A5l N (fun a b c d e f g h i j l m n o p q r s t u v w x y z A=>Ace N k a b c d e f g h i j l m n o p q r s t u v w x y z A B) a b c d e f g h i j l m n o p q r s t u v w x y z A B
def Aq4(Ace:An3)(N k:Nat):Aa7 Ag2:=fun R x K=>Ace N k x.1.1 x.1.2.2.2.1 x.1.2.2.2.2.1 x.1.2.2.2.2.2.1 x.2.1.1 x.2.1.2.1 x.2.2.1.1 x.2.2.1.2.1 x.2.2.1.2.2.2.1 x.2.2.1.2.2.2.2.1 x.2.2.1.2.2.2.2.2.1 x.2.2.1.2.2.2.2.2.2.2.2.2.2.1 x.2.2.1.2.2.2.2.2.2.2.2.2.2.2.1 x.2.2.1.2.2.2.2.2.2.2.2.2.2.2.2.1 x.2.2.1.2.2.2.2.2.2.2.2.2.2.2.2.2.1 x.2.2.1.2.2.2.2.2.2.2.2.2.2.2.2.2.2.1 x.2.2.1.2.2.2.2.2.2.2.2.2.2.2.2.2.2.2.1 x.2.2.1.2.2.2.2.2.2.2.2.2.2.2.2.2.2.2.2.1 x.2.2.1.2.2.2.2.2.2.2.2.2.2.2.2.2.2.2.2.2.2.2.1 x.2.2.1.2.2.2.2.2.2.2.2.2.2.2.2.2.2.2.2.2.2.2.2.1 x.2.2.1.2.2.2.2.2.2.2.2.2.2.2.2.2.2.2.2.2.2.2.2.2.1 x.2.2.2.1 x.2.2.2.2.1 x.2.2.2.2.2.1 x.2.2.2.2.2.2.1 x.2.2.2.2.2.2.2.1 (fun y0 y1 y2 y3 y4 y5 y6 y7 y8 y9 y10 y11 y12 y13 y14 y15 y16 y17 y18 y19 y20 y21 y22=>K (.exit 2) (Aaf Asx ((y0,(),(),()),((y1,y2,()),(y3,y4,(),y5,y6,y7,(),(),(),(),y8,y9,y10,y11,y12,y13,y14,(),(),y15,y16,y17,(),(),(),()),y18,y19,y20,y21,y22,()))))
def A5m(N k:Nat):Aa7 Ag2:=Aq4 @Ace N k
def Ag3:Aac:=⟨[Cu8,Cu9,(15,.one wq0),(60,.one (.val z3)),(61,.one wq0),(62,.one wq0)],Cji⟩
def Asy:Aac:=⟨[(11,.one (.ptr 32))],[(32,.cells 110 [wq0,(.val .bool),(.ptr 1000),wq0,wq0,(.val z4),(.same .nilfn),(.same .nilfn),(.same .nilfn),(.slf 33),(.val .bool),(.val .str),wq0,wq0,wq0,wq0,wq0,(.same .nilsl),(.same .nilmap),(.val .str),wq0,(.po 35),(.mp 34),.any,(.slf 36)]),C71,(34,.pmap 107 .i64 35),(35,.pool 211 z9),(36,.row 3 (.int .i64)),Dcu]⟩
def Bjv:Afc:=.cons (.exit 4) Asy (.nil)
abbrev A5n(R:Type):=Int->d4->Int->Int->Int->Bool->Int->Bool->Int->Int->d3->Bool->(List UInt8)->Int->Int->Int->Int->Int->(List UInt8)->Int->(Option Nat)->d0->d1->d6->d0->d0->(Int->Bool->Int->Int->d3->Bool->(List UInt8)->Int->Int->Int->Int->Int->(List UInt8)->Int->(Option Nat)->d0->d1->d6->d0->d0->Option R)->Option R
abbrev Bjw(R:Type):=Int->d4->Int->Int->Int->Bool->Int->Bool->Int->Int->d3->Bool->(List UInt8)->Int->Int->Int->Int->Int->(List UInt8)->Int->(Option Nat)->d0->d1->d6->d0->d0->Option R
abbrev An4:={R:Type}→Nat→Nat→A5n R
def A5o(Acq:Akh){R:Type}(N:Nat)(rc:Bjw R):A5n R:=fun a c g b h i j l m n o p q r s t u v w x y z A B f d C=>if ((decide (b<g))=true) then (if (0≤b∧b<len c) then (if ((((List.length f)+(List.length (a::([]:List Int))))*(8:Nat))≤(70368744177664:Nat)) then (Acq N ((c.getD b.toNat (([]:List UInt8),(false,([]:List Int)))).1) ((c.getD b.toNat (([]:List UInt8),(false,([]:List Int)))).2.1) ((c.getD b.toNat (([]:List UInt8),(false,([]:List Int)))).2.2) h i fun D e=>if ((len d)=32000) then (if ((0≤a)∧(a≤32000)) then (rc (wi (a+(((Min.min (List.length e) ((32000:Nat)-(Int.toNat a))):Nat):Int))) c g (wi (b+1)) h i j l m n o p q r s t u v w x y z A B (f++(a::([]:List Int))) (((List.take (Int.toNat a) d)++(List.take (Min.min (List.length e) ((32000:Nat)-(Int.toNat a))) e))++(List.drop ((Int.toNat a)+(Min.min (List.length e) ((32000:Nat)-(Int.toNat a)))) d))) else none) else none) else none) else none) else C j l m n o p q r s t u v w x y z A B f d
def Ab9{R:Type}(N:Nat):Nat→A5n R
 |0=>fun _ _ _ _ _ _ _ _ _ _ _ _ _ _ _ _ _ _ _ _ _ _ _ _ _ _ _=>none
 |k+1=>fun a b c d e f g h i j l m n o p q r s t u v w x y z A B=>A5o @Acq N (fun a b c d e f g h i j l m n o p q r s t u v w x y z A=>Ab9 N k a b c d e f g h i j l m n o p q r s t u v w x y z A B) a b c d e f g h i j l m n o p q r s t u v w x y z A B
def Aq5(Ab9:An4)(N k:Nat):Aa7 Ag3:=fun R x K=>Ab9 N k x.1.2.2.1 x.1.2.2.2.1 x.1.2.2.2.2.1 x.1.2.2.2.2.2.1 x.2.1.1 x.2.1.2.1 x.2.2.1.1 x.2.2.1.2.1 x.2.2.1.2.2.2.1 x.2.2.1.2.2.2.2.1 x.2.2.1.2.2.2.2.2.1 x.2.2.1.2.2.2.2.2.2.2.2.2.2.1 x.2.2.1.2.2.2.2.2.2.2.2.2.2.2.1 x.2.2.1.2.2.2.2.2.2.2.2.2.2.2.2.1 x.2.2.1.2.2.2.2.2.2.2.2.2.2.2.2.2.1 x.2.2.1.2.2.2.2.2.2.2.2.2.2.2.2.2.2.1 x.2.2.1.2.2.2.2.2.2.2.2.2.2.2.2.2.2.2.1 x.2.2.1.2.2.2.2.2.2.2.2.2.2.2.2.2.2.2.2.1 x.2.2.1.2.2.2.2.2.2.2.2.2.2.2.2.2.2.2.2.2.2.2.1 x.2.2.1.2.2.2.2.2.2.2.2.2.2.2.2.2.2.2.2.2.2.2.2.1 x.2.2.1.2.2.2.2.2.2.2.2.2.2.2.2.2.2.2.2.2.2.2.2.2.1 x.2.2.2.1 x.2.2.2.2.1 x.2.2.2.2.2.1 x.2.2.2.2.2.2.1 x.2.2.2.2.2.2.2.1 (fun y0 y1 y2 y3 y4 y5 y6 y7 y8 y9 y10 y11 y12 y13 y14 y15 y16 y17 y18 y19=>K (.exit 4) (Aaf Asy (((),()),((y0,y1,(),y2,y3,y4,(),(),(),(),y5,y6,y7,y8,y9,y10,y11,(),(),y12,y13,y14,(),(),(),()),y15,y16,y17,y18,y19,()))))
def A5p(N k:Nat):Aa7 Ag3:=Aq5 @Ab9 N k
def Beg:Aac:=⟨[Cu7,(1,.one (.val z1)),(2,.one (.val z4)),(3,.agg Cmf),(4,.one (.val .str))],[]⟩
def Ay3:Aac:=⟨[C15],[(32,.cells 110 [wq0,(.val .bool),(.ptr 33),wq0,wq0,(.val z4),(.same .nilfn),(.same .nilfn),(.same .nilfn),(.slf 34),(.val .bool),(.val .str),wq0,wq0,wq0,wq0,wq0,(.same .nilsl),(.same .nilmap),(.val .str),wq0,(.po 36),(.mp 35),(.vs 37 9),(.slf 38)]),(33,.row 233 (.int .i64)),Dct,(35,.pmap 107 .i64 36),(36,.pool 211 z9),(37,.cells 234 [(.fn 216),(.fn 216),(.mth 217 [32]),(.mth 218 [32]),(.mth 219 [32]),(.mth 220 [32]),(.mth 221 [32]),(.mth 222 [32]),(.mth 223 [32])]),(38,.row 3 (.int .i64))]⟩
abbrev Cjw(R:Type):=d4->d2->d3->Int->Bool->(List UInt8)->(Int->Bool->Int->Int->d3->Bool->(List UInt8)->Int->Int->Int->Int->Int->(List UInt8)->Int->(Option Nat)->d0->d0->d1->d6->d0->Option R)->Option R
abbrev Axn:={R:Type}→Nat→Cjw R
def Beh(Acs:Ao9)(Ace:An3)(Ab9:An4):Axn:=fun {R} N e f g a b h i=>Acs N N e f 1 a b a b 8000 0 g false ([]:List UInt8) 0 0 0 0 0 h 16000 (none:Option Nat) ([]:List Int) ([]:List (Int×Nat)) ([]:List ((Int×Int×Int×Bool×Bool×Int×Int×Int)×Option Nat)) ([]:List Int) (Bz4 32000 0) fun j c l m n o p q r s t u v w x y z A B C D E F G=>Ace N N j c (len c) 0 l m n o p q r s t u v w x y z A B C D E F G fun d H I J L M O P Q S T U V W X Y Z aa ab ac ad ae af=>Ab9 N N 200 d (len d) 0 H I J L M O P Q S T U V W X Y Z aa ab ac ad ae af fun ag ah ai aj ak al am an ao ap aq ar au av aw ax ay az ba bb=>i ag ah ai aj ak al am an ao ap aq ar au av aw bb ax ay az ba
def Aio:Axn:=@Beh @Acs @Ace @Ab9
def C9g(N:Nat):Aas Beg [Ay3]:=fun R x C=>Aio N x.1.1 x.1.2.1 x.1.2.2.1 x.1.2.2.2.1.1 x.1.2.2.2.1.2.1 x.1.2.2.2.2.1 (fun y0 y1 y2 y3 y4 y5 y6 y7 y8 y9 y10 y11 y12 y13 y14 y15 y16 y17 y18 y19=>C.1 (((),()),((y0,y1,(),y2,y3,y4,(),(),(),(),y5,y6,y7,y8,y9,y10,y11,(),(),y12,y13,y14,(),(),(),()),y15,y16,y17,y18,((),(),(),(),(),(),(),(),(),()),y19,())))
def Bu9(Aio:Axn)(N:Nat):Go.AX.Aad:=Aaz [true,true,true,true,true] [] false 5 0 Beg [Ay3] (fun R x C=>Aio N x.1.1 x.1.2.1 x.1.2.2.1 x.1.2.2.2.1.1 x.1.2.2.2.1.2.1 x.1.2.2.2.2.1 (fun y0 y1 y2 y3 y4 y5 y6 y7 y8 y9 y10 y11 y12 y13 y14 y15 y16 y17 y18 y19=>C.1 (((),()),((y0,y1,(),y2,y3,y4,(),(),(),(),y5,y6,y7,y8,y9,y10,y11,(),(),y12,y13,y14,(),(),(),()),y15,y16,y17,y18,((),(),(),(),(),(),(),(),(),()),y19,()))))
def Bva(N:Nat):Go.AX.Aad:=Bu9 @Aio N
def C9h(N:Nat):List (Nat×Aa6):=[(7,Aab Ahr (A8q N N)),(15,Aab Ag2 (A5m N N)),(27,Aab Ag3 (A5p N N))]
def Cjx(N:Nat):List (Nat×Go.AX.Aad):=[(215,Bl9 N)]
def Bwk:Aac:=⟨[Cmg,B65,C16,A8d,(4,.one (.fn 100))],[]⟩
def Bag:Aac:=⟨[(0,.one (.same .nilptr)),Aim],[]⟩
def Bah:Aac:=⟨[C15,Aim],[(32,.cells 110 [wq0,(.val .bool),(.ptr 33),wq0,wq0,(.val z4),(.fnp 151 [34,35]),(.same .nilfn),(.same .nilfn),(.slf 36),(.val .bool),(.val .str),wq0,wq0,wq0,wq0,wq0,(.same .nilsl),(.same .nilmap),(.val .str),wq0,(.po 38),(.mp 37),(.vs 39 9),(.slf 40)]),(33,.row 233 (.int .i64)),(34,.cells 27 C2d),(35,.cells 151 [(.fn 100)]),(36,.row 5 (.int .u8)),(37,.pmap 107 .i64 38),(38,.pool 211 z9),(39,.cells 234 [(.fn 216),(.fn 216),(.mth 217 [32]),(.mth 218 [32]),(.mth 219 [32]),(.mth 220 [32]),(.mth 221 [32]),(.mth 222 [32]),(.mth 223 [32])]),(40,.row 3 (.int .i64))]⟩
abbrev Cyr(R:Type):=(List UInt8)->d4->d2->d3->d5->Int->Bool->(List UInt8)->Int->(Int->Option R)->(Int->Int->Bool->Int->Int->d3->Bool->(List UInt8)->Int->Int->Int->Int->Int->(List UInt8)->Int->(Option Nat)->d0->(List UInt8)->d4->d2->d3->d5->d0->d1->d6->d0->Option R)->Option R
abbrev A9l:={R:Type}→Nat→Cyr R
def A2j(Abe:Ahq)(Ajm:Azt)(Aio:Axn):A9l:=fun {R} N i b e f j c d g h a l=>Abe N c d fun m=>if ((!m)=true) then (a 3) else Ajm N ([]:List UInt8) b ([]:List (Int×Int×Int)) ([]:List (Int×Int)) 0 0 c d fun I n J=>if ((n != 0)=true) then (a 2) else if ((decide ((len g) > 60000))=true) then (a 2) else if ((decide (h<0))=true) then (a 1) else if ((decide (h > 400000000))=true) then (a 1) else Aio N b e f c d g fun o p q r s t u v w x y z A B C D E F G H=>l 0 o p q r s t u v w x y z A B C D i b e f j E F G H
def Aku:A9l:=@A2j @Abe @Ajm @Aio
def Dd8(N:Nat):Aas Bwk [Bag,Bah]:=fun R x C=>Aku N x.1.1.1 x.1.1.2.1 x.1.1.2.2.1 x.1.1.2.2.2.1 x.1.1.2.2.2.2.1 x.1.2.1.1 x.1.2.1.2.1 x.1.2.2.1 x.1.2.2.2.1 (fun y0=>C.1 (((),y0,()),(()))) (fun y0 y1 y2 y3 y4 y5 y6 y7 y8 y9 y10 y11 y12 y13 y14 y15 y16 y17 y18 y19 y20 y21 y22 y23 y24 y25=>C.2.1 (((),y0,()),((y1,y2,(),y3,y4,y5,(),(),(),(),y6,y7,y8,y9,y10,y11,y12,(),(),y13,y14,y15,(),(),(),()),y16,(y17,y18,y19,y20,y21,()),((),()),y22,y23,y24,((),(),(),(),(),(),(),(),(),()),y25,())))
def Cew(Aku:A9l)(N:Nat):Go.AX.Aad:=Aaz [true,true,true,true,true] [] false 5 0 Bwk [Bag,Bah] (fun R x C=>Aku N x.1.1.1 x.1.1.2.1 x.1.1.2.2.1 x.1.1.2.2.2.1 x.1.1.2.2.2.2.1 x.1.2.1.1 x.1.2.1.2.1 x.1.2.2.1 x.1.2.2.2.1 (fun y0=>C.1 (((),y0,()),(()))) (fun y0 y1 y2 y3 y4 y5 y6 y7 y8 y9 y10 y11 y12 y13 y14 y15 y16 y17 y18 y19 y20 y21 y22 y23 y24 y25=>C.2.1 (((),y0,()),((y1,y2,(),y3,y4,y5,(),(),(),(),y6,y7,y8,y9,y10,y11,y12,(),(),y13,y14,y15,(),(),(),()),y16,(y17,y18,y19,y20,y21,()),((),()),y22,y23,y24,((),(),(),(),(),(),(),(),(),()),y25,()))))
def Cex(N:Nat):Go.AX.Aad:=Cew @Aku N
def Dd9(N:Nat):List (Nat×Aa6):=[]
def Cys(N:Nat):List (Nat×Go.AX.Aad):=[(148,Azr N),(149,Byv N),(150,Bva N)]
def A9m:Code:=Tryz.f103.body.getD .skip
def Aya:Aac:=⟨Cf0,HP0⟩
def Ao2:Aac:=⟨[(0,.one (.mp 32))],HP1⟩
abbrev Bwl(R:Type):=(S)->((S)->Option R)->Option R
abbrev Aqj:={R:Type}→Nat→Bwl R
def Afj:Aqj:=fun {R} N a b=>b a
def Bwm(N:Nat):Aas Aya [Ao2]:=fun R x C=>Afj N (C85 x.2) (fun s=>C.1 (((),()),C45 s))
def A9n(Afj:Aqj)(N:Nat):Go.AX.Aad:=Aaz [false] [false] false 1 11 Aya [Ao2] (fun R x C=>Afj N (C85 x.2) (fun s=>C.1 (((),()),C45 s)))
def A9o(N:Nat):Go.AX.Aad:=A9n @Afj N
def Bwn(N:Nat):List (Nat×Aa6):=[]
def A9p(N:Nat):List (Nat×Go.AX.Aad):=[]
def Brq:Aac:=⟨[Cmg,B65,C16,A8d],[]⟩
def A7v:Aac:=⟨[(0,.one (.same .nilptr)),Aim],[]⟩
def A7w:Aac:=⟨[C15,Aim],HP2⟩
abbrev Cv3(R:Type):=(List UInt8)->d4->d2->d3->d5->Int->Bool->(List UInt8)->Int->(Int->Option R)->(Int->(S)->Option R)->Option R
abbrev A5q:={R:Type}→Nat→Cv3 R
def Bei(Amd:A5i)(Aku:A9l)(Afj:Aqj):A5q:=fun {R} N c d e f a J L M O b P=>Amd N c d e f a fun g=>if ((g != 0)=true) then (b g) else Aku N c d e f a J L M O (fun h=>if ((h != 0)=true) then (b h) else none) fun i j l m n o p q r s t u v w x y z A B C D E F G H I=>if ((i != 0)=true) then (b i) else Afj N (⟨j,l,p,q,r,s,t,u,v,w,x,y,m,n,o,A,B,C,D,E,a,0,0,G,H,z,I,F⟩) fun Q=>P 0 (⟨j,l,p,q,r,s,t,u,v,w,x,y,m,n,o,A,B,C,D,E,a,0,0,G,H,z,I,F⟩)
def Akb:A5q:=@Bei @Amd @Aku @Afj
def Ddb(N:Nat):Aas Brq [A7v,A7w]:=fun R x C=>Akb N x.1.1.1 x.1.1.2.1 x.1.1.2.2.1 x.1.1.2.2.2.1 x.1.1.2.2.2.2.1 x.1.2.1.1 x.1.2.1.2.1 x.1.2.2.1 x.1.2.2.2.1 (fun y0=>C.1 (((),y0,()),(()))) (fun y0 s=>C.2.1 (((),y0,()),Cu3 s))
def B7t(Akb:A5q)(N:Nat):Go.AX.Aad:=Aaz [true,true,true,true] [] false 4 0 Brq [A7v,A7w] (fun R x C=>Akb N x.1.1.1 x.1.1.2.1 x.1.1.2.2.1 x.1.1.2.2.2.1 x.1.1.2.2.2.2.1 x.1.2.1.1 x.1.2.1.2.1 x.1.2.2.1 x.1.2.2.2.1 (fun y0=>C.1 (((),y0,()),(()))) (fun y0 s=>C.2.1 (((),y0,()),Cu3 s)))
def B7u(N:Nat):Go.AX.Aad:=B7t @Akb N
def Ddc(N:Nat):List (Nat×Aa6):=[]
def Cv4(N:Nat):List (Nat×Go.AX.Aad):=[(14,B7l N),(99,Cex N),(103,A9o N)]
def Ayb:Code:=Tryz.f62.body.getD .skip
def Bjx:Code:=Tryz.f104.body.getD .skip
def Bm3:Code:=Tryz.f105.body.getD .skip
def A8r:Aac:=⟨B03,HP3⟩
def Avq:Aac:=⟨[],HP3⟩
abbrev Cbu(R:Type):=Int->(S)->((S)->Option R)->Option R
abbrev Adb:={R:Type}→Nat→Cbu R
def Aae:Adb:=fun {R} N c a b=>if (a.ended=true) then (b a) else b ({a with ended:=true,ro:=([]:List UInt8),r1:=3,r2:=0,r3:=c,r4:=0})
def Cbv(N:Nat):Aas A8r [Avq]:=fun R x C=>Aae N x.1.2.1 (Acb x.2) (fun s=>C.1 ((()),Abh s))
def Ahs(Aae:Adb)(N:Nat):Go.AX.Aad:=Aaz [false,true] [] false 2 14 A8r [Avq] (fun R x C=>Aae N x.1.2.1 (Acb x.2) (fun s=>C.1 ((()),Abh s)))
def Amn(N:Nat):Go.AX.Aad:=Ahs @Aae N
def Cbw(N:Nat):List (Nat×Aa6):=[]
def Bm4(N:Nat):List (Nat×Go.AX.Aad):=[]
def A5r:Aac:=⟨Cf0,HP3⟩
def Asz:Aac:=⟨[],HP3⟩
abbrev B7v(R:Type):=(S)->((S)->Option R)->Option R
abbrev An5:={R:Type}→Nat→B7v R
def A5s(Aae:Adb):An5:=fun {R} N a c=>if (1<(((List.length a.mem):Nat):Int)) then (let d:=(wi ((List.getD a.mem (1:Nat) 0)-32000));if ((decide (d<1))=true) then (Aae N 81 ({a with steps:=1}) fun f=>c f) else if ((decide (d > (((List.length a.procs):Nat):Int)))=true) then (Aae N 81 ({a with steps:=1}) fun g=>c g) else let b:=(wi (d-1));if ((0≤b)∧(b<(((List.length a.procs):Nat):Int))) then (if ((decide ((wi (8000+(List.getD a.procs (Int.toNat b) (0,(0,0))).2.2)) > 16000))=true) then (Aae N 83 ({a with steps:=1}) fun h=>c h) else if (8000<(((List.length a.mem):Nat):Int)) then (let e:=(List.set a.mem (8000:Nat) 8000);if (8001<(len e)) then (if ((0≤b)∧(b<(((List.length a.procs):Nat):Int))) then (c ({a with steps:=1,pl:=((List.getD a.procs (Int.toNat b) (0,(0,0))).1),mem:=(List.set e (8001:Nat) (-1))})) else none) else none) else none) else none) else none
def Aec:An5:=@A5s @Aae
def C5b(N:Nat):Aas A5r [Asz]:=fun R x C=>Aec N (Acb x.2) (fun s=>C.1 ((()),Abh s))
def A5t(Aec:An5)(N:Nat):Go.AX.Aad:=Aaz [false] [] false 1 14 A5r [Asz] (fun R x C=>Aec N (Acb x.2) (fun s=>C.1 ((()),Abh s)))
def Bjy(N:Nat):Go.AX.Aad:=A5t @Aec N
def C5c(N:Nat):List (Nat×Aa6):=[]
def B7w(N:Nat):List (Nat×Go.AX.Aad):=[(105,Amn N)]
def Apo:Code:=Tryz.f63.body.getD .skip
def A9q:Code:=Tryz.f106.body.getD .skip
def Asb:Aac:=⟨[wq1,Aui],HP3⟩
def Bej:Aac:=⟨[B02,Bc6],HP3⟩
def B22:Afc:=.cons .ret Bej (.nil)
abbrev Crb(R:Type):=Int->(S)->(Int->Int->(S)->Option R)->Option R
abbrev Awl:={R:Type}→Nat→Crb R
def Bma(Abo:Aij):Awl:=fun {R} N b a c=>Abo N b (a.bits) fun d e=>c d 0 a
def Ah2:Awl:=@Bma @Abo
def Bmb(Ah2:Awl)(N:Nat):Aa7 Asb:=fun R x K=>Ah2 N x.1.2.1 (Acb x.2) (fun y0 y1 s=>K .ret (Aaf Bej ((y0,y1,()),Abh s)))
def B23(N:Nat):Aa7 Asb:=Bmb @Ah2 N
def An6:Code:=Tryz.f125.body.getD .skip
def Akv:Aac:=⟨[wq1,Aui,(17,.one (.val .bool))],HP3⟩
def A2o:Aac:=⟨Cme,HP3⟩
def A2p:Aac:=⟨Cvc,HP3⟩
def Bm5:Afc:=.cons .ret A2o (.cons .normal A2p (.nil))
abbrev Cbx(R:Type):=Int->Bool->(S)->(Int->(S)->Option R)->(Int->(S)->Option R)->Option R
abbrev Apa:={R:Type}→Nat→Cbx R
def Ad7:Apa:=fun {R} N a c b d e=>if (c=true) then (if ((0≤a)∧(a<(((List.length b.areas):Nat):Int))) then (d (List.getD b.areas (Int.toNat a) 0) b) else none) else e a b
def Ay4(Ad7:Apa)(N:Nat):Aa7 Akv:=fun R x K=>Ad7 N x.1.2.1 x.1.2.2.1 (Acb x.2) (fun y0 s=>K .ret (Aaf A2o ((y0,()),Abh s))) (fun y0 s=>K .normal (Aaf A2p ((y0,()),Abh s)))
def Bm6(N:Nat):Aa7 Akv:=Ay4 @Ad7 N
def Alt:Aac:=⟨[wq1,Aui,Bc6,Dcs],HP3⟩
def A5u:Aac:=⟨Cme,HP3⟩
def A5v:Aac:=⟨Cvc,HP3⟩
def Brr:Afc:=.cons .ret A5u (.cons .normal A5v (.nil))
abbrev Cf7(R:Type):=Int->Int->Bool->(S)->(Int->(S)->Option R)->(Int->(S)->Option R)->Option R
abbrev Anr:={R:Type}→Nat→Cf7 R
def Bbw(Ad7:Apa):Anr:=fun {R} N b c f a d e=>if (f=true) then (d (wi (a.fr+b)) a) else if ((c==3)=true) then (Ad7 N b (c==3) a (fun g h=>d g h) fun i j=>e i j) else Ad7 N b (c==6) a (fun l m=>d l m) fun n o=>e n o
def Afb:Anr:=@Bbw @Ad7
def A1d(Afb:Anr)(N:Nat):Aa7 Alt:=fun R x K=>Afb N x.1.2.1 x.1.2.2.1 x.1.2.2.2.1 (Acb x.2) (fun y0 s=>K .ret (Aaf A5u ((y0,()),Abh s))) (fun y0 s=>K .normal (Aaf A5v ((y0,()),Abh s)))
def Brs(N:Nat):Aa7 Alt:=A1d @Afb N
def Bh5:Aac:=⟨Cmi,HP3⟩
def A1e:Aac:=⟨Afp,HP3⟩
abbrev Cnf(R:Type):=Int->Int->(S)->(Int->(S)->Option R)->Option R
abbrev An7:={R:Type}→Nat→Cnf R
def Bh6(Afb:Anr):An7:=fun {R} N a c d b=>if ((a==1)=true) then (Afb N c a (a==1) d (fun e f=>b e f) fun g h=>b g h) else Afb N c a (a==4) d (fun i j=>b i j) fun l m=>b l m
def Aed:An7:=@Bh6 @Afb
def Dat(N:Nat):Aas Bh5 [A1e]:=fun R x C=>Aed N x.1.2.1 x.1.2.2.1 (Acb x.2) (fun y0 s=>C.1 ((y0,()),Abh s))
def A7x(Aed:An7)(N:Nat):Go.AX.Aad:=Aaz [false,true,true] [false] false 3 14 Bh5 [A1e] (fun R x C=>Aed N x.1.2.1 x.1.2.2.1 (Acb x.2) (fun y0 s=>C.1 ((y0,()),Abh s)))
def Bh7(N:Nat):Go.AX.Aad:=A7x @Aed N
def Dau(N:Nat):List (Nat×Aa6):=[(14,Aab Akv (Bm6 N)),(8,Aab Alt (Brs N))]
def Cng(N:Nat):List (Nat×Go.AX.Aad):=[]
def Bm7:Code:=Tryz.f72.body.getD .skip
def A8s:Aac:=⟨B03,HP3⟩
def Avr:Aac:=⟨A2n,HP3⟩
abbrev Cby(R:Type):=Int->(S)->(Int->Int->(S)->Option R)->Option R
abbrev Ae2:={R:Type}→Nat→Cby R
def Aap:Ae2:=fun {R} N a b c=>if ((decide (a<0))=true) then (c 0 80 b) else if ((decide (a≥32000))=true) then (c 0 80 b) else if ((0≤a)∧(a<32000)) then (if (a<(((List.length b.mem):Nat):Int)) then (c (List.getD b.mem (Int.toNat a) 0) 0 b) else none) else none
def Cbz(N:Nat):Aas A8s [Avr]:=fun R x C=>Aap N x.1.2.1 (Acb x.2) (fun y0 y1 s=>C.1 ((y0,y1,()),Abh s))
def Akw(Aap:Ae2)(N:Nat):Go.AX.Aad:=Aaz [false,true] [false] false 2 14 A8s [Avr] (fun R x C=>Aap N x.1.2.1 (Acb x.2) (fun y0 y1 s=>C.1 ((y0,y1,()),Abh s)))
def Amo(N:Nat):Go.AX.Aad:=Akw @Aap N
def Cb0(N:Nat):List (Nat×Aa6):=[]
def Bm8(N:Nat):List (Nat×Go.AX.Aad):=[]
def Bwo:Aac:=⟨Cmi,HP3⟩
def Bai:Aac:=⟨A2n,HP3⟩
abbrev Cyt(R:Type):=Int->Int->(S)->(Int->Int->(S)->Option R)->Option R
abbrev A2k:={R:Type}→Nat→Cyt R
def Bwp(Ah2:Awl)(Aed:An7)(Abo:Aij)(Aap:Ae2):A2k:=fun {R} N b d a c=>if ((b==0)=true) then (if ((b==7)=true) then (Ah2 N (wi (d+32000)) a fun f g h=>c f g h) else Ah2 N d a fun i j l=>c i j l) else if ((b==7)=true) then (if ((b==7)=true) then (Ah2 N (wi (d+32000)) a fun m n o=>c m n o) else Ah2 N d a fun p q r=>c p q r) else Aed N b d a fun e v=>if ((decide (b≥4))=true) then (Abo N e (a.bits) fun s w=>c s 0 a) else Aap N e a fun t u x=>c t u a
def Aic:A2k:=@Bwp @Ah2 @Aed @Abo @Aap
def Dea(N:Nat):Aas Bwo [Bai]:=fun R x C=>Aic N x.1.2.1 x.1.2.2.1 (Acb x.2) (fun y0 y1 s=>C.1 ((y0,y1,()),Abh s))
def Bwq(Aic:A2k)(N:Nat):Go.AX.Aad:=Aaz [false,true,true] [false] false 3 14 Bwo [Bai] (fun R x C=>Aic N x.1.2.1 x.1.2.2.1 (Acb x.2) (fun y0 y1 s=>C.1 ((y0,y1,()),Abh s)))
def Cey(N:Nat):Go.AX.Aad:=Bwq @Aic N
def Deb(N:Nat):List (Nat×Aa6):=[(8,Aab Asb (B23 N))]
def Cyu(N:Nat):List (Nat×Go.AX.Aad):=[(130,A9k N),(125,Bh7 N),(72,Amo N)]
def A0f:Code:=Tryz.f107.body.getD .skip
def B7x:Code:=Tryz.f168.body.getD .skip
def Brt:Aac:=⟨Amm,[]⟩
def A7y:Aac:=⟨Afp,[]⟩
abbrev Cv5(R:Type):=Bool->(Int->Option R)->Option R
abbrev Agk:={R:Type}→Nat→Cv5 R
def Aa1:Agk:=fun {R} N b a=>if (b=true) then (a (-1)) else a 0
def Cv6(N:Nat):Aas Brt [A7y]:=fun R x C=>Aa1 N x.1.1 (fun y0=>C.1 ((y0,()),(())))
def Anc(Aa1:Agk)(N:Nat):Go.AX.Aad:=Aaz [true] [] false 1 0 Brt [A7y] (fun R x C=>Aa1 N x.1.1 (fun y0=>C.1 ((y0,()),(()))))
def Aq6(N:Nat):Go.AX.Aad:=Anc @Aa1 N
def Cv7(N:Nat):List (Nat×Aa6):=[]
def B7y(N:Nat):List (Nat×Go.AX.Aad):=[]
def Aq7:Aac:=⟨[Baw,Aim,Aui,A8d,(72,.one (.val .bool))],[]⟩
def Bh8:Aac:=⟨[Cvb,Bqb],[]⟩
def Bh9:Aac:=⟨Csx,[]⟩
def B7z:Afc:=.cons .ret Bh8 (.cons .normal Bh9 (.nil))
abbrev Cv8(R:Type):=Int->Int->Int->Int->Bool->(Int->Int->Option R)->(Int->Int->Int->Int->Option R)->Option R
abbrev Azu:={R:Type}→Nat→Cv8 R
def Ags:Azu:=fun {R} N b c a d f g e=>if (f=true) then (if ((a==0)=true) then (g 0 10) else e b c a d) else e b c a d
def Bek(Ags:Azu)(N:Nat):Aa7 Aq7:=fun R x K=>Ags N x.1.1 x.1.2.1 x.1.2.2.1 x.1.2.2.2.1 x.1.2.2.2.2.1 (fun y0 y1=>K .ret (Aaf Bh8 ((y0,y1,()),(())))) (fun y0 y1 y2 y3=>K .normal (Aaf Bh9 ((y0,y1,y2,y3,()),(()))))
def B70(N:Nat):Aa7 Aq7:=Bek @Ags N
def Bru:Code:=Tryz.f169.body.getD .skip
def Bbx:Aac:=⟨[],[]⟩
def Axo:Aac:=⟨[(0,.one (.vs 32 19))],[(32,.cells 195 [(.fn 224),(.fn 225),(.fn 226),(.fn 227),(.fn 228),(.fn 229),(.fn 230),(.fn 232),(.fn 233),(.fn 234),(.fn 235),(.fn 236),(.fn 237),(.fn 238),(.fn 239),(.fn 240),(.fn 241),(.fn 242),(.fn 243)])]⟩
abbrev Cf8(R:Type):=(Option R)->Option R
abbrev Aqc:={R:Type}→Nat→Cf8 R
def Afs:Aqc:=fun {R} N a=>a
def Cf9(N:Nat):Aas Bbx [Axo]:=fun R x C=>Afs N  (C.1 (((),()),(((),(),(),(),(),(),(),(),(),(),(),(),(),(),(),(),(),(),(),()),())))
def A1f(Afs:Aqc)(N:Nat):Go.AX.Aad:=Aaz [] [] false 0 0 Bbx [Axo] (fun R x C=>Afs N  (C.1 (((),()),(((),(),(),(),(),(),(),(),(),(),(),(),(),(),(),(),(),(),(),()),()))))
def Brv(N:Nat):Go.AX.Aad:=A1f @Afs N
def Cga(N:Nat):List (Nat×Aa6):=[]
def Brw(N:Nat):List (Nat×Go.AX.Aad):=[]
def Bjz:Code:=Tryz.f224.body.getD .skip
def A5w:Aac:=⟨Ax7,[]⟩
def As0:Aac:=⟨Afp,[]⟩
abbrev B71(R:Type):=Int->Int->Int->(Int->Option R)->Option R
abbrev An8:={R:Type}→Nat→B71 R
def Aee:An8:=fun {R} N a b d c=>c (wi (a*b))
def B72(N:Nat):Aas A5w [As0]:=fun R x C=>Aee N x.1.1 x.1.2.1 x.1.2.2.1 (fun y0=>C.1 ((y0,()),(())))
def Axp(Aee:An8)(N:Nat):Go.AX.Aad:=Aaz [true,true,true] [] false 3 0 A5w [As0] (fun R x C=>Aee N x.1.1 x.1.2.1 x.1.2.2.1 (fun y0=>C.1 ((y0,()),(()))))
def Bj0(N:Nat):Go.AX.Aad:=Axp @Aee N
def B73(N:Nat):List (Nat×Aa6):=[]
def Bj1(N:Nat):List (Nat×Go.AX.Aad):=[]
def Bj2:Code:=Tryz.f225.body.getD .skip
def A5x:Aac:=⟨Ax7,[]⟩
def As1:Aac:=⟨Afp,[]⟩
abbrev B74(R:Type):=Int->Int->Int->(Int->Option R)->Option R
abbrev An9:={R:Type}→Nat→B74 R
def Aef:An9:=fun {R} N b a d c=>if (a=0) then none else c (wi (Int.tdiv b a))
def B75(N:Nat):Aas A5x [As1]:=fun R x C=>Aef N x.1.1 x.1.2.1 x.1.2.2.1 (fun y0=>C.1 ((y0,()),(())))
def Axq(Aef:An9)(N:Nat):Go.AX.Aad:=Aaz [true,true,true] [] false 3 0 A5x [As1] (fun R x C=>Aef N x.1.1 x.1.2.1 x.1.2.2.1 (fun y0=>C.1 ((y0,()),(()))))
def Bj3(N:Nat):Go.AX.Aad:=Axq @Aef N
def B76(N:Nat):List (Nat×Aa6):=[]
def Bj4(N:Nat):List (Nat×Go.AX.Aad):=[]
def Bj5:Code:=Tryz.f226.body.getD .skip
def A5y:Aac:=⟨Ax7,[]⟩
def As2:Aac:=⟨Afp,[]⟩
abbrev B77(R:Type):=Int->Int->Int->(Int->Option R)->Option R
abbrev Aoa:={R:Type}→Nat→B77 R
def Aeg:Aoa:=fun {R} N b a d c=>if (a=0) then none else c (Int.tmod b a)
def B78(N:Nat):Aas A5y [As2]:=fun R x C=>Aeg N x.1.1 x.1.2.1 x.1.2.2.1 (fun y0=>C.1 ((y0,()),(())))
def Axr(Aeg:Aoa)(N:Nat):Go.AX.Aad:=Aaz [true,true,true] [] false 3 0 A5y [As2] (fun R x C=>Aeg N x.1.1 x.1.2.1 x.1.2.2.1 (fun y0=>C.1 ((y0,()),(()))))
def Bj6(N:Nat):Go.AX.Aad:=Axr @Aeg N
def B79(N:Nat):List (Nat×Aa6):=[]
def Bj7(N:Nat):List (Nat×Go.AX.Aad):=[]
def Bj8:Code:=Tryz.f227.body.getD .skip
def A5z:Aac:=⟨Ax7,[]⟩
def As3:Aac:=⟨Afp,[]⟩
abbrev B8a(R:Type):=Int->Int->Int->(Int->Option R)->Option R
abbrev Aob:={R:Type}→Nat→B8a R
def Aeh:Aob:=fun {R} N a b d c=>c (wi (a+b))
def B8b(N:Nat):Aas A5z [As3]:=fun R x C=>Aeh N x.1.1 x.1.2.1 x.1.2.2.1 (fun y0=>C.1 ((y0,()),(())))
def Axs(Aeh:Aob)(N:Nat):Go.AX.Aad:=Aaz [true,true,true] [] false 3 0 A5z [As3] (fun R x C=>Aeh N x.1.1 x.1.2.1 x.1.2.2.1 (fun y0=>C.1 ((y0,()),(()))))
def Bj9(N:Nat):Go.AX.Aad:=Axs @Aeh N
def B8c(N:Nat):List (Nat×Aa6):=[]
def Bka(N:Nat):List (Nat×Go.AX.Aad):=[]
def Bkb:Code:=Tryz.f228.body.getD .skip
def A50:Aac:=⟨Ax7,[]⟩
def As4:Aac:=⟨Afp,[]⟩
abbrev B8d(R:Type):=Int->Int->Int->(Int->Option R)->Option R
abbrev Aoc:={R:Type}→Nat→B8d R
def Aei:Aoc:=fun {R} N a b d c=>c (wi (a-b))
def B8e(N:Nat):Aas A50 [As4]:=fun R x C=>Aei N x.1.1 x.1.2.1 x.1.2.2.1 (fun y0=>C.1 ((y0,()),(())))
def Axt(Aei:Aoc)(N:Nat):Go.AX.Aad:=Aaz [true,true,true] [] false 3 0 A50 [As4] (fun R x C=>Aei N x.1.1 x.1.2.1 x.1.2.2.1 (fun y0=>C.1 ((y0,()),(()))))
def Bkc(N:Nat):Go.AX.Aad:=Axt @Aei N
def B8f(N:Nat):List (Nat×Aa6):=[]
def Bkd(N:Nat):List (Nat×Go.AX.Aad):=[]
def Bke:Code:=Tryz.f229.body.getD .skip
def A51:Aac:=⟨Ax7,[]⟩
def As5:Aac:=⟨Afp,[]⟩
abbrev B8g(R:Type):=Int->Int->Int->(Int->Option R)->Option R
abbrev Aod:={R:Type}→Nat→B8g R
def Aej:Aod:=fun {R} N c a d b=>if ((decide (a<0))=true) then (b 0) else if ((decide (a≥d))=true) then (b 0) else if (a<0) then none else b (Bk3 .i64 c a)
def B8h(N:Nat):Aas A51 [As5]:=fun R x C=>Aej N x.1.1 x.1.2.1 x.1.2.2.1 (fun y0=>C.1 ((y0,()),(())))
def Axu(Aej:Aod)(N:Nat):Go.AX.Aad:=Aaz [true,true,true] [] false 3 0 A51 [As5] (fun R x C=>Aej N x.1.1 x.1.2.1 x.1.2.2.1 (fun y0=>C.1 ((y0,()),(()))))
def Bkf(N:Nat):Go.AX.Aad:=Axu @Aej N
def B8i(N:Nat):List (Nat×Aa6):=[]
def Bkg(N:Nat):List (Nat×Go.AX.Aad):=[]
def Bkh:Code:=Tryz.f230.body.getD .skip
def Bvb:Code:=Tryz.f231.body.getD .skip
def Bel:Aac:=⟨A2n,[]⟩
def Ay5:Aac:=⟨Afp,[]⟩
abbrev Cjy(R:Type):=Int->Int->(Int->Option R)->Option R
abbrev A36:={R:Type}→Nat→Cjy R
def Aip:A36:=fun {R} N b a c=>if (a<0) then none else c (A0j .i64 b (wi ((Bk3 .i64 1 a)-1)))
def Cjz(N:Nat):Aas Bel [Ay5]:=fun R x C=>Aip N x.1.1 x.1.2.1 (fun y0=>C.1 ((y0,()),(())))
def Bvc(Aip:A36)(N:Nat):Go.AX.Aad:=Aaz [true,true] [] false 2 0 Bel [Ay5] (fun R x C=>Aip N x.1.1 x.1.2.1 (fun y0=>C.1 ((y0,()),(()))))
def Bvd(N:Nat):Go.AX.Aad:=Bvc @Aip N
def Cj0(N:Nat):List (Nat×Aa6):=[]
def Bve(N:Nat):List (Nat×Go.AX.Aad):=[]
def A52:Aac:=⟨Ax7,[]⟩
def As6:Aac:=⟨Afp,[]⟩
abbrev B8j(R:Type):=Int->Int->Int->(Int->Option R)->Option R
abbrev Alu:={R:Type}→Nat→B8j R
def Bki(Aip:A36):Alu:=fun {R} N d a c b=>if ((decide (a<0))=true) then (b 0) else if ((decide (a≥c))=true) then (b 0) else Aip N d c fun e=>if (a<0) then none else b (Bz5 .i64 e a)
def Aek:Alu:=@Bki @Aip
def C5d(N:Nat):Aas A52 [As6]:=fun R x C=>Aek N x.1.1 x.1.2.1 x.1.2.2.1 (fun y0=>C.1 ((y0,()),(())))
def Axv(Aek:Alu)(N:Nat):Go.AX.Aad:=Aaz [true,true,true] [] false 3 0 A52 [As6] (fun R x C=>Aek N x.1.1 x.1.2.1 x.1.2.2.1 (fun y0=>C.1 ((y0,()),(()))))
def Bkj(N:Nat):Go.AX.Aad:=Axv @Aek N
def C5e(N:Nat):List (Nat×Aa6):=[]
def B8k(N:Nat):List (Nat×Go.AX.Aad):=[(231,Bvd N)]
def Bkk:Code:=Tryz.f232.body.getD .skip
def A53:Aac:=⟨Ax7,[]⟩
def As7:Aac:=⟨Afp,[]⟩
abbrev B8l(R:Type):=Int->Int->Int->(Int->Option R)->Option R
abbrev Aoe:={R:Type}→Nat→B8l R
def Ael:Aoe:=fun {R} N a b d c=>c (A0j .i64 a b)
def B8m(N:Nat):Aas A53 [As7]:=fun R x C=>Ael N x.1.1 x.1.2.1 x.1.2.2.1 (fun y0=>C.1 ((y0,()),(())))
def Axw(Ael:Aoe)(N:Nat):Go.AX.Aad:=Aaz [true,true,true] [] false 3 0 A53 [As7] (fun R x C=>Ael N x.1.1 x.1.2.1 x.1.2.2.1 (fun y0=>C.1 ((y0,()),(()))))
def Bkl(N:Nat):Go.AX.Aad:=Axw @Ael N
def B8n(N:Nat):List (Nat×Aa6):=[]
def Bkm(N:Nat):List (Nat×Go.AX.Aad):=[]
def Bkn:Code:=Tryz.f233.body.getD .skip
def A54:Aac:=⟨Ax7,[]⟩
def As8:Aac:=⟨Afp,[]⟩
abbrev B8o(R:Type):=Int->Int->Int->(Int->Option R)->Option R
abbrev Aof:={R:Type}→Nat→B8o R
def Aem:Aof:=fun {R} N a b d c=>c (orI .i64 a b)
def B8p(N:Nat):Aas A54 [As8]:=fun R x C=>Aem N x.1.1 x.1.2.1 x.1.2.2.1 (fun y0=>C.1 ((y0,()),(())))
def Axx(Aem:Aof)(N:Nat):Go.AX.Aad:=Aaz [true,true,true] [] false 3 0 A54 [As8] (fun R x C=>Aem N x.1.1 x.1.2.1 x.1.2.2.1 (fun y0=>C.1 ((y0,()),(()))))
def Bko(N:Nat):Go.AX.Aad:=Axx @Aem N
def B8q(N:Nat):List (Nat×Aa6):=[]
def Bkp(N:Nat):List (Nat×Go.AX.Aad):=[]
def Bfo:Code:=Tryz.f234.body.getD .skip
def A2q:Aac:=⟨Ax7,[]⟩
def Arj:Aac:=⟨Afp,[]⟩
abbrev B3n(R:Type):=Int->Int->Int->(Int->Option R)->Option R
abbrev Am5:={R:Type}→Nat→B3n R
def Adt:Am5:=fun {R} N a b d c=>c (Bz6 .i64 a b)
def B3o(N:Nat):Aas A2q [Arj]:=fun R x C=>Adt N x.1.1 x.1.2.1 x.1.2.2.1 (fun y0=>C.1 ((y0,()),(())))
def Avs(Adt:Am5)(N:Nat):Go.AX.Aad:=Aaz [true,true,true] [] false 3 0 A2q [Arj] (fun R x C=>Adt N x.1.1 x.1.2.1 x.1.2.2.1 (fun y0=>C.1 ((y0,()),(()))))
def Bfp(N:Nat):Go.AX.Aad:=Avs @Adt N
def B3p(N:Nat):List (Nat×Aa6):=[]
def Bfq(N:Nat):List (Nat×Go.AX.Aad):=[]
def Bfr:Code:=Tryz.f235.body.getD .skip
def A2r:Aac:=⟨Ax7,[]⟩
def Ark:Aac:=⟨Afp,[]⟩
abbrev B3q(R:Type):=Int->Int->Int->(Int->Option R)->Option R
abbrev Am6:={R:Type}→Nat→B3q R
def Adu:Am6:=fun {R} N a b d c=>c (Bz6 .i64 (-1) (Bz6 .i64 a b))
def B3r(N:Nat):Aas A2r [Ark]:=fun R x C=>Adu N x.1.1 x.1.2.1 x.1.2.2.1 (fun y0=>C.1 ((y0,()),(())))
def Avt(Adu:Am6)(N:Nat):Go.AX.Aad:=Aaz [true,true,true] [] false 3 0 A2r [Ark] (fun R x C=>Adu N x.1.1 x.1.2.1 x.1.2.2.1 (fun y0=>C.1 ((y0,()),(()))))
def Bfs(N:Nat):Go.AX.Aad:=Avt @Adu N
def B3s(N:Nat):List (Nat×Aa6):=[]
def Bft(N:Nat):List (Nat×Go.AX.Aad):=[]
def Bfu:Code:=Tryz.f236.body.getD .skip
def A2s:Aac:=⟨Ax7,[]⟩
def Arl:Aac:=⟨Afp,[]⟩
abbrev B3t(R:Type):=Int->Int->Int->(Int->Option R)->Option R
abbrev Ak2:={R:Type}→Nat→B3t R
def Bfv(Aa1:Agk):Ak2:=fun {R} N a b e c=>Aa1 N (a==b) fun d=>c d
def Adv:Ak2:=@Bfv @Aa1
def C3c(N:Nat):Aas A2s [Arl]:=fun R x C=>Adv N x.1.1 x.1.2.1 x.1.2.2.1 (fun y0=>C.1 ((y0,()),(())))
def Avu(Adv:Ak2)(N:Nat):Go.AX.Aad:=Aaz [true,true,true] [] false 3 0 A2s [Arl] (fun R x C=>Adv N x.1.1 x.1.2.1 x.1.2.2.1 (fun y0=>C.1 ((y0,()),(()))))
def Bfw(N:Nat):Go.AX.Aad:=Avu @Adv N
def C3d(N:Nat):List (Nat×Aa6):=[]
def B3u(N:Nat):List (Nat×Go.AX.Aad):=[(168,Aq6 N)]
def Bfx:Code:=Tryz.f237.body.getD .skip
def A2t:Aac:=⟨Ax7,[]⟩
def Arm:Aac:=⟨Afp,[]⟩
abbrev B3v(R:Type):=Int->Int->Int->(Int->Option R)->Option R
abbrev Ak3:={R:Type}→Nat→B3v R
def Bfy(Aa1:Agk):Ak3:=fun {R} N a b e c=>Aa1 N (a != b) fun d=>c d
def Adw:Ak3:=@Bfy @Aa1
def C3e(N:Nat):Aas A2t [Arm]:=fun R x C=>Adw N x.1.1 x.1.2.1 x.1.2.2.1 (fun y0=>C.1 ((y0,()),(())))
def Avv(Adw:Ak3)(N:Nat):Go.AX.Aad:=Aaz [true,true,true] [] false 3 0 A2t [Arm] (fun R x C=>Adw N x.1.1 x.1.2.1 x.1.2.2.1 (fun y0=>C.1 ((y0,()),(()))))
def Bfz(N:Nat):Go.AX.Aad:=Avv @Adw N
def C3f(N:Nat):List (Nat×Aa6):=[]
def B3w(N:Nat):List (Nat×Go.AX.Aad):=[(168,Aq6 N)]
def Bf0:Code:=Tryz.f238.body.getD .skip
def A2u:Aac:=⟨Ax7,[]⟩
def Arn:Aac:=⟨Afp,[]⟩
abbrev B3x(R:Type):=Int->Int->Int->(Int->Option R)->Option R
abbrev Ak4:={R:Type}→Nat→B3x R
def Bf1(Aa1:Agk):Ak4:=fun {R} N a b e c=>Aa1 N (decide (a<b)) fun d=>c d
def Adx:Ak4:=@Bf1 @Aa1
def C3g(N:Nat):Aas A2u [Arn]:=fun R x C=>Adx N x.1.1 x.1.2.1 x.1.2.2.1 (fun y0=>C.1 ((y0,()),(())))
def Avw(Adx:Ak4)(N:Nat):Go.AX.Aad:=Aaz [true,true,true] [] false 3 0 A2u [Arn] (fun R x C=>Adx N x.1.1 x.1.2.1 x.1.2.2.1 (fun y0=>C.1 ((y0,()),(()))))
def Bf2(N:Nat):Go.AX.Aad:=Avw @Adx N
def C3h(N:Nat):List (Nat×Aa6):=[]
def B3y(N:Nat):List (Nat×Go.AX.Aad):=[(168,Aq6 N)]
def Bf3:Code:=Tryz.f239.body.getD .skip
def A2v:Aac:=⟨Ax7,[]⟩
def Aro:Aac:=⟨Afp,[]⟩
abbrev B3z(R:Type):=Int->Int->Int->(Int->Option R)->Option R
abbrev Ak5:={R:Type}→Nat→B3z R
def Bf4(Aa1:Agk):Ak5:=fun {R} N a b e c=>Aa1 N (decide (a≤b)) fun d=>c d
def Ady:Ak5:=@Bf4 @Aa1
def C3i(N:Nat):Aas A2v [Aro]:=fun R x C=>Ady N x.1.1 x.1.2.1 x.1.2.2.1 (fun y0=>C.1 ((y0,()),(())))
def Avx(Ady:Ak5)(N:Nat):Go.AX.Aad:=Aaz [true,true,true] [] false 3 0 A2v [Aro] (fun R x C=>Ady N x.1.1 x.1.2.1 x.1.2.2.1 (fun y0=>C.1 ((y0,()),(()))))
def Bf5(N:Nat):Go.AX.Aad:=Avx @Ady N
def C3j(N:Nat):List (Nat×Aa6):=[]
def B30(N:Nat):List (Nat×Go.AX.Aad):=[(168,Aq6 N)]
def Bf6:Code:=Tryz.f240.body.getD .skip
def A2w:Aac:=⟨Ax7,[]⟩
def Arp:Aac:=⟨Afp,[]⟩
abbrev B31(R:Type):=Int->Int->Int->(Int->Option R)->Option R
abbrev Ak6:={R:Type}→Nat→B31 R
def Bf7(Aa1:Agk):Ak6:=fun {R} N a b e c=>Aa1 N (decide (a > b)) fun d=>c d
def Adz:Ak6:=@Bf7 @Aa1
def C3k(N:Nat):Aas A2w [Arp]:=fun R x C=>Adz N x.1.1 x.1.2.1 x.1.2.2.1 (fun y0=>C.1 ((y0,()),(())))
def Avy(Adz:Ak6)(N:Nat):Go.AX.Aad:=Aaz [true,true,true] [] false 3 0 A2w [Arp] (fun R x C=>Adz N x.1.1 x.1.2.1 x.1.2.2.1 (fun y0=>C.1 ((y0,()),(()))))
def Bf8(N:Nat):Go.AX.Aad:=Avy @Adz N
def C3l(N:Nat):List (Nat×Aa6):=[]
def B32(N:Nat):List (Nat×Go.AX.Aad):=[(168,Aq6 N)]
def Bf9:Code:=Tryz.f241.body.getD .skip
def A2x:Aac:=⟨Ax7,[]⟩
def Arq:Aac:=⟨Afp,[]⟩
abbrev B33(R:Type):=Int->Int->Int->(Int->Option R)->Option R
abbrev Ak7:={R:Type}→Nat→B33 R
def Bga(Aa1:Agk):Ak7:=fun {R} N a b e c=>Aa1 N (decide (a≥b)) fun d=>c d
def Ad0:Ak7:=@Bga @Aa1
def C3m(N:Nat):Aas A2x [Arq]:=fun R x C=>Ad0 N x.1.1 x.1.2.1 x.1.2.2.1 (fun y0=>C.1 ((y0,()),(())))
def Avz(Ad0:Ak7)(N:Nat):Go.AX.Aad:=Aaz [true,true,true] [] false 3 0 A2x [Arq] (fun R x C=>Ad0 N x.1.1 x.1.2.1 x.1.2.2.1 (fun y0=>C.1 ((y0,()),(()))))
def Bgb(N:Nat):Go.AX.Aad:=Avz @Ad0 N
def C3n(N:Nat):List (Nat×Aa6):=[]
def B34(N:Nat):List (Nat×Go.AX.Aad):=[(168,Aq6 N)]
def Bgc:Code:=Tryz.f242.body.getD .skip
def A2y:Aac:=⟨Ax7,[]⟩
def Arr:Aac:=⟨Afp,[]⟩
abbrev B35(R:Type):=Int->Int->Int->(Int->Option R)->Option R
abbrev Am7:={R:Type}→Nat→B35 R
def Ad1:Am7:=fun {R} N a c d b=>b (wi (0-a))
def B36(N:Nat):Aas A2y [Arr]:=fun R x C=>Ad1 N x.1.1 x.1.2.1 x.1.2.2.1 (fun y0=>C.1 ((y0,()),(())))
def Av0(Ad1:Am7)(N:Nat):Go.AX.Aad:=Aaz [true,true,true] [] false 3 0 A2y [Arr] (fun R x C=>Ad1 N x.1.1 x.1.2.1 x.1.2.2.1 (fun y0=>C.1 ((y0,()),(()))))
def Bgd(N:Nat):Go.AX.Aad:=Av0 @Ad1 N
def B37(N:Nat):List (Nat×Aa6):=[]
def Bge(N:Nat):List (Nat×Go.AX.Aad):=[]
def Bgf:Code:=Tryz.f243.body.getD .skip
def A2z:Aac:=⟨Ax7,[]⟩
def Ars:Aac:=⟨Afp,[]⟩
abbrev B38(R:Type):=Int->Int->Int->(Int->Option R)->Option R
abbrev Am8:={R:Type}→Nat→B38 R
def Ad2:Am8:=fun {R} N a c d b=>b (Bz6 .i64 (-1) a)
def B39(N:Nat):Aas A2z [Ars]:=fun R x C=>Ad2 N x.1.1 x.1.2.1 x.1.2.2.1 (fun y0=>C.1 ((y0,()),(())))
def Av1(Ad2:Am8)(N:Nat):Go.AX.Aad:=Aaz [true,true,true] [] false 3 0 A2z [Ars] (fun R x C=>Ad2 N x.1.1 x.1.2.1 x.1.2.2.1 (fun y0=>C.1 ((y0,()),(()))))
def Bgg(N:Nat):Go.AX.Aad:=Av1 @Ad2 N
def B4a(N:Nat):List (Nat×Aa6):=[]
def Bgh(N:Nat):List (Nat×Go.AX.Aad):=[]
def Aq8:Aac:=⟨Csx,[]⟩
def Bia:Aac:=⟨[Cvb,Bqb],[]⟩
def B8r:Afc:=.cons .ret Bia (.nil)
abbrev Cv9(R:Type):=Int->Int->Int->Int->(Int->Int->Option R)->Option R
abbrev Aut:={R:Type}→Nat→Cv9 R
def B8s(Afs:Aqc)(Aee:An8)(Aax:Akq)(Aef:An9)(Aeg:Aoa)(Aeh:Aob)(Aei:Aoc)(Aej:Aod)(Aek:Alu)(Ael:Aoe)(Aem:Aof)(Adt:Am5)(Adu:Am6)(Adv:Ak2)(Adw:Ak3)(Adx:Ak4)(Ady:Ak5)(Adz:Ak6)(Ad0:Ak7)(Ad1:Am7)(Ad2:Am8):Aut:=fun {R} N f b c a d=>Afs N (let e:=(wi (f-1));if (e=0) then (Aee N b c a fun g=>Aax N g a fun h=>d h 0) else if (e=1) then (Aef N b c a fun i=>Aax N i a fun j=>d j 0) else if (e=2) then (Aeg N b c a fun l=>Aax N l a fun m=>d m 0) else if (e=3) then (Aeh N b c a fun n=>Aax N n a fun o=>d o 0) else if (e=4) then (Aei N b c a fun p=>Aax N p a fun q=>d q 0) else if (e=5) then (Aej N b c a fun r=>Aax N r a fun s=>d s 0) else if (e=6) then (Aek N b c a fun t=>Aax N t a fun u=>d u 0) else if (e=7) then (Ael N b c a fun v=>Aax N v a fun w=>d w 0) else if (e=8) then (Aem N b c a fun x=>Aax N x a fun y=>d y 0) else if (e=9) then (Adt N b c a fun z=>Aax N z a fun A=>d A 0) else if (e=10) then (Adu N b c a fun B=>Aax N B a fun C=>d C 0) else if (e=11) then (Adv N b c a fun D=>Aax N D a fun E=>d E 0) else if (e=12) then (Adw N b c a fun F=>Aax N F a fun G=>d G 0) else if (e=13) then (Adx N b c a fun H=>Aax N H a fun I=>d I 0) else if (e=14) then (Ady N b c a fun J=>Aax N J a fun L=>d L 0) else if (e=15) then (Adz N b c a fun M=>Aax N M a fun O=>d O 0) else if (e=16) then (Ad0 N b c a fun P=>Aax N P a fun Q=>d Q 0) else if (e=17) then (Ad1 N b c a fun S=>Aax N S a fun T=>d T 0) else if (e=18) then (Ad2 N b c a fun U=>Aax N U a fun V=>d V 0) else none)
def Ahw:Aut:=@B8s @Afs @Aee @Aax @Aef @Aeg @Aeh @Aei @Aej @Aek @Ael @Aem @Adt @Adu @Adv @Adw @Adx @Ady @Adz @Ad0 @Ad1 @Ad2
def Bem(Ahw:Aut)(N:Nat):Aa7 Aq8:=fun R x K=>Ahw N x.1.1 x.1.2.1 x.1.2.2.1 x.1.2.2.2.1 (fun y0 y1=>K .ret (Aaf Bia ((y0,y1,()),(()))))
def B8t(N:Nat):Aa7 Aq8:=Bem @Ahw N
def B8u:Aac:=⟨Csx,[]⟩
def Biy:Aac:=⟨A2n,[]⟩
abbrev C5f(R:Type):=Int->Int->Int->Int->(Int->Int->Option R)->Option R
abbrev Bcc:={R:Type}→Nat→C5f R
def Bvf(Aax:Akq)(Aa1:Agk)(Ags:Azu)(Ahw:Aut):Bcc:=fun {R} N a f g e b=>Aax N f e fun c=>Aax N g e fun d=>if ((a==4)=true) then (Aax N (wi (c+d)) e fun h=>b h 0) else if ((a==5)=true) then (Aax N (wi (c-d)) e fun i=>b i 0) else if ((a==12)=true) then (Aa1 N (c==d) fun j=>b j 0) else if ((a==13)=true) then (Aa1 N (c != d) fun l=>b l 0) else if ((a==14)=true) then (Aa1 N (decide (c<d)) fun m=>b m 0) else if ((a==15)=true) then (Aa1 N (decide (c≤d)) fun n=>b n 0) else if ((a==16)=true) then (Aa1 N (decide (c > d)) fun o=>b o 0) else if ((a==17)=true) then (Aa1 N (decide (c≥d)) fun p=>b p 0) else if ((a==8)=true) then (b (A0j .i64 c d) 0) else if ((a==2)=true) then (Ags N a c d e (a==2) (fun q r=>b q r) fun s t u v=>Ahw N s t u v fun w x=>b w x) else Ags N a c d e (a==3) (fun y z=>b y z) fun A B C D=>Ahw N A B C D fun E F=>b E F
def Apb:Bcc:=@Bvf @Aax @Aa1 @Ags @Ahw
def De0(N:Nat):Aas B8u [Biy]:=fun R x C=>Apb N x.1.1 x.1.2.1 x.1.2.2.1 x.1.2.2.2.1 (fun y0 y1=>C.1 ((y0,y1,()),(())))
def B8v(Apb:Bcc)(N:Nat):Go.AX.Aad:=Aaz [true,true,true,true] [] false 4 0 B8u [Biy] (fun R x C=>Apb N x.1.1 x.1.2.1 x.1.2.2.1 x.1.2.2.2.1 (fun y0 y1=>C.1 ((y0,y1,()),(()))))
def Cp6(N:Nat):Go.AX.Aad:=B8v @Apb N
def De1(N:Nat):List (Nat×Aa6):=[(46,Aab Aq7 (B70 N)),(50,Aab Aq8 (B8t N))]
def C5g(N:Nat):List (Nat×Go.AX.Aad):=[(167,A9j N),(168,Aq6 N),(169,Brv N),(224,Bj0 N),(225,Bj3 N),(226,Bj6 N),(227,Bj9 N),(228,Bkc N),(229,Bkf N),(230,Bkj N),(232,Bkl N),(233,Bko N),(234,Bfp N),(235,Bfs N),(236,Bfw N),(237,Bfz N),(238,Bf2 N),(239,Bf5 N),(240,Bf8 N),(241,Bgb N),(242,Bgd N),(243,Bgg N)]
def A55:Code:=Tryz.f153.body.getD .skip
def Auu:Aac:=⟨Bc7,HP4⟩
def Anf:Aac:=⟨Afp,HP4⟩
abbrev Brx(R:Type):=Int->Int->Int->Int->Int->Int->(S)->(Int->(S)->Option R)->Option R
abbrev Alv:={R:Type}→Nat→Brx R
def Adh:Alv:=fun {R} N d e f g h a b c=>c 0 ({b with acc:=a})
def Bry(N:Nat):Aas Auu [Anf]:=fun R x C=>Adh N x.1.1.1 x.1.1.2.1 x.1.1.2.2.1 x.1.1.2.2.2.1 x.1.1.2.2.2.2.1 x.1.2.1 (Ait x.2) (fun y0 s=>C.1 ((y0,()),Agx s))
def Auv(Adh:Alv)(N:Nat):Go.AX.Aad:=Aaz [true,true] [] false 3 14 Auu [Anf] (fun R x C=>Adh N x.1.1.1 x.1.1.2.1 x.1.1.2.2.1 x.1.1.2.2.2.1 x.1.1.2.2.2.2.1 x.1.2.1 (Ait x.2) (fun y0 s=>C.1 ((y0,()),Agx s)))
def A56(N:Nat):Go.AX.Aad:=Auv @Adh N
def Brz(N:Nat):List (Nat×Aa6):=[]
def A57(N:Nat):List (Nat×Go.AX.Aad):=[]
def A58:Code:=Tryz.f154.body.getD .skip
def Bkq:Code:=Tryz.f113.body.getD .skip
def A59:Aac:=⟨Cmi,HP3⟩
def As9:Aac:=⟨Afp,HP3⟩
abbrev B8w(R:Type):=Int->Int->(S)->(Int->(S)->Option R)->Option R
abbrev Aog:={R:Type}→Nat→B8w R
def Ac0:Aog:=fun {R} N a d b c=>if ((decide (a<0))=true) then (c 80 b) else if ((decide (a≥32000))=true) then (c 80 b) else if ((0≤a)∧(a<32000)) then (if (a<(((List.length b.mem):Nat):Int)) then (c 0 ({b with mem:=(List.set b.mem (Int.toNat a) d)})) else none) else none
def B8x(N:Nat):Aas A59 [As9]:=fun R x C=>Ac0 N x.1.2.1 x.1.2.2.1 (Acb x.2) (fun y0 s=>C.1 ((y0,()),Abh s))
def A6a(Ac0:Aog)(N:Nat):Go.AX.Aad:=Aaz [false,true,true] [] false 3 14 A59 [As9] (fun R x C=>Ac0 N x.1.2.1 x.1.2.2.1 (Acb x.2) (fun y0 s=>C.1 ((y0,()),Abh s)))
def A6b(N:Nat):Go.AX.Aad:=A6a @Ac0 N
def B8y(N:Nat):List (Nat×Aa6):=[]
def Bkr(N:Nat):List (Nat×Go.AX.Aad):=[]
def Auw:Aac:=⟨Bc7,HP4⟩
def Ang:Aac:=⟨Afp,HP4⟩
abbrev Br0(R:Type):=Int->Int->Int->Int->Int->Int->(S)->(Int->(S)->Option R)->Option R
abbrev Ajn:={R:Type}→Nat→Br0 R
def Aux(Aed:An7)(Ac0:Aog):Ajn:=fun {R} N h b c i j l a d=>Aed N b c a fun e m=>Ac0 N e (a.acc) a fun f g=>d f g
def Ac1:Ajn:=@Aux @Aed @Ac0
def Cwa(N:Nat):Aas Auw [Ang]:=fun R x C=>Ac1 N x.1.1.1 x.1.1.2.1 x.1.1.2.2.1 x.1.1.2.2.2.1 x.1.1.2.2.2.2.1 x.1.2.1 (Ait x.2) (fun y0 s=>C.1 ((y0,()),Agx s))
def Auy(Ac1:Ajn)(N:Nat):Go.AX.Aad:=Aaz [true,true] [] false 3 14 Auw [Ang] (fun R x C=>Ac1 N x.1.1.1 x.1.1.2.1 x.1.1.2.2.1 x.1.1.2.2.2.1 x.1.1.2.2.2.2.1 x.1.2.1 (Ait x.2) (fun y0 s=>C.1 ((y0,()),Agx s)))
def A6c(N:Nat):Go.AX.Aad:=Auy @Ac1 N
def Cwb(N:Nat):List (Nat×Aa6):=[]
def Br1(N:Nat):List (Nat×Go.AX.Aad):=[(125,Bh7 N),(113,A6b N)]
def A6d:Code:=Tryz.f155.body.getD .skip
def Auz:Aac:=⟨Bc7,HP4⟩
def Anh:Aac:=⟨Afp,HP4⟩
abbrev Br2(R:Type):=Int->Int->Int->Int->Int->Int->(S)->(Int->(S)->Option R)->Option R
abbrev Alw:={R:Type}→Nat→Br2 R
def Adi:Alw:=fun {R} N c d e f g h a b=>b 0 ({a with aux:=a.acc})
def Br3(N:Nat):Aas Auz [Anh]:=fun R x C=>Adi N x.1.1.1 x.1.1.2.1 x.1.1.2.2.1 x.1.1.2.2.2.1 x.1.1.2.2.2.2.1 x.1.2.1 (Ait x.2) (fun y0 s=>C.1 ((y0,()),Agx s))
def Au0(Adi:Alw)(N:Nat):Go.AX.Aad:=Aaz [true,true] [] false 3 14 Auz [Anh] (fun R x C=>Adi N x.1.1.1 x.1.1.2.1 x.1.1.2.2.1 x.1.1.2.2.2.1 x.1.1.2.2.2.2.1 x.1.2.1 (Ait x.2) (fun y0 s=>C.1 ((y0,()),Agx s)))
def A6e(N:Nat):Go.AX.Aad:=Au0 @Adi N
def Br4(N:Nat):List (Nat×Aa6):=[]
def A6f(N:Nat):List (Nat×Go.AX.Aad):=[]
def A6g:Code:=Tryz.f156.body.getD .skip
def Au1:Aac:=⟨Bc7,HP4⟩
def Ani:Aac:=⟨Afp,HP4⟩
abbrev Br5(R:Type):=Int->Int->Int->Int->Int->Int->(S)->(Int->(S)->Option R)->Option R
abbrev Alx:={R:Type}→Nat→Br5 R
def Adj:Alx:=fun {R} N c d e f g h a b=>b 0 ({a with acc:=a.aux})
def Br6(N:Nat):Aas Au1 [Ani]:=fun R x C=>Adj N x.1.1.1 x.1.1.2.1 x.1.1.2.2.1 x.1.1.2.2.2.1 x.1.1.2.2.2.2.1 x.1.2.1 (Ait x.2) (fun y0 s=>C.1 ((y0,()),Agx s))
def Au2(Adj:Alx)(N:Nat):Go.AX.Aad:=Aaz [true,true] [] false 3 14 Au1 [Ani] (fun R x C=>Adj N x.1.1.1 x.1.1.2.1 x.1.1.2.2.1 x.1.1.2.2.2.1 x.1.1.2.2.2.2.1 x.1.2.1 (Ait x.2) (fun y0 s=>C.1 ((y0,()),Agx s)))
def A6h(N:Nat):Go.AX.Aad:=Au2 @Adj N
def Br7(N:Nat):List (Nat×Aa6):=[]
def A6i(N:Nat):List (Nat×Go.AX.Aad):=[]
def A6j:Code:=Tryz.f157.body.getD .skip
def Au3:Aac:=⟨Bc7,HP4⟩
def Anj:Aac:=⟨Afp,HP4⟩
abbrev Br8(R:Type):=Int->Int->Int->Int->Int->Int->(S)->(Int->(S)->Option R)->Option R
abbrev Ajo:={R:Type}→Nat→Br8 R
def Au4(Aap:Ae2):Ajo:=fun {R} N e f g h i j a c=>Aap N (a.acc) a fun d b l=>if ((b==0)=true) then (c b ({a with acc:=d})) else c b a
def Ac2:Ajo:=@Au4 @Aap
def Cwc(N:Nat):Aas Au3 [Anj]:=fun R x C=>Ac2 N x.1.1.1 x.1.1.2.1 x.1.1.2.2.1 x.1.1.2.2.2.1 x.1.1.2.2.2.2.1 x.1.2.1 (Ait x.2) (fun y0 s=>C.1 ((y0,()),Agx s))
def Au5(Ac2:Ajo)(N:Nat):Go.AX.Aad:=Aaz [true,true] [] false 3 14 Au3 [Anj] (fun R x C=>Ac2 N x.1.1.1 x.1.1.2.1 x.1.1.2.2.1 x.1.1.2.2.2.1 x.1.1.2.2.2.2.1 x.1.2.1 (Ait x.2) (fun y0 s=>C.1 ((y0,()),Agx s)))
def A6k(N:Nat):Go.AX.Aad:=Au5 @Ac2 N
def Cwd(N:Nat):List (Nat×Aa6):=[]
def Br9(N:Nat):List (Nat×Go.AX.Aad):=[(72,Amo N)]
def A6l:Code:=Tryz.f158.body.getD .skip
def Au6:Aac:=⟨Bc7,HP4⟩
def Ank:Aac:=⟨Afp,HP4⟩
abbrev Bsa(R:Type):=Int->Int->Int->Int->Int->Int->(S)->(Int->(S)->Option R)->Option R
abbrev Ajp:={R:Type}→Nat→Bsa R
def Au7(Ac0:Aog):Ajp:=fun {R} N f g h i j b a c=>Ac0 N b (a.acc) a fun d e=>c d e
def Ac3:Ajp:=@Au7 @Ac0
def Cwe(N:Nat):Aas Au6 [Ank]:=fun R x C=>Ac3 N x.1.1.1 x.1.1.2.1 x.1.1.2.2.1 x.1.1.2.2.2.1 x.1.1.2.2.2.2.1 x.1.2.1 (Ait x.2) (fun y0 s=>C.1 ((y0,()),Agx s))
def Au8(Ac3:Ajp)(N:Nat):Go.AX.Aad:=Aaz [true,true] [] false 3 14 Au6 [Ank] (fun R x C=>Ac3 N x.1.1.1 x.1.1.2.1 x.1.1.2.2.1 x.1.1.2.2.2.1 x.1.1.2.2.2.2.1 x.1.2.1 (Ait x.2) (fun y0 s=>C.1 ((y0,()),Agx s)))
def A6m(N:Nat):Go.AX.Aad:=Au8 @Ac3 N
def Cwf(N:Nat):List (Nat×Aa6):=[]
def Bsb(N:Nat):List (Nat×Go.AX.Aad):=[(113,A6b N)]
def A6n:Code:=Tryz.f159.body.getD .skip
def Bm9:Code:=Tryz.f115.body.getD .skip
def Aq9:Code:=Tryz.f180.body.getD .skip
def Ajq:Aac:=⟨[Aim,Bqb,B64],HP3⟩
def Awe:Aac:=⟨[B02,Bc6],HP3⟩
def Bcd:Afc:=.cons .ret Awe (.nil)
abbrev Byw(R:Type):=Int->Int->Int->(S)->(Int->Int->(S)->Option R)->Option R
abbrev Aoh:={R:Type}→Nat→Byw R
def Adm:Aoh:=fun {R} N a b c d e=>e (wi (a+b)) c d
def Azv(Adm:Aoh)(N:Nat):Aa7 Ajq:=fun R x K=>Adm N x.1.1 x.1.2.1 x.1.2.2.1 (Acb x.2) (fun y0 y1 s=>K .ret (Aaf Awe ((y0,y1,()),Abh s)))
def Bce(N:Nat):Aa7 Ajq:=Azv @Adm N
def A6o:Aac:=⟨Cmi,HP3⟩
def Ata:Aac:=⟨A2n,HP3⟩
abbrev B8z(R:Type):=Int->Int->(S)->(Int->Int->(S)->Option R)->Option R
abbrev Aly:={R:Type}→Nat→B8z R
def A6p(Adm:Aoh):Aly:=fun {R} N d b c e=>let a:=(wi (Int.tdiv c.bits 8));if (a=0) then none else let f:=(wi (Int.tdiv b a));if (a=0) then none else if ((decide ((Int.tmod b a)<0))=true) then (Adm N d (wi (f-1)) (wi ((Int.tmod b a)+a)) c fun g h i=>e g h i) else Adm N d f (Int.tmod b a) c fun j l m=>e j l m
def Acf:Aly:=@A6p @Adm
def C5h(N:Nat):Aas A6o [Ata]:=fun R x C=>Acf N x.1.2.1 x.1.2.2.1 (Acb x.2) (fun y0 y1 s=>C.1 ((y0,y1,()),Abh s))
def A6q(Acf:Aly)(N:Nat):Go.AX.Aad:=Aaz [false,true,true] [false] false 3 14 A6o [Ata] (fun R x C=>Acf N x.1.2.1 x.1.2.2.1 (Acb x.2) (fun y0 y1 s=>C.1 ((y0,y1,()),Abh s)))
def A6r(N:Nat):Go.AX.Aad:=A6q @Acf N
def C5i(N:Nat):List (Nat×Aa6):=[(10,Aab Ajq (Bce N))]
def B80(N:Nat):List (Nat×Go.AX.Aad):=[]
def Cez:Code:=Tryz.f181.body.getD .skip
def Bwr:Aac:=⟨[Baw,Aim,(2,.agg Cmf)],[]⟩
def Baj:Aac:=⟨Afp,[]⟩
abbrev Cyv(R:Type):=Int->Int->Int->Bool->(Int->Option R)->Option R
abbrev A9r:={R:Type}→Nat→Cyv R
def Ce0(Af0:Azs):A9r:=fun {R} N b c d e f=>Af0 N c d e fun a=>if (a<0) then none else f (A0j .i64 (Bz5 .i64 b a) 255)
def Aoi:A9r:=@Ce0 @Af0
def Dec(N:Nat):Aas Bwr [Baj]:=fun R x C=>Aoi N x.1.1 x.1.2.1 x.1.2.2.1.1 x.1.2.2.1.2.1 (fun y0=>C.1 ((y0,()),(())))
def Ce1(Aoi:A9r)(N:Nat):Go.AX.Aad:=Aaz [true,true,true] [] false 3 0 Bwr [Baj] (fun R x C=>Aoi N x.1.1 x.1.2.1 x.1.2.2.1.1 x.1.2.2.1.2.1 (fun y0=>C.1 ((y0,()),(()))))
def Ce2(N:Nat):Go.AX.Aad:=Ce1 @Aoi N
def Ded(N:Nat):List (Nat×Aa6):=[]
def Cyw(N:Nat):List (Nat×Go.AX.Aad):=[(263,Brl N)]
def A8t:Aac:=⟨Cmi,HP3⟩
def Av2:Aac:=⟨A2n,HP3⟩
abbrev Cb1(R:Type):=Int->Int->(S)->(Int->Int->(S)->Option R)->Option R
abbrev Ash:={R:Type}→Nat→Cb1 R
def Bna(Acf:Aly)(Aap:Ae2)(Aoi:A9r):Ash:=fun {R} N d e a b=>Acf N d e a fun f g j=>Aap N f a fun h c l=>if ((c != 0)=true) then (b 0 c a) else Aoi N h g (a.bits) (a.big) fun i=>b i 0 a
def Ag8:Ash:=@Bna @Acf @Aap @Aoi
def C6d(N:Nat):Aas A8t [Av2]:=fun R x C=>Ag8 N x.1.2.1 x.1.2.2.1 (Acb x.2) (fun y0 y1 s=>C.1 ((y0,y1,()),Abh s))
def Bnb(Ag8:Ash)(N:Nat):Go.AX.Aad:=Aaz [false,true,true] [false] false 3 14 A8t [Av2] (fun R x C=>Ag8 N x.1.2.1 x.1.2.2.1 (Acb x.2) (fun y0 y1 s=>C.1 ((y0,y1,()),Abh s)))
def Bnc(N:Nat):Go.AX.Aad:=Bnb @Ag8 N
def C6e(N:Nat):List (Nat×Aa6):=[]
def Cb2(N:Nat):List (Nat×Go.AX.Aad):=[(180,A6r N),(72,Amo N),(181,Ce2 N)]
def Au9:Aac:=⟨Bc7,HP4⟩
def Anl:Aac:=⟨Afp,HP4⟩
abbrev Bsc(R:Type):=Int->Int->Int->Int->Int->Int->(S)->(Int->(S)->Option R)->Option R
abbrev Ajr:={R:Type}→Nat→Bsc R
def Ava(Ag8:Ash):Ajr:=fun {R} N f g h i j d a c=>Ag8 N (a.acc) d a fun e b l=>if ((b==0)=true) then (c b ({a with acc:=e})) else c b a
def Ac4:Ajr:=@Ava @Ag8
def Cwg(N:Nat):Aas Au9 [Anl]:=fun R x C=>Ac4 N x.1.1.1 x.1.1.2.1 x.1.1.2.2.1 x.1.1.2.2.2.1 x.1.1.2.2.2.2.1 x.1.2.1 (Ait x.2) (fun y0 s=>C.1 ((y0,()),Agx s))
def Avb(Ac4:Ajr)(N:Nat):Go.AX.Aad:=Aaz [true,true] [] false 3 14 Au9 [Anl] (fun R x C=>Ac4 N x.1.1.1 x.1.1.2.1 x.1.1.2.2.1 x.1.1.2.2.2.1 x.1.1.2.2.2.2.1 x.1.2.1 (Ait x.2) (fun y0 s=>C.1 ((y0,()),Agx s)))
def A6s(N:Nat):Go.AX.Aad:=Avb @Ac4 N
def Cwh(N:Nat):List (Nat×Aa6):=[]
def Bsd(N:Nat):List (Nat×Go.AX.Aad):=[(115,Bnc N)]
def A6t:Code:=Tryz.f160.body.getD .skip
def Ben:Code:=Tryz.f117.body.getD .skip
def A1g:Aac:=⟨[wq1,Aim,Aui,A8d],HP3⟩
def Aqk:Aac:=⟨Afp,HP3⟩
abbrev B06(R:Type):=Int->Int->Int->(S)->(Int->(S)->Option R)->Option R
abbrev Ao3:={R:Type}→Nat→B06 R
def Beo(Acf:Aly)(Aap:Ae2)(Agm:At4):Ao3:=fun {R} N e f g a c=>Acf N e f a fun b h l=>Aap N b a fun i d m=>if ((d != 0)=true) then (c d a) else Agm N i h (A0j .i64 g 255) (a.bits) (a.big) fun j=>if ((0≤b)∧(b<32000)) then (if (b<(((List.length a.mem):Nat):Int)) then (c 0 ({a with mem:=(List.set a.mem (Int.toNat b) j)})) else none) else none
def Aft:Ao3:=@Beo @Acf @Aap @Agm
def C2p(N:Nat):Aas A1g [Aqk]:=fun R x C=>Aft N x.1.2.1 x.1.2.2.1 x.1.2.2.2.1 (Acb x.2) (fun y0 s=>C.1 ((y0,()),Abh s))
def Bep(Aft:Ao3)(N:Nat):Go.AX.Aad:=Aaz [false,true,true,true] [] false 4 14 A1g [Aqk] (fun R x C=>Aft N x.1.2.1 x.1.2.2.1 x.1.2.2.2.1 (Acb x.2) (fun y0 s=>C.1 ((y0,()),Abh s)))
def Beq(N:Nat):Go.AX.Aad:=Bep @Aft N
def C2q(N:Nat):List (Nat×Aa6):=[]
def B07(N:Nat):List (Nat×Go.AX.Aad):=[(180,A6r N),(72,Amo N),(182,Bwe N)]
def Avc:Aac:=⟨Bc7,HP4⟩
def Anm:Aac:=⟨Afp,HP4⟩
abbrev Bse(R:Type):=Int->Int->Int->Int->Int->Int->(S)->(Int->(S)->Option R)->Option R
abbrev Ajs:={R:Type}→Nat→Bse R
def Avd(Aft:Ao3):Ajs:=fun {R} N f g h i j b a c=>Aft N (a.aux) b (a.acc) a fun d e=>c d e
def Ac5:Ajs:=@Avd @Aft
def Cwi(N:Nat):Aas Avc [Anm]:=fun R x C=>Ac5 N x.1.1.1 x.1.1.2.1 x.1.1.2.2.1 x.1.1.2.2.2.1 x.1.1.2.2.2.2.1 x.1.2.1 (Ait x.2) (fun y0 s=>C.1 ((y0,()),Agx s))
def Ave(Ac5:Ajs)(N:Nat):Go.AX.Aad:=Aaz [true,true] [] false 3 14 Avc [Anm] (fun R x C=>Ac5 N x.1.1.1 x.1.1.2.1 x.1.1.2.2.1 x.1.1.2.2.2.1 x.1.1.2.2.2.2.1 x.1.2.1 (Ait x.2) (fun y0 s=>C.1 ((y0,()),Agx s)))
def A6u(N:Nat):Go.AX.Aad:=Ave @Ac5 N
def Cwj(N:Nat):List (Nat×Aa6):=[]
def Bsf(N:Nat):List (Nat×Go.AX.Aad):=[(117,Beq N)]
def A37:Code:=Tryz.f161.body.getD .skip
def A6v:Code:=Tryz.f152.body.getD .skip
def Avf:Aac:=⟨[C7z,Aim,wq4],HP4⟩
def Ann:Aac:=⟨Afp,HP4⟩
abbrev Bsg(R:Type):=Bool->Int->(S)->(Int->(S)->Option R)->Option R
abbrev Aen:={R:Type}→Nat→Bsg R
def Aat:Aen:=fun {R} N c d a b=>if (c=true) then (b 0 ({a with pl:=d})) else b 0 a
def Bsh(N:Nat):Aas Avf [Ann]:=fun R x C=>Aat N x.1.1 x.1.2.1 (Ait x.2) (fun y0 s=>C.1 ((y0,()),Agx s))
def Ajt(Aat:Aen)(N:Nat):Go.AX.Aad:=Aaz [true,true] [] false 3 14 Avf [Ann] (fun R x C=>Aat N x.1.1 x.1.2.1 (Ait x.2) (fun y0 s=>C.1 ((y0,()),Agx s)))
def Alz(N:Nat):Go.AX.Aad:=Ajt @Aat N
def Bsi(N:Nat):List (Nat×Aa6):=[]
def A6w(N:Nat):List (Nat×Go.AX.Aad):=[]
def Atb:Aac:=⟨Bc7,HP5⟩
def Amx:Aac:=⟨Afp,HP5⟩
abbrev Boc(R:Type):=Int->Int->Int->Int->Int->Int->(S)->(Int->(S)->Option R)->Option R
abbrev Ai3:={R:Type}→Nat→Boc R
def Atc(Aat:Aen):Ai3:=fun {R} N f g a h i j b c=>Aat N true a b fun d e=>c d e
def Aci:Ai3:=@Atc @Aat
def Csz(N:Nat):Aas Atb [Amx]:=fun R x C=>Aci N x.1.1.1 x.1.1.2.1 x.1.1.2.2.1 x.1.1.2.2.2.1 x.1.1.2.2.2.2.1 x.1.2.1 (Bob x.2) (fun y0 s=>C.1 ((y0,()),Bc5 s))
def Atd(Aci:Ai3)(N:Nat):Go.AX.Aad:=Aaz [true,true] [] false 3 14 Atb [Amx] (fun R x C=>Aci N x.1.1.1 x.1.1.2.1 x.1.1.2.2.1 x.1.1.2.2.2.1 x.1.1.2.2.2.2.1 x.1.2.1 (Bob x.2) (fun y0 s=>C.1 ((y0,()),Bc5 s)))
def A38(N:Nat):Go.AX.Aad:=Atd @Aci N
def Cs0(N:Nat):List (Nat×Aa6):=[]
def Bod(N:Nat):List (Nat×Go.AX.Aad):=[(152,Alz N)]
def A39:Code:=Tryz.f162.body.getD .skip
def Ate:Aac:=⟨[Cbl,Aim,wq4,(3,.one (.ptr 1))],HP5⟩
def Amy:Aac:=⟨Afp,HP5⟩
abbrev Boe(R:Type):=Int->Int->Int->Int->Int->Int->(S)->(Int->(S)->Option R)->Option R
abbrev Ai4:={R:Type}→Nat→Boe R
def Atf(Aat:Aen):Ai4:=fun {R} N f g b h i j a c=>Aat N (a.acc==0) b a fun d e=>c d e
def Acj:Ai4:=@Atf @Aat
def Cs1(N:Nat):Aas Ate [Amy]:=fun R x C=>Acj N x.1.1.1 x.1.1.2.1 x.1.1.2.2.1 x.1.1.2.2.2.1 x.1.1.2.2.2.2.1 x.1.2.1 (Bob x.2) (fun y0 s=>C.1 ((y0,()),Bc5 s))
def Atg(Acj:Ai4)(N:Nat):Go.AX.Aad:=Aaz [true,true] [] false 4 14 Ate [Amy] (fun R x C=>Acj N x.1.1.1 x.1.1.2.1 x.1.1.2.2.1 x.1.1.2.2.2.1 x.1.1.2.2.2.2.1 x.1.2.1 (Bob x.2) (fun y0 s=>C.1 ((y0,()),Bc5 s)))
def A4a(N:Nat):Go.AX.Aad:=Atg @Acj N
def Cs2(N:Nat):List (Nat×Aa6):=[]
def Bof(N:Nat):List (Nat×Go.AX.Aad):=[(152,Alz N)]
def A4b:Code:=Tryz.f163.body.getD .skip
def Ath:Aac:=⟨[Cbl,Aim,wq4,(3,.one (.ptr 1))],HP5⟩
def Amz:Aac:=⟨Afp,HP5⟩
abbrev Bog(R:Type):=Int->Int->Int->Int->Int->Int->(S)->(Int->(S)->Option R)->Option R
abbrev Ai5:={R:Type}→Nat→Bog R
def Ati(Aat:Aen):Ai5:=fun {R} N f g b h i j a c=>Aat N (a.acc != 0) b a fun d e=>c d e
def Ack:Ai5:=@Ati @Aat
def Cs3(N:Nat):Aas Ath [Amz]:=fun R x C=>Ack N x.1.1.1 x.1.1.2.1 x.1.1.2.2.1 x.1.1.2.2.2.1 x.1.1.2.2.2.2.1 x.1.2.1 (Bob x.2) (fun y0 s=>C.1 ((y0,()),Bc5 s))
def Atj(Ack:Ai5)(N:Nat):Go.AX.Aad:=Aaz [true,true] [] false 4 14 Ath [Amz] (fun R x C=>Ack N x.1.1.1 x.1.1.2.1 x.1.1.2.2.1 x.1.1.2.2.2.1 x.1.1.2.2.2.2.1 x.1.2.1 (Bob x.2) (fun y0 s=>C.1 ((y0,()),Bc5 s)))
def A4c(N:Nat):Go.AX.Aad:=Atj @Ack N
def Cs4(N:Nat):List (Nat×Aa6):=[]
def Boh(N:Nat):List (Nat×Go.AX.Aad):=[(152,Alz N)]
def A4d:Code:=Tryz.f164.body.getD .skip
def Bks:Code:=Tryz.f128.body.getD .skip
def Bsj:Code:=Tryz.f187.body.getD .skip
def Bby:Aac:=⟨Cf0,HP3⟩
def Axy:Aac:=⟨Afp,HP3⟩
abbrev Cgb(R:Type):=(S)->(Int->(S)->Option R)->Option R
abbrev A1h:={R:Type}→Nat→Cgb R
def Ag9:A1h:=fun {R} N a b=>if ((!(!(Option.isSome a.cur)))=true) then (if ((Option.isSome a.cur)=true) then (b ((pfl z9 a.pool (Option.getD a.cur (0:Nat))).2.1) a) else none) else b 16000 a
def Cgc(N:Nat):Aas Bby [Axy]:=fun R x C=>Ag9 N (Acb x.2) (fun y0 s=>C.1 ((y0,()),Abh s))
def Bsk(Ag9:A1h)(N:Nat):Go.AX.Aad:=Aaz [false] [false] false 1 14 Bby [Axy] (fun R x C=>Ag9 N (Acb x.2) (fun y0 s=>C.1 ((y0,()),Abh s)))
def Bsl(N:Nat):Go.AX.Aad:=Bsk @Ag9 N
def Cgd(N:Nat):List (Nat×Aa6):=[]
def Bsm(N:Nat):List (Nat×Go.AX.Aad):=[]
def Asi:Code:=Tryz.f188.body.getD .skip
def Ak8:Aac:=⟨B03,HP3⟩
def Azw:Aac:=⟨[Cmc],HP3⟩
def Bgi:Afc:=.cons .ret Azw (.nil)
abbrev B4b(R:Type):=Int->(S)->(Int->(S)->Option R)->Option R
abbrev Am9:={R:Type}→Nat→B4b R
def A20(Abo:Aij):Am9:=fun {R} N b a c=>Abo N b (a.bits) fun d e=>c d a
def Afl:Am9:=@A20 @Abo
def A21(Afl:Am9)(N:Nat):Aa7 Ak8:=fun R x K=>Afl N x.1.2.1 (Acb x.2) (fun y0 s=>K .ret (Aaf Azw ((y0,()),Abh s)))
def Bgj(N:Nat):Aa7 Ak8:=A21 @Afl N
def A8u:Aac:=⟨B03,HP3⟩
def Av3:Aac:=⟨Afp,HP3⟩
abbrev Cb3(R:Type):=Int->(S)->(Int->(S)->Option R)->Option R
abbrev Asj:={R:Type}→Nat→Cb3 R
def A8v(Afl:Am9):Asj:=fun {R} N a b c=>Afl N a b fun d e=>c d e
def Aha:Asj:=@A8v @Afl
def C6f(N:Nat):Aas A8u [Av3]:=fun R x C=>Aha N x.1.2.1 (Acb x.2) (fun y0 s=>C.1 ((y0,()),Abh s))
def Bnd(Aha:Asj)(N:Nat):Go.AX.Aad:=Aaz [false,true] [false] false 2 14 A8u [Av3] (fun R x C=>Aha N x.1.2.1 (Acb x.2) (fun y0 s=>C.1 ((y0,()),Abh s)))
def Bne(N:Nat):Go.AX.Aad:=Bnd @Aha N
def C6g(N:Nat):List (Nat×Aa6):=[(6,Aab Ak8 (Bgj N))]
def Cb4(N:Nat):List (Nat×Go.AX.Aad):=[(130,A9k N)]
def Af1:Code:=Tryz.f189.body.getD .skip
def Bcf:Code:=Tryz.f269.body.getD .skip
def Azx:Aac:=⟨B03,HP3⟩
def Apj:Aac:=⟨[(0,.one (.fnp 298 [32,33]))],HP6⟩
abbrev Byx(R:Type):=Int->(S)->(Int->(S)->Option R)->Option R
abbrev Aju:={R:Type}→Nat→Byx R
def Ab2:Aju:=fun {R} N a b c=>c a b
def Byy(N:Nat):Aas Azx [Apj]:=fun R x C=>Ab2 N x.1.2.1 (Acb x.2) (fun y0 s=>C.1 (((),()),C46 s y0))
def Aoj(Ab2:Aju)(N:Nat):Go.AX.Aad:=Aaz [false,true] [false] false 2 14 Azx [Apj] (fun R x C=>Ab2 N x.1.2.1 (Acb x.2) (fun y0 s=>C.1 (((),()),C46 s y0)))
def Bcg(N:Nat):Go.AX.Aad:=Aoj @Ab2 N
def Byz(N:Nat):List (Nat×Aa6):=[]
def Bch(N:Nat):List (Nat×Go.AX.Aad):=[]
def Aja:Code:=Tryz.f270.body.getD .skip
def Ber:Code:=Tryz.f299.body.getD .skip
def A72:Code:=Tryz.f298.body.getD .skip
def Awf:Aac:=⟨[Baw,wq2,(2,.one (.ptr 15))],HP7⟩
def Aoq:Aac:=⟨A2n,HP7⟩
abbrev Btm(R:Type):=Int->Int->(S)->(Int->Int->Int->(S)->Option R)->Option R
abbrev Aa0:={R:Type}→Nat→Btm R
def A73(Aap:Ae2):Aa0:=fun {R} N c b a d=>Aap N (wi ((wi ((wi (a.fr+b))+2))+c)) a fun e f g=>d e f b a
def Aaa:Aa0:=@A73 @Aap
def Cxv(N:Nat):Aas Awf [Aoq]:=fun R x C=>Aaa N x.1.1 x.2.2.2.2.2.2.2.2.2.2.2.2.2.2.2.2.1.1 (Cjf x.2) (fun y0 y1 y2 s=>C.1 ((y0,y1,()),B63 s y2))
def Abn(Aaa:Aa0)(N:Nat):Go.AX.Aad:=Aaz [true] [false] false 3 16 Awf [Aoq] (fun R x C=>Aaa N x.1.1 x.2.2.2.2.2.2.2.2.2.2.2.2.2.2.2.2.1.1 (Cjf x.2) (fun y0 y1 y2 s=>C.1 ((y0,y1,()),B63 s y2)))
def Agd(N:Nat):Go.AX.Aad:=Abn @Aaa N
def Cxw(N:Nat):List (Nat×Aa6):=[]
def Btn(N:Nat):List (Nat×Go.AX.Aad):=[(72,Amo N)]
def A1i:Aac:=⟨B04,HP8⟩
def Aql:Aac:=⟨[(0,.one (.po 10)),Aim],HP8⟩
abbrev B08(R:Type):=Int->(S)->((Option Nat)->Int->Int->(S)->Option R)->Option R
abbrev Ahx:={R:Type}→Nat→B08 R
def A1j(Aaa:Aa0):Ahx:=fun {R} N b a c=>Aaa N 0 b a fun d e f g=>if ((e != 0)=true) then (c (none:Option Nat) e b a) else if ((!(Option.isSome (Bcr d a.cos)))=true) then (c (none:Option Nat) 81 b a) else if ((Option.isSome (Bcr d a.cos))=true) then (if ((pfl z9 a.pool (Option.getD (Bcr d a.cos) (0:Nat))).2.2.2.2.1=true) then (c (none:Option Nat) 5 b a) else c (Bcr d a.cos) 0 b a) else none
def Abf:Ahx:=@A1j @Aaa
def C2r(N:Nat):Aas A1i [Aql]:=fun R x C=>Abf N x.2.2.2.2.2.2.2.2.2.2.2.2.2.2.2.2.1.1 (Aho x.2) (fun y0 y1 y2 s=>C.1 ((y0,y1,()),Afd s y2))
def Ao4(Abf:Ahx)(N:Nat):Go.AX.Aad:=Aaz [false,true] [false] false 2 16 A1i [Aql] (fun R x C=>Abf N x.2.2.2.2.2.2.2.2.2.2.2.2.2.2.2.2.1.1 (Aho x.2) (fun y0 y1 y2 s=>C.1 ((y0,y1,()),Afd s y2)))
def A1k(N:Nat):Go.AX.Aad:=Ao4 @Abf N
def C2s(N:Nat):List (Nat×Aa6):=[]
def B09(N:Nat):List (Nat×Go.AX.Aad):=[(298,Agd N)]
def By0:Code:=Tryz.f101.body.getD .skip
def Bib:Aac:=⟨[Baw,Aim,wq4],HP9⟩
def A1l:Aac:=⟨Afp,HP9⟩
abbrev Cnh(R:Type):=Int->Int->(S)->(Int->(S)->Option R)->Option R
abbrev Ago:={R:Type}→Nat→Cnh R
def Aa4:Ago:=fun {R} N d a b c=>c 0 ({b with acc:=a,aux:=0})
def Cni(N:Nat):Aas Bib [A1l]:=fun R x C=>Aa4 N x.1.1 x.1.2.1 (Csv x.2) (fun y0 s=>C.1 ((y0,()),Cjg s))
def Akr(Aa4:Ago)(N:Nat):Go.AX.Aad:=Aaz [true,true] [] false 3 14 Bib [A1l] (fun R x C=>Aa4 N x.1.1 x.1.2.1 (Csv x.2) (fun y0 s=>C.1 ((y0,()),Cjg s)))
def Azy(N:Nat):Go.AX.Aad:=Akr @Aa4 N
def Cnj(N:Nat):List (Nat×Aa6):=[]
def By1(N:Nat):List (Nat×Go.AX.Aad):=[]
def By2:Code:=Tryz.f102.body.getD .skip
def Bic:Aac:=⟨Cf0,HP9⟩
def A1m:Aac:=⟨[],HP9⟩
abbrev Cnk(R:Type):=(S)->((S)->Option R)->Option R
abbrev Aud:={R:Type}→Nat→Cnk R
def Agl:Aud:=fun {R} N a b=>b ({a with acc:=0,aux:=0})
def Cnl(N:Nat):Aas Bic [A1m]:=fun R x C=>Agl N (Csv x.2) (fun s=>C.1 ((()),Cjg s))
def A7z(Agl:Aud)(N:Nat):Go.AX.Aad:=Aaz [] [] false 1 14 Bic [A1m] (fun R x C=>Agl N (Csv x.2) (fun s=>C.1 ((()),Cjg s)))
def By3(N:Nat):Go.AX.Aad:=A7z @Agl N
def Cnm(N:Nat):List (Nat×Aa6):=[]
def By4(N:Nat):List (Nat×Go.AX.Aad):=[]
def Ah3:Aac:=⟨[wq1,(7,.one (.po 10)),B64],HP8⟩
def Avg:Aac:=⟨Cme,HP8⟩
def A9s:Afc:=.cons .ret Avg (.nil)
abbrev Bws(R:Type):=(Option Nat)->Int->Int->(S)->(Int->Int->(S)->Option R)->Option R
abbrev Aiy:={R:Type}→Nat→Bws R
def Ayc(Agl:Aud):Aiy:=fun {R} N c g h b i=>if ((Option.isSome c)=true) then (let a:=(pfl z9 b.pool (Option.getD c (0:Nat))).1;if ((Option.isSome c)=true) then (let d:=(wi (a+1));if ((Option.isSome c)=true) then (if ((0≤a)∧(a<32000)) then (if (a<(((List.length b.mem):Nat):Int)) then (let f:=(List.set b.mem (Int.toNat a) a);if ((0≤d)∧(d<32000)) then (if (d<(len f)) then (if ((Option.isSome c)=true) then (let e:=(wi (g-1));if ((0≤e)∧(e<(((List.length b.procs):Nat):Int))) then (Agl N ({b with fr:=a,pl:=((List.getD b.procs (Int.toNat e) (0,(0,0))).1),mem:=(f.set d.toNat (-1))}) fun j=>i 0 h j) else none) else none) else none) else none) else none) else none) else none) else none) else none
def Abk:Aiy:=@Ayc @Agl
def Aqm(Abk:Aiy)(N:Nat):Aa7 Ah3:=fun R x K=>Abk N x.1.2.1 x.1.2.2.1 x.2.2.2.2.2.2.2.2.2.2.2.2.2.2.2.2.1.1 (Aho x.2) (fun y0 y1 s=>K .ret (Aaf Avg ((y0,()),Afd s y1)))
def A9t(N:Nat):Aa7 Ah3:=Aqm @Abk N
def Ah4:Aac:=⟨[wq1,Aui,(7,.one (.po 10)),Bqb,B64],HP8⟩
def Avh:Aac:=⟨Cme,HP8⟩
def A9u:Afc:=.cons .ret Avh (.nil)
abbrev Bwt(R:Type):=Int->(Option Nat)->Int->Int->Int->(S)->(Int->Int->(S)->Option R)->Option R
abbrev Aiz:={R:Type}→Nat→Bwt R
def A9v(Aa4:Ago)(Abk:Aiy):Aiz:=fun {R} N n a j l h b i=>if ((Option.isSome a)=true) then (if ((Option.isSome a)=true) then (if ((Option.isSome a)=true) then (if ((Option.isSome a)=true) then (let c:=(List.set b.pool (Option.getD a (0:Nat)) (((pfl z9 b.pool (Option.getD a (0:Nat))).1,((pfl z9 b.pool (Option.getD a (0:Nat))).2.1,((pfl z9 b.pool (Option.getD a (0:Nat))).2.2.1,((pfl z9 b.pool (Option.getD a (0:Nat))).2.2.2.1,((pfl z9 b.pool (Option.getD a (0:Nat))).2.2.2.2.1,(b.fr,((pfl z9 b.pool (Option.getD a (0:Nat))).2.2.2.2.2.2.1,(pfl z9 b.pool (Option.getD a (0:Nat))).2.2.2.2.2.2.2))))))),(pnx z9 b.pool (Option.getD a (0:Nat)))));if ((Option.isSome a)=true) then (let d:=(List.set c (Option.getD a (0:Nat)) (((pfl z9 c (Option.getD a (0:Nat))).1,((pfl z9 c (Option.getD a (0:Nat))).2.1,((pfl z9 c (Option.getD a (0:Nat))).2.2.1,((pfl z9 c (Option.getD a (0:Nat))).2.2.2.1,((pfl z9 c (Option.getD a (0:Nat))).2.2.2.2.1,((pfl z9 c (Option.getD a (0:Nat))).2.2.2.2.2.1,(n,(pfl z9 c (Option.getD a (0:Nat))).2.2.2.2.2.2.2))))))),(pnx z9 c (Option.getD a (0:Nat)))));if ((Option.isSome a)=true) then (let e:=(List.set d (Option.getD a (0:Nat)) (((pfl z9 d (Option.getD a (0:Nat))).1,((pfl z9 d (Option.getD a (0:Nat))).2.1,((pfl z9 d (Option.getD a (0:Nat))).2.2.1,((pfl z9 d (Option.getD a (0:Nat))).2.2.2.1,((pfl z9 d (Option.getD a (0:Nat))).2.2.2.2.1,((pfl z9 d (Option.getD a (0:Nat))).2.2.2.2.2.1,((pfl z9 d (Option.getD a (0:Nat))).2.2.2.2.2.2.1,b.pl))))))),(pnx z9 d (Option.getD a (0:Nat)))));if ((Option.isSome a)=true) then (let m:=(List.set e (Option.getD a (0:Nat)) (((pfl z9 e (Option.getD a (0:Nat))).1,((pfl z9 e (Option.getD a (0:Nat))).2.1,((pfl z9 e (Option.getD a (0:Nat))).2.2.1,((pfl z9 e (Option.getD a (0:Nat))).2.2.2.1,(true,((pfl z9 e (Option.getD a (0:Nat))).2.2.2.2.2.1,((pfl z9 e (Option.getD a (0:Nat))).2.2.2.2.2.2.1,(pfl z9 e (Option.getD a (0:Nat))).2.2.2.2.2.2.2))))))),(pnx z9 e (Option.getD a (0:Nat)))));if ((Option.isSome a)=true) then (let f:=(List.set m (Option.getD a (0:Nat)) ((pfl z9 m (Option.getD a (0:Nat))),b.cur));if ((Option.isSome a)=true) then (if ((pfl z9 f (Option.getD a (0:Nat))).2.2.2.1=true) then (Aa4 N ((pfl z9 b.pool (Option.getD a (0:Nat))).2.2.2.2.2.2.1) j ({b with cur:=a,fr:=((pfl z9 b.pool (Option.getD a (0:Nat))).2.2.2.2.2.1),pl:=((pfl z9 b.pool (Option.getD a (0:Nat))).2.2.2.2.2.2.2),pool:=f}) fun o p=>i o h p) else if ((Option.isSome a)=true) then (let g:=(wi ((pfl z9 f (Option.getD a (0:Nat))).1+2));if ((Option.isSome a)=true) then (if ((decide (g<(pfl z9 f (Option.getD a (0:Nat))).2.1))=true) then (if ((Option.isSome a)=true) then (if ((0≤g)∧(g<32000)) then (if (g<(((List.length b.mem):Nat):Int)) then (Abk N a l h ({b with cur:=a,pool:=f,mem:=(List.set b.mem (Int.toNat g) j)}) fun q r s=>i q r s) else none) else none) else none) else Abk N a l h ({b with cur:=a,pool:=f}) fun t u v=>i t u v) else none) else none) else none) else none) else none) else none) else none) else none) else none) else none) else none
def Abu:Aiz:=@A9v @Aa4 @Abk
def Aqn(Abu:Aiz)(N:Nat):Aa7 Ah4:=fun R x K=>Abu N x.1.2.1 x.1.2.2.1 x.1.2.2.2.1 x.1.2.2.2.2.1 x.2.2.2.2.2.2.2.2.2.2.2.2.2.2.2.2.1.1 (Aho x.2) (fun y0 y1 s=>K .ret (Aaf Avh ((y0,()),Afd s y1)))
def A9w(N:Nat):Aa7 Ah4:=Aqn @Abu N
def A22:Aac:=⟨[wq1,C76,Aui],HP8⟩
def Art:Aac:=⟨Afp,HP8⟩
abbrev B4c(R:Type):=Int->Int->(S)->(Int->Int->(S)->Option R)->Option R
abbrev Ajb:={R:Type}→Nat→B4c R
def A23(Abf:Ahx)(Aaa:Aa0)(Abu:Aiz):Ajb:=fun {R} N g c a d=>Abf N c a fun b h r s=>if ((h != 0)=true) then (d h c a) else Aaa N 1 c a fun i j t u=>if ((j != 0)=true) then (d j c a) else if ((Option.isSome b)=true) then (let e:=(wi ((pfl z9 a.pool (Option.getD b (0:Nat))).2.2.1-32000));if ((Option.isSome b)=true) then (if ((!(pfl z9 a.pool (Option.getD b (0:Nat))).2.2.2.1)=true) then (if ((decide (e<1))=true) then (d 81 c a) else if ((decide (e > (((List.length a.procs):Nat):Int)))=true) then (d 81 c a) else if ((Option.isSome b)=true) then (let f:=(wi (e-1));if ((0≤f)∧(f<(((List.length a.procs):Nat):Int))) then (if ((Option.isSome b)=true) then (if ((decide ((wi ((pfl z9 a.pool (Option.getD b (0:Nat))).1+(List.getD a.procs (Int.toNat f) (0,(0,0))).2.2)) > (pfl z9 a.pool (Option.getD b (0:Nat))).2.1))=true) then (d 83 c a) else Abu N g b i e c a fun l m n=>d l m n) else none) else none) else none) else Abu N g b i e c a fun o p q=>d o p q) else none) else none
def Ab7:Ajb:=@A23 @Abf @Aaa @Abu
def C3o(N:Nat):Aas A22 [Art]:=fun R x C=>Ab7 N x.1.2.2.1 x.2.2.2.2.2.2.2.2.2.2.2.2.2.2.2.2.1.1 (Aho x.2) (fun y0 y1 s=>C.1 ((y0,()),Afd s y1))
def App(Ab7:Ajb)(N:Nat):Go.AX.Aad:=Aaz [false,true,true] [] false 3 16 A22 [Art] (fun R x C=>Ab7 N x.1.2.2.1 x.2.2.2.2.2.2.2.2.2.2.2.2.2.2.2.2.1.1 (Aho x.2) (fun y0 y1 s=>C.1 ((y0,()),Afd s y1)))
def Bgk(N:Nat):Go.AX.Aad:=App @Ab7 N
def C3p(N:Nat):List (Nat×Aa6):=[(44,Aab Ah3 (A9t N)),(26,Aab Ah4 (A9w N))]
def B4d(N:Nat):List (Nat×Go.AX.Aad):=[(299,A1k N),(298,Agd N),(101,Azy N),(102,By3 N)]
def Bnf:Code:=Tryz.f191.body.getD .skip
def A8w:Aac:=⟨[wq1,(1,.one (.po 10)),(2,.agg C2e),A8d],HP3⟩
def Av4:Aac:=⟨[],HP3⟩
abbrev Cb5(R:Type):=(Option Nat)->Int->Int->Int->Int->(S)->((S)->Option R)->Option R
abbrev Aik:={R:Type}→Nat→Cb5 R
def A8x(Aa4:Ago)(Aae:Adb):Aik:=fun {R} N a g h i j b d=>if ((Option.isSome a)=true) then (let c:=(List.set b.pool (Option.getD a (0:Nat)) (((pfl z9 b.pool (Option.getD a (0:Nat))).1,((pfl z9 b.pool (Option.getD a (0:Nat))).2.1,((pfl z9 b.pool (Option.getD a (0:Nat))).2.2.1,((pfl z9 b.pool (Option.getD a (0:Nat))).2.2.2.1,(false,((pfl z9 b.pool (Option.getD a (0:Nat))).2.2.2.2.2.1,((pfl z9 b.pool (Option.getD a (0:Nat))).2.2.2.2.2.2.1,(pfl z9 b.pool (Option.getD a (0:Nat))).2.2.2.2.2.2.2))))))),(pnx z9 b.pool (Option.getD a (0:Nat)))));if ((Option.isSome a)=true) then (if ((Option.isSome a)=true) then (Aa4 N h j ({b with cur:=(pnx z9 c (Option.getD a (0:Nat))),fr:=g,pl:=i,pool:=(List.set c (Option.getD a (0:Nat)) ((pfl z9 c (Option.getD a (0:Nat))),(none:Option Nat)))}) fun e f=>if ((e != 0)=true) then (Aae N e f fun l=>d l) else d f) else none) else none) else none
def Abi:Aik:=@A8x @Aa4 @Aae
def C6h(N:Nat):Aas A8w [Av4]:=fun R x C=>Abi N x.1.2.1 x.1.2.2.1.1 x.1.2.2.1.2.1 x.1.2.2.1.2.2.1 x.1.2.2.2.1 (Acb x.2) (fun s=>C.1 ((()),Abh s))
def Apc(Abi:Aik)(N:Nat):Go.AX.Aad:=Aaz [false,false,true,true] [] false 4 14 A8w [Av4] (fun R x C=>Abi N x.1.2.1 x.1.2.2.1.1 x.1.2.2.1.2.1 x.1.2.2.1.2.2.1 x.1.2.2.2.1 (Acb x.2) (fun s=>C.1 ((()),Abh s)))
def A8y(N:Nat):Go.AX.Aad:=Apc @Abi N
def C6i(N:Nat):List (Nat×Aa6):=[]
def Cb6(N:Nat):List (Nat×Go.AX.Aad):=[(101,Azy N),(105,Amn N)]
def Age:Aac:=⟨C2k,HP3⟩
def Atk:Aac:=⟨[],HP3⟩
def Atl:Aac:=⟨C2k,HP3⟩
def A74:Afc:=.cons .ret Atk (.cons .normal Atl (.nil))
abbrev Bto(R:Type):=Int->Int->Int->(S)->((S)->Option R)->(Int->Int->Int->(S)->Option R)->Option R
abbrev Ahk:={R:Type}→Nat→Bto R
def Awg(Abi:Aik):Ahk:=fun {R} N e f g a h i=>if ((g==0)=true) then (if ((Option.isSome a.cur)=true) then (let b:=(List.set a.pool (Option.getD a.cur (0:Nat)) (((pfl z9 a.pool (Option.getD a.cur (0:Nat))).1,((pfl z9 a.pool (Option.getD a.cur (0:Nat))).2.1,((pfl z9 a.pool (Option.getD a.cur (0:Nat))).2.2.1,(true,((pfl z9 a.pool (Option.getD a.cur (0:Nat))).2.2.2.2.1,((pfl z9 a.pool (Option.getD a.cur (0:Nat))).2.2.2.2.2.1,((pfl z9 a.pool (Option.getD a.cur (0:Nat))).2.2.2.2.2.2.1,(pfl z9 a.pool (Option.getD a.cur (0:Nat))).2.2.2.2.2.2.2))))))),(pnx z9 a.pool (Option.getD a.cur (0:Nat)))));if ((Option.isSome a.cur)=true) then (if ((Option.isSome a.cur)=true) then (if ((Option.isSome a.cur)=true) then (if ((Option.isSome a.cur)=true) then (let c:=(List.set b (Option.getD a.cur (0:Nat)) (((pfl z9 b (Option.getD a.cur (0:Nat))).1,((pfl z9 b (Option.getD a.cur (0:Nat))).2.1,((pfl z9 b (Option.getD a.cur (0:Nat))).2.2.1,((pfl z9 b (Option.getD a.cur (0:Nat))).2.2.2.1,((pfl z9 b (Option.getD a.cur (0:Nat))).2.2.2.2.1,(a.fr,((pfl z9 b (Option.getD a.cur (0:Nat))).2.2.2.2.2.2.1,(pfl z9 b (Option.getD a.cur (0:Nat))).2.2.2.2.2.2.2))))))),(pnx z9 b (Option.getD a.cur (0:Nat)))));if ((Option.isSome a.cur)=true) then (let d:=(List.set c (Option.getD a.cur (0:Nat)) (((pfl z9 c (Option.getD a.cur (0:Nat))).1,((pfl z9 c (Option.getD a.cur (0:Nat))).2.1,((pfl z9 c (Option.getD a.cur (0:Nat))).2.2.1,((pfl z9 c (Option.getD a.cur (0:Nat))).2.2.2.1,((pfl z9 c (Option.getD a.cur (0:Nat))).2.2.2.2.1,((pfl z9 c (Option.getD a.cur (0:Nat))).2.2.2.2.2.1,(e,(pfl z9 c (Option.getD a.cur (0:Nat))).2.2.2.2.2.2.2))))))),(pnx z9 c (Option.getD a.cur (0:Nat)))));if ((Option.isSome a.cur)=true) then (Abi N (a.cur) ((pfl z9 b (Option.getD a.cur (0:Nat))).2.2.2.2.2.1) ((pfl z9 b (Option.getD a.cur (0:Nat))).2.2.2.2.2.2.1) ((pfl z9 b (Option.getD a.cur (0:Nat))).2.2.2.2.2.2.2) f ({a with pool:=(List.set d (Option.getD a.cur (0:Nat)) (((pfl z9 d (Option.getD a.cur (0:Nat))).1,((pfl z9 d (Option.getD a.cur (0:Nat))).2.1,((pfl z9 d (Option.getD a.cur (0:Nat))).2.2.1,((pfl z9 d (Option.getD a.cur (0:Nat))).2.2.2.1,((pfl z9 d (Option.getD a.cur (0:Nat))).2.2.2.2.1,((pfl z9 d (Option.getD a.cur (0:Nat))).2.2.2.2.2.1,((pfl z9 d (Option.getD a.cur (0:Nat))).2.2.2.2.2.2.1,a.pl))))))),(pnx z9 d (Option.getD a.cur (0:Nat)))))}) fun j=>h j) else none) else none) else none) else none) else none) else none) else none) else i e f g a
def Aa9:Ahk:=@Awg @Abi
def Ami(Aa9:Ahk)(N:Nat):Aa7 Age:=fun R x K=>Aa9 N x.1.2.1 x.1.2.2.1 x.1.2.2.2.1 (Acb x.2) (fun s=>K .ret (Aaf Atk ((()),Abh s))) (fun y0 y1 y2 s=>K .normal (Aaf Atl (((),y0,y1,y2,()),Abh s)))
def A75(N:Nat):Aa7 Age:=Ami @Aa9 N
def Agf:Aac:=⟨[wq1,Cvb],HP3⟩
def Atm:Aac:=⟨[],HP3⟩
def A76:Afc:=.cons .normal Atm (.nil)
abbrev Btp(R:Type):=Int->(S)->((S)->Option R)->Option R
abbrev Ahl:={R:Type}→Nat→Btp R
def A77(Aae:Adb):Ahl:=fun {R} N a b c=>if ((a != 0)=true) then (Aae N a b fun d=>c d) else c b
def Abb:Ahl:=@A77 @Aae
def Amj(Abb:Ahl)(N:Nat):Aa7 Agf:=fun R x K=>Abb N x.1.2.1 (Acb x.2) (fun s=>K .normal (Aaf Atm ((()),Abh s)))
def A78(N:Nat):Aa7 Agf:=Amj @Abb N
def Agg:Aac:=⟨C2k,HP3⟩
def Atn:Aac:=⟨[],HP3⟩
def A79:Afc:=.cons .normal Atn (.nil)
abbrev Btq(R:Type):=Int->Int->Int->(S)->((S)->Option R)->Option R
abbrev Ahm:={R:Type}→Nat→Btq R
def A8a(Aa4:Ago)(Abb:Ahl):Ahm:=fun {R} N d e b a c=>if ((b==0)=true) then (if ((!a.ended)=true) then (Aa4 N d e a fun f g=>Abb N f g fun h=>c h) else Abb N b a fun i=>c i) else Abb N b a fun j=>c j
def Aav:Ahm:=@A8a @Aa4 @Abb
def Amk(Aav:Ahm)(N:Nat):Aa7 Agg:=fun R x K=>Aav N x.1.2.1 x.1.2.2.1 x.1.2.2.2.1 (Acb x.2) (fun s=>K .normal (Aaf Atn ((()),Abh s)))
def A8b(N:Nat):Aa7 Agg:=Amk @Aav N
def Bci:Code:=Tryz.f271.body.getD .skip
def Azz:Aac:=⟨B04,HP8⟩
def Apk:Aac:=⟨Afp,HP8⟩
abbrev By5(R:Type):=Int->(S)->(Int->Int->(S)->Option R)->Option R
abbrev Aid:={R:Type}→Nat→By5 R
def Az0(Abf:Ahx):Aid:=fun {R} N b a d=>Abf N b a fun e c f g=>if ((c==0)=true) then (if ((Option.isSome e)=true) then (d c b ({a with cos:=(Bk4 (pfl z9 a.pool (Option.getD e (0:Nat))).1 a.cos)})) else none) else d c b a
def Abp:Aid:=@Az0 @Abf
def C0g(N:Nat):Aas Azz [Apk]:=fun R x C=>Abp N x.2.2.2.2.2.2.2.2.2.2.2.2.2.2.2.2.1.1 (Aho x.2) (fun y0 y1 s=>C.1 ((y0,()),Afd s y1))
def Aok(Abp:Aid)(N:Nat):Go.AX.Aad:=Aaz [false,true] [] false 2 16 Azz [Apk] (fun R x C=>Abp N x.2.2.2.2.2.2.2.2.2.2.2.2.2.2.2.2.1.1 (Aho x.2) (fun y0 y1 s=>C.1 ((y0,()),Afd s y1)))
def Bcj(N:Nat):Go.AX.Aad:=Aok @Abp N
def C0h(N:Nat):List (Nat×Aa6):=[]
def By6(N:Nat):List (Nat×Go.AX.Aad):=[(299,A1k N)]
def Bng:Code:=Tryz.f216.body.getD .skip
def A8z:Aac:=⟨[(0,.one (.fnp 298 [0,15]))],HP7⟩
def Av5:Aac:=⟨A2n,HP7⟩
abbrev Cb7(R:Type):=Int->(S)->(Int->Int->Int->(S)->Option R)->Option R
abbrev Amp:={R:Type}→Nat→Cb7 R
def Adk:Amp:=fun {R} N a b c=>c 0 81 a b
def Cb8(N:Nat):Aas A8z [Av5]:=fun R x C=>Adk N x.2.2.2.2.2.2.2.2.2.2.2.2.2.2.2.2.1.1 (Cjf x.2) (fun y0 y1 y2 s=>C.1 ((y0,y1,()),B63 s y2))
def Ask(Adk:Amp)(N:Nat):Go.AX.Aad:=Aaz [true] [] false 1 16 A8z [Av5] (fun R x C=>Adk N x.2.2.2.2.2.2.2.2.2.2.2.2.2.2.2.2.1.1 (Cjf x.2) (fun y0 y1 y2 s=>C.1 ((y0,y1,()),B63 s y2)))
def Bnh(N:Nat):Go.AX.Aad:=Ask @Adk N
def Cb9(N:Nat):List (Nat×Aa6):=[]
def Bni(N:Nat):List (Nat×Go.AX.Aad):=[]
def Bnj:Code:=Tryz.f217.body.getD .skip
def A80:Aac:=⟨B04,HP8⟩
def Av6:Aac:=⟨A2n,HP8⟩
abbrev Cca(R:Type):=Int->(S)->(Int->Int->Int->(S)->Option R)->Option R
abbrev Amq:={R:Type}→Nat→Cca R
def Ac9:Amq:=fun {R} N b a c=>if ((a.inp==([]:List UInt8))=true) then (c (-1) 0 b a) else if (((0 :Int)≤(0 :Int))∧(0<(((List.length a.inp):Nat):Int))) then (if ((0≤(((List.length a.inp):Nat):Int))∧((((List.length a.inp):Nat):Int)≤(((List.length a.inp):Nat):Int))) then (if (((0 :Int)≤(1 :Int))∧(1≤(((List.length a.inp):Nat):Int))) then (c (wi (((UInt8.toNat (List.getD a.inp (0:Nat) (0:UInt8))):Nat):Int)) 0 b ({a with inp:=(List.drop (1:Nat) (List.take (Int.toNat (((List.length a.inp):Nat):Int)) a.inp))})) else none) else none) else none
def Ccb(N:Nat):Aas A80 [Av6]:=fun R x C=>Ac9 N x.2.2.2.2.2.2.2.2.2.2.2.2.2.2.2.2.1.1 (Aho x.2) (fun y0 y1 y2 s=>C.1 ((y0,y1,()),Afd s y2))
def Asl(Ac9:Amq)(N:Nat):Go.AX.Aad:=Aaz [false,true] [] false 2 16 A80 [Av6] (fun R x C=>Ac9 N x.2.2.2.2.2.2.2.2.2.2.2.2.2.2.2.2.1.1 (Aho x.2) (fun y0 y1 y2 s=>C.1 ((y0,y1,()),Afd s y2)))
def Bnk(N:Nat):Go.AX.Aad:=Asl @Ac9 N
def Ccc(N:Nat):List (Nat×Aa6):=[]
def Bnl(N:Nat):List (Nat×Go.AX.Aad):=[]
def Akx:Code:=Tryz.f218.body.getD .skip
def Aiw:Aac:=⟨[Bc6],HP8⟩
def Ayd:Aac:=⟨Cvd,HP8⟩
def Bes:Afc:=.cons .ret Ayd (.nil)
abbrev B1a(R:Type):=Int->Int->(S)->(Int->Int->Int->(S)->Option R)->Option R
abbrev Amf:={R:Type}→Nat→B1a R
def Ada:Amf:=fun {R} N a b c d=>d 0 a b c
def Ato(Ada:Amf)(N:Nat):Aa7 Aiw:=fun R x K=>Ada N x.1.1 x.2.2.2.2.2.2.2.2.2.2.2.2.2.2.2.2.1.1 (Aho x.2) (fun y0 y1 y2 s=>K .ret (Aaf Ayd ((y0,y1,()),Afd s y2)))
def Bet(N:Nat):Aa7 Aiw:=Ato @Ada N
def Ajc:Aac:=⟨[wq1,B02,Bc6],HP8⟩
def Az1:Aac:=⟨Cvd,HP8⟩
def Bgl:Afc:=.cons .ret Az1 (.nil)
abbrev B4e(R:Type):=Int->Int->Int->(S)->(Int->Int->Int->(S)->Option R)->Option R
abbrev Ak9:={R:Type}→Nat→B4e R
def Bgm(Ada:Amf):Ak9:=fun {R} N c b d a e=>if ((b==0)=true) then (if ((((List.length a.out)+(List.length ((IntKind.wrap .u8 c)::([]:List Int))))*(1:Nat))≤(70368744177664:Nat)) then (Ada N b d ({a with out:=(a.out++((IntKind.wrap .u8 c)::([]:List Int)))}) fun f g h i=>e f g h i) else none) else Ada N b d a fun j l m n=>e j l m n
def Adc:Ak9:=@Bgm @Ada
def Av7(Adc:Ak9)(N:Nat):Aa7 Ajc:=fun R x K=>Adc N x.1.2.1 x.1.2.2.1 x.2.2.2.2.2.2.2.2.2.2.2.2.2.2.2.2.1.1 (Aho x.2) (fun y0 y1 y2 s=>K .ret (Aaf Az1 ((y0,y1,()),Afd s y2)))
def Bgn(N:Nat):Aa7 Ajc:=Av7 @Adc N
def A81:Aac:=⟨B04,HP8⟩
def Av8:Aac:=⟨A2n,HP8⟩
abbrev Ccd(R:Type):=Int->(S)->(Int->Int->Int->(S)->Option R)->Option R
abbrev Aky:={R:Type}→Nat→Ccd R
def A82(Aaa:Aa0)(Adc:Ak9):Aky:=fun {R} N b a c=>Aaa N 0 b a fun d e s t=>if ((e==0)=true) then (if (((((List.length a.out):Nat):Int)==200000)=true) then (Adc N d 2 b a fun f g h i=>c f g h i) else Adc N d e b a fun j l m n=>c j l m n) else Adc N d e b a fun o p q r=>c o p q r
def Acu:Aky:=@A82 @Aaa @Adc
def C6j(N:Nat):Aas A81 [Av8]:=fun R x C=>Acu N x.2.2.2.2.2.2.2.2.2.2.2.2.2.2.2.2.1.1 (Aho x.2) (fun y0 y1 y2 s=>C.1 ((y0,y1,()),Afd s y2))
def Asm(Acu:Aky)(N:Nat):Go.AX.Aad:=Aaz [false,true] (List.replicate 32 true) false 2 16 A81 [Av8] (fun R x C=>Acu N x.2.2.2.2.2.2.2.2.2.2.2.2.2.2.2.2.1.1 (Aho x.2) (fun y0 y1 y2 s=>C.1 ((y0,y1,()),Afd s y2)))
def Bnm(N:Nat):Go.AX.Aad:=Asm @Acu N
def C6k(N:Nat):List (Nat×Aa6):=[(12,Aab Aiw (Bet N)),(8,Aab Ajc (Bgn N))]
def Cce(N:Nat):List (Nat×Go.AX.Aad):=[(298,Agd N)]
def Asn:Code:=Tryz.f219.body.getD .skip
def Akc:Aac:=⟨[Bc6],HP8⟩
def Aye:Aac:=⟨Cvd,HP8⟩
def Beu:Afc:=.cons .ret Aye (.nil)
abbrev B1b(R:Type):=Int->Int->(S)->(Int->Int->Int->(S)->Option R)->Option R
abbrev Ao5:={R:Type}→Nat→B1b R
def Ad3:Ao5:=fun {R} N a b c d=>d 0 a b c
def A1n(Ad3:Ao5)(N:Nat):Aa7 Akc:=fun R x K=>Ad3 N x.1.1 x.2.2.2.2.2.2.2.2.2.2.2.2.2.2.2.2.1.1 (Aho x.2) (fun y0 y1 y2 s=>K .ret (Aaf Aye ((y0,y1,()),Afd s y2)))
def Bev(N:Nat):Aa7 Akc:=A1n @Ad3 N
def A83:Aac:=⟨B04,HP8⟩
def Av9:Aac:=⟨A2n,HP8⟩
abbrev Ccf(R:Type):=Int->(S)->(Int->Int->Int->(S)->Option R)->Option R
abbrev Akz:={R:Type}→Nat→Ccf R
def A84(Aaa:Aa0)(Ad3:Ao5):Akz:=fun {R} N a b d=>Aaa N 0 a b fun e c o p=>if ((c==0)=true) then (Ad3 N c a ({b with ended:=true,ro:=([]:List UInt8),r1:=1,r2:=e,r3:=0,r4:=0}) fun f g h i=>d f g h i) else Ad3 N c a b fun j l m n=>d j l m n
def Acv:Akz:=@A84 @Aaa @Ad3
def C6l(N:Nat):Aas A83 [Av9]:=fun R x C=>Acv N x.2.2.2.2.2.2.2.2.2.2.2.2.2.2.2.2.1.1 (Aho x.2) (fun y0 y1 y2 s=>C.1 ((y0,y1,()),Afd s y2))
def Aso(Acv:Akz)(N:Nat):Go.AX.Aad:=Aaz [false,true] [] false 2 16 A83 [Av9] (fun R x C=>Acv N x.2.2.2.2.2.2.2.2.2.2.2.2.2.2.2.2.1.1 (Aho x.2) (fun y0 y1 y2 s=>C.1 ((y0,y1,()),Afd s y2)))
def Bnn(N:Nat):Go.AX.Aad:=Aso @Acv N
def C6m(N:Nat):List (Nat×Aa6):=[(10,Aab Akc (Bev N))]
def Ccg(N:Nat):List (Nat×Go.AX.Aad):=[(298,Agd N)]
def Bgo:Code:=Tryz.f220.body.getD .skip
def Amr:Code:=Tryz.f281.body.getD .skip
def Ahy:Aac:=⟨[wq1,Cmd,B02],HP3⟩
def Aqo:Aac:=⟨[Cmd],HP3⟩
def Bew:Afc:=.cons (.exit 0) Aqo (.nil)
abbrev A1o(R:Type):=Int->Int->(S)->(Int->(S)->Option R)->Option R
abbrev Bex(R:Type):=Int->Int->(S)->Option R
abbrev Atp:={R:Type}→Nat→Nat→A1o R
def Bey{R:Type}(N:Nat)(rc:Bex R):A1o R:=fun c a b d=>if ((decide (a<b.heap))=true) then (if ((0≤a)∧(a<32000)) then (if (a<(((List.length b.mem):Nat):Int)) then (rc c (wi (a+1)) ({b with mem:=(List.set b.mem (Int.toNat a) 0)})) else none) else none) else d c b
def Ad4{R:Type}(N:Nat):Nat→A1o R
 |0=>fun _ _ _ _=>none
 |k+1=>fun a b c d=>Bey N (fun a b c=>Ad4 N k a b c d) a b c d
def A1p(Ad4:Atp)(N k:Nat):Aa7 Ahy:=fun R x K=>Ad4 N k x.1.2.1 x.1.2.2.1 (Acb x.2) (fun y0 s=>K (.exit 0) (Aaf Aqo ((y0,()),Abh s)))
def A1q(N k:Nat):Aa7 Ahy:=A1p @Ad4 N k
def A85:Aac:=⟨B03,HP3⟩
def Awa:Aac:=⟨Afp,HP3⟩
abbrev Cch(R:Type):=Int->(S)->(Int->(S)->Option R)->Option R
abbrev Ak0:={R:Type}→Nat→Cch R
def Bno(Ad4:Atp):Ak0:=fun {R} N c a b=>if ((decide (c<0))=true) then (b 0 a) else let d:=(wi (c+1));if ((decide (d > (wi (32000-a.heap))))=true) then (b 0 a) else Ad4 N N (a.heap) (a.heap) ({a with heap:=(wi (a.heap+d))}) fun e f=>b e f
def Acg:Ak0:=@Bno @Ad4
def C6n(N:Nat):Aas A85 [Awa]:=fun R x C=>Acg N x.1.2.1 (Acb x.2) (fun y0 s=>C.1 ((y0,()),Abh s))
def Ay6(Acg:Ak0)(N:Nat):Go.AX.Aad:=Aaz [false,true] [] false 2 14 A85 [Awa] (fun R x C=>Acg N x.1.2.1 (Acb x.2) (fun y0 s=>C.1 ((y0,()),Abh s)))
def A86(N:Nat):Go.AX.Aad:=Ay6 @Acg N
def C6o(N:Nat):List (Nat×Aa6):=[(13,Aab Ahy (A1q N N))]
def Cci(N:Nat):List (Nat×Go.AX.Aad):=[]
def A24:Aac:=⟨B04,HP8⟩
def Aru:Aac:=⟨A2n,HP8⟩
abbrev B4f(R:Type):=Int->(S)->(Int->Int->Int->(S)->Option R)->Option R
abbrev Ajd:={R:Type}→Nat→B4f R
def A25(Aaa:Aa0)(Acg:Ak0):Ajd:=fun {R} N a b c=>Aaa N 0 a b fun e d h i=>if ((d != 0)=true) then (c 0 d a b) else Acg N e b fun f g=>c f 0 a g
def Ab8:Ajd:=@A25 @Aaa @Acg
def C3q(N:Nat):Aas A24 [Aru]:=fun R x C=>Ab8 N x.2.2.2.2.2.2.2.2.2.2.2.2.2.2.2.2.1.1 (Aho x.2) (fun y0 y1 y2 s=>C.1 ((y0,y1,()),Afd s y2))
def Apq(Ab8:Ajd)(N:Nat):Go.AX.Aad:=Aaz [false,true] [] false 2 16 A24 [Aru] (fun R x C=>Ab8 N x.2.2.2.2.2.2.2.2.2.2.2.2.2.2.2.2.1.1 (Aho x.2) (fun y0 y1 y2 s=>C.1 ((y0,y1,()),Afd s y2)))
def Bgp(N:Nat):Go.AX.Aad:=Apq @Ab8 N
def C3r(N:Nat):List (Nat×Aa6):=[]
def B4g(N:Nat):List (Nat×Go.AX.Aad):=[(298,Agd N),(281,A86 N)]
def Bez:Code:=Tryz.f221.body.getD .skip
def A1r:Aac:=⟨B04,HP8⟩
def Aqp:Aac:=⟨A2n,HP8⟩
abbrev B1c(R:Type):=Int->(S)->(Int->Int->Int->(S)->Option R)->Option R
abbrev Akd:={R:Type}→Nat→B1c R
def Ab4:Akd:=fun {R} N a b c=>c 0 0 a b
def B1d(N:Nat):Aas A1r [Aqp]:=fun R x C=>Ab4 N x.2.2.2.2.2.2.2.2.2.2.2.2.2.2.2.2.1.1 (Aho x.2) (fun y0 y1 y2 s=>C.1 ((y0,y1,()),Afd s y2))
def Ao6(Ab4:Akd)(N:Nat):Go.AX.Aad:=Aaz [false,true] [false] false 2 16 A1r [Aqp] (fun R x C=>Ab4 N x.2.2.2.2.2.2.2.2.2.2.2.2.2.2.2.2.1.1 (Aho x.2) (fun y0 y1 y2 s=>C.1 ((y0,y1,()),Afd s y2)))
def Be0(N:Nat):Go.AX.Aad:=Ao6 @Ab4 N
def B1e(N:Nat):List (Nat×Aa6):=[]
def Be1(N:Nat):List (Nat×Go.AX.Aad):=[]
def Ala:Code:=Tryz.f222.body.getD .skip
def Ahb:Aac:=⟨[wq1,C76,(6,.one (.ptr 1000)),(13,.one wq0)],C13⟩
def Apl:Aac:=⟨Cvd,HP8⟩
def Apm:Aac:=⟨[wq1,(6,.one (.ptr 1000))],C13⟩
def Bck:Afc:=.cons .ret Apl (.cons (.exit 0) Apm (.nil))
abbrev Az2(R:Type):=Int->Int->d0->(S)->(Int->Int->Int->(S)->Option R)->(Int->d0->(S)->Option R)->Option R
abbrev Bcl(R:Type):=Int->Int->d0->(S)->Option R
abbrev Arv:={R:Type}→Nat→Nat→Az2 R
def Az3(Aaa:Aa0){R:Type}(N:Nat)(rc:Bcl R):Az2 R:=fun a b d c f g=>if ((decide (a<3))=true) then (Aaa N a b c fun h e i j=>if ((e != 0)=true) then (f 0 e b c) else if ((0≤a)∧(a<3)) then (if (a<(len d)) then (rc (wi (a+1)) b (d.set a.toNat h) c) else none) else none) else g b d c
def Acr{R:Type}(N:Nat):Nat→Az2 R
 |0=>fun _ _ _ _ _ _=>none
 |k+1=>fun a b c d e f=>Az3 @Aaa N (fun a b c d=>Acr N k a b c d e f) a b c d e f
def Az4(Acr:Arv)(N k:Nat):Aa7 Ahb:=fun R x K=>Acr N k x.1.2.2.2.1 x.2.2.2.2.2.2.2.2.2.2.2.2.2.2.2.2.1.1 x.2.2.2.2.2.2.2.2.2.2.2.2.2.2.2.2.2.1 (Cu4 x.2) (fun y0 y1 y2 s=>K .ret (Aaf Apl ((y0,y1,()),Afd s y2))) (fun y0 y1 s=>K (.exit 0) (Aaf Apm (((),(),()),Cl8 s y0 y1)))
def Az5(N k:Nat):Aa7 Ahb:=Az4 @Acr N k
def B24:Code:=Tryz.f282.body.getD .skip
def Bmc:Aac:=⟨Csx,[]⟩
def A4e:Aac:=⟨Ax7,[]⟩
abbrev Crc(R:Type):=Int->Int->Int->Int->(Int->Int->Int->Option R)->Option R
abbrev Awm:={R:Type}→Nat→Crc R
def Bak(Aea:Aq3)(Aax:Akq):Awm:=fun {R} N e f g a c=>Aea N a fun h=>if ((!h)=true) then (c 0 0 3) else Aax N e a fun i=>Aax N f a fun j=>Aax N g a fun b=>if ((b==0)=true) then (c 0 0 10) else let d:=(wi (i*j));if (b=0) then none else Aax N (wi (Int.tdiv d b)) a fun l=>if (b=0) then none else Aax N (Int.tmod d b) a fun m=>c l m 0
def Agt:Awm:=@Bak @Aea @Aax
def Db3(N:Nat):Aas Bmc [A4e]:=fun R x C=>Agt N x.1.1 x.1.2.1 x.1.2.2.1 x.1.2.2.2.1 (fun y0 y1 y2=>C.1 ((y0,y1,y2,()),(())))
def Bmd(Agt:Awm)(N:Nat):Go.AX.Aad:=Aaz [true,true,true,true] [] false 4 0 Bmc [A4e] (fun R x C=>Agt N x.1.1 x.1.2.1 x.1.2.2.1 x.1.2.2.2.1 (fun y0 y1 y2=>C.1 ((y0,y1,y2,()),(()))))
def B25(N:Nat):Go.AX.Aad:=Bmd @Agt N
def Db4(N:Nat):List (Nat×Aa6):=[]
def Crd(N:Nat):List (Nat×Go.AX.Aad):=[(193,Bea N),(167,A9j N)]
def A26:Aac:=⟨B04,HP8⟩
def Arw:Aac:=⟨A2n,HP8⟩
abbrev B4h(R:Type):=Int->(S)->(Int->Int->Int->(S)->Option R)->Option R
abbrev Aje:={R:Type}→Nat→B4h R
def Bgq(Acr:Arv)(Agt:Awm):Aje:=fun {R} N d e b=>Acr N N 0 d ([0,0,0]) e (fun f g h i=>b f g h i) fun j a c=>if (0<(len a)) then (if (1<(len a)) then (if (2<(len a)) then (Agt N (List.getD a (0:Nat) 0) (List.getD a (1:Nat) 0) (List.getD a (2:Nat) 0) (c.bits) fun l n m=>b l m j c) else none) else none) else none
def Acc:Aje:=@Bgq @Acr @Agt
def C3s(N:Nat):Aas A26 [Arw]:=fun R x C=>Acc N x.2.2.2.2.2.2.2.2.2.2.2.2.2.2.2.2.1.1 (Aho x.2) (fun y0 y1 y2 s=>C.1 ((y0,y1,()),Afd s y2))
def Apr(Acc:Aje)(N:Nat):Go.AX.Aad:=Aaz [false,true] [false] false 2 16 A26 [Arw] (fun R x C=>Acc N x.2.2.2.2.2.2.2.2.2.2.2.2.2.2.2.2.1.1 (Aho x.2) (fun y0 y1 y2 s=>C.1 ((y0,y1,()),Afd s y2)))
def Bgr(N:Nat):Go.AX.Aad:=Apr @Acc N
def C3t(N:Nat):List (Nat×Aa6):=[(7,Aab Ahb (Az5 N N))]
def B4i(N:Nat):List (Nat×Go.AX.Aad):=[(298,Agd N),(282,B25 N)]
def Aol:Code:=Tryz.f223.body.getD .skip
def Aia:Aac:=⟨[B64],HP8⟩
def Asc:Aac:=⟨Cvd,HP8⟩
def A6x:Afc:=.cons .ret Asc (.nil)
abbrev Bsn(R:Type):=Int->Int->(S)->(Int->Int->Int->(S)->Option R)->Option R
abbrev Al0:={R:Type}→Nat→Bsn R
def Ach:Al0:=fun {R} N a b c d=>d a 0 b c
def Avi(Ach:Al0)(N:Nat):Aa7 Aia:=fun R x K=>Ach N x.1.1 x.2.2.2.2.2.2.2.2.2.2.2.2.2.2.2.2.1.1 (Aho x.2) (fun y0 y1 y2 s=>K .ret (Aaf Asc ((y0,y1,()),Afd s y2)))
def A6y(N:Nat):Aa7 Aia:=Avi @Ach N
def Az6:Aac:=⟨B04,HP8⟩
def Apn:Aac:=⟨A2n,HP8⟩
abbrev By7(R:Type):=Int->(S)->(Int->Int->Int->(S)->Option R)->Option R
abbrev Aie:={R:Type}→Nat→By7 R
def Az7(Aaa:Aa0)(Acg:Ak0)(Ach:Al0):Aie:=fun {R} N a c e=>Aaa N 0 a c fun g h s t=>Aaa N 1 a c fun f i u v=>if ((h != 0)=true) then (e 0 80 a c) else if ((i != 0)=true) then (e 0 80 a c) else Acg N f c fun b d=>if ((b != 0)=true) then (Ach N b a ({d with cos:=(Bg1 b (List.length d.pool) d.cos),pool:=(d.pool++(((b,((wi ((wi (b+f))+1)),(g,(false,(false,(0,(0,0))))))),(none:Option Nat))::([]:List ((Int×Int×Int×Bool×Bool×Int×Int×Int)×Option Nat))))}) fun j l m n=>e j l m n) else Ach N b a d fun o p q r=>e o p q r
def Abq:Aie:=@Az7 @Aaa @Acg @Ach
def C0i(N:Nat):Aas Az6 [Apn]:=fun R x C=>Abq N x.2.2.2.2.2.2.2.2.2.2.2.2.2.2.2.2.1.1 (Aho x.2) (fun y0 y1 y2 s=>C.1 ((y0,y1,()),Afd s y2))
def Aom(Abq:Aie)(N:Nat):Go.AX.Aad:=Aaz [false,true] [] false 2 16 Az6 [Apn] (fun R x C=>Abq N x.2.2.2.2.2.2.2.2.2.2.2.2.2.2.2.2.1.1 (Aho x.2) (fun y0 y1 y2 s=>C.1 ((y0,y1,()),Afd s y2)))
def Bcm(N:Nat):Go.AX.Aad:=Aom @Abq N
def C0j(N:Nat):List (Nat×Aa6):=[(16,Aab Aia (A6y N))]
def By8(N:Nat):List (Nat×Go.AX.Aad):=[(298,Agd N),(281,A86 N)]
def A1s:Aac:=⟨Cmi,HP3⟩
def Aqq:Aac:=⟨[],HP3⟩
abbrev B1f(R:Type):=Int->Int->(S)->((S)->Option R)->Option R
abbrev Ao7:={R:Type}→Nat→B1f R
def A1t(Ab2:Aju)(Ab7:Ajb)(Aae:Adb)(Aaa:Aa0)(Aa9:Ahk)(Aav:Ahm)(Abp:Aid)(Adk:Amp)(Ac9:Amq)(Acu:Aky)(Acv:Akz)(Ab8:Ajd)(Ab4:Akd)(Acc:Aje)(Abq:Aie):Ao7:=fun {R} N d c a b=>Ab2 N c a fun e y1=>if ((d==9)=true) then (Ab7 N c e a fun h y3 i=>if ((h != 0)=true) then (Aae N h i fun j=>b j) else b i) else if ((d==10)=true) then (Aaa N 0 e a fun f g y8 y9=>if ((g==0)=true) then (if ((!(Option.isSome a.cur))=true) then (Aa9 N c f 5 a (fun l=>b l) fun m n o p=>Aav N m n o p fun q=>b q) else Aa9 N c f g a (fun r=>b r) fun s t u v=>Aav N s t u v fun w=>b w) else Aa9 N c f g a (fun x=>b x) fun y z A B=>Aav N y z A B fun C=>b C) else if ((d==11)=true) then (Abp N e a fun D y29 E=>Aav N c 0 D E fun F=>b F) else if (d=0) then (Adk N e a fun G H y34 I=>Aav N c G H I fun J=>b J) else if (d=1) then (Adk N e a fun L M y39 O=>Aav N c L M O fun P=>b P) else if (d=2) then (Ac9 N e a fun Q S y44 T=>Aav N c Q S T fun U=>b U) else if (d=3) then (Acu N e a fun V W y49 X=>Aav N c V W X fun Y=>b Y) else if (d=4) then (Acv N e a fun Z aa y54 ab=>Aav N c Z aa ab fun ac=>b ac) else if (d=5) then (Ab8 N e a fun ad ae y59 af=>Aav N c ad ae af fun ag=>b ag) else if (d=6) then (Ab4 N e a fun ah ai y64 y65=>Aav N c ah ai a fun aj=>b aj) else if (d=7) then (Acc N e a fun ak al y69 y70=>Aav N c ak al a fun am=>b am) else if (d=8) then (Abq N e a fun an ao y74 ap=>Aav N c an ao ap fun aq=>b aq) else none
def Ad5:Ao7:=@A1t @Ab2 @Ab7 @Aae @Aaa @Aa9 @Aav @Abp @Adk @Ac9 @Acu @Acv @Ab8 @Ab4 @Acc @Abq
def C2t(N:Nat):Aas A1s [Aqq]:=fun R x C=>Ad5 N x.1.2.1 x.1.2.2.1 (Acb x.2) (fun s=>C.1 ((()),Abh s))
def Be2(Ad5:Ao7)(N:Nat):Go.AX.Aad:=Aaz [false,true,true] (List.replicate 32 true) false 3 14 A1s [Aqq] (fun R x C=>Ad5 N x.1.2.1 x.1.2.2.1 (Acb x.2) (fun s=>C.1 ((()),Abh s)))
def Be3(N:Nat):Go.AX.Aad:=Be2 @Ad5 N
def C2u(N:Nat):List (Nat×Aa6):=[(26,Aab Age (A75 N)),(46,Aab Agf (A78 N)),(42,Aab Agg (A8b N))]
def B1g(N:Nat):List (Nat×Go.AX.Aad):=[(269,Bcg N),(270,Bgk N),(105,Amn N),(298,Agd N),(191,A8y N),(101,Azy N),(271,Bcj N),(216,Bnh N),(217,Bnk N),(218,Bnm N),(219,Bnn N),(220,Bgp N),(221,Be0 N),(222,Bgr N),(223,Bcm N)]
def A6z:Aac:=⟨[wq1,Aim,Aui,A8d],HP3⟩
def Atq:Aac:=⟨[],HP3⟩
abbrev B81(R:Type):=Int->Int->Int->(S)->((S)->Option R)->Option R
abbrev Ara:={R:Type}→Nat→B81 R
def A60(Ag9:A1h)(Aae:Adb)(Aha:Asj)(Ad5:Ao7):Ara:=fun {R} N h l i a b=>let e:=(wi (l-32000));let d:=(wi (e-500));if ((decide (e≥1))=true) then (if ((decide (e≤(((List.length a.procs):Nat):Int)))=true) then (let f:=(wi (e-1));if ((0≤f)∧(f<(((List.length a.procs):Nat):Int))) then (let c:=(wi (a.fr+h));Ag9 N a fun m w=>if ((decide ((wi (c+(List.getD a.procs (Int.toNat f) (0,(0,0))).2.2)) > m))=true) then (Aae N 83 a fun n=>b n) else if ((decide (c<0))=true) then (Aae N 83 a fun o=>b o) else let g:=(wi (c+1));Aha N i a fun p x=>if ((0≤c)∧(c<32000)) then (if (c<(((List.length a.mem):Nat):Int)) then (let j:=(List.set a.mem (Int.toNat c) a.fr);if ((0≤g)∧(g<32000)) then (if (g<(len j)) then (b ({a with fr:=c,pl:=((List.getD a.procs (Int.toNat f) (0,(0,0))).1),mem:=(j.set g.toNat p)})) else none) else none) else none) else none) else none) else if ((decide (d≥2))=true) then (if ((decide (d≤11))=true) then (Ad5 N d h ({a with pl:=i}) fun q=>b q) else Aae N 81 a fun r=>b r) else Aae N 81 a fun s=>b s) else if ((decide (d≥2))=true) then (if ((decide (d≤11))=true) then (Ad5 N d h ({a with pl:=i}) fun t=>b t) else Aae N 81 a fun u=>b u) else Aae N 81 a fun v=>b v
def Af2:Ara:=@A60 @Ag9 @Aae @Aha @Ad5
def C5j(N:Nat):Aas A6z [Atq]:=fun R x C=>Af2 N x.1.2.1 x.1.2.2.1 x.1.2.2.2.1 (Acb x.2) (fun s=>C.1 ((()),Abh s))
def Bkt(Af2:Ara)(N:Nat):Go.AX.Aad:=Aaz [false,true,true,true] (List.replicate 32 true) false 4 14 A6z [Atq] (fun R x C=>Af2 N x.1.2.1 x.1.2.2.1 x.1.2.2.2.1 (Acb x.2) (fun s=>C.1 ((()),Abh s)))
def Bku(N:Nat):Go.AX.Aad:=Bkt @Af2 N
def C5k(N:Nat):List (Nat×Aa6):=[]
def B82(N:Nat):List (Nat×Go.AX.Aad):=[(187,Bsl N),(105,Amn N),(188,Bne N),(189,Be3 N)]
def Atr:Aac:=⟨Bc7,HP4⟩
def Am0:Aac:=⟨Afp,HP4⟩
abbrev Boi(R:Type):=Int->Int->Int->Int->Int->Int->(S)->(Int->(S)->Option R)->Option R
abbrev Ai6:={R:Type}→Nat→Boi R
def Ats(Af2:Ara):Ai6:=fun {R} N e f b g h i a c=>Af2 N b (a.acc) (a.pl) a fun d=>c 0 d
def Acl:Ai6:=@Ats @Af2
def Cs5(N:Nat):Aas Atr [Am0]:=fun R x C=>Acl N x.1.1.1 x.1.1.2.1 x.1.1.2.2.1 x.1.1.2.2.2.1 x.1.1.2.2.2.2.1 x.1.2.1 (Ait x.2) (fun y0 s=>C.1 ((y0,()),Agx s))
def Att(Acl:Ai6)(N:Nat):Go.AX.Aad:=Aaz [true,true] (List.replicate 32 true) false 3 14 Atr [Am0] (fun R x C=>Acl N x.1.1.1 x.1.1.2.1 x.1.1.2.2.1 x.1.1.2.2.2.1 x.1.1.2.2.2.2.1 x.1.2.1 (Ait x.2) (fun y0 s=>C.1 ((y0,()),Agx s)))
def A4f(N:Nat):Go.AX.Aad:=Att @Acl N
def Cs6(N:Nat):List (Nat×Aa6):=[]
def Boj(N:Nat):List (Nat×Go.AX.Aad):=[(128,Bku N)]
def A4g:Code:=Tryz.f165.body.getD .skip
def Bgs:Code:=Tryz.f129.body.getD .skip
def Bnp:Code:=Tryz.f190.body.getD .skip
def A87:Aac:=⟨Cf0,HP3⟩
def Awb:Aac:=⟨Afp,HP3⟩
abbrev Ccj(R:Type):=(S)->(Int->(S)->Option R)->Option R
abbrev Ay7:={R:Type}→Nat→Ccj R
def Ahc:Ay7:=fun {R} N a b=>if ((!(!(Option.isSome a.cur)))=true) then (if ((Option.isSome a.cur)=true) then (b ((pfl z9 a.pool (Option.getD a.cur (0:Nat))).1) a) else none) else b 8000 a
def Cck(N:Nat):Aas A87 [Awb]:=fun R x C=>Ahc N (Acb x.2) (fun y0 s=>C.1 ((y0,()),Abh s))
def Bnq(Ahc:Ay7)(N:Nat):Go.AX.Aad:=Aaz [false] [false] false 1 14 A87 [Awb] (fun R x C=>Ahc N (Acb x.2) (fun y0 s=>C.1 ((y0,()),Abh s)))
def Bnr(N:Nat):Go.AX.Aad:=Bnq @Ahc N
def Ccl(N:Nat):List (Nat×Aa6):=[]
def Bns(N:Nat):List (Nat×Go.AX.Aad):=[]
def Bnt:Code:=Tryz.f192.body.getD .skip
def A88:Aac:=⟨B03,HP3⟩
def Awc:Aac:=⟨Afp,HP3⟩
abbrev Ccm(R:Type):=Int->(S)->(Int->(S)->Option R)->Option R
abbrev Ay8:={R:Type}→Nat→Ccm R
def Ae5:Ay8:=fun {R} N a b c=>c a b
def Ccn(N:Nat):Aas A88 [Awc]:=fun R x C=>Ae5 N x.1.2.1 (Acb x.2) (fun y0 s=>C.1 ((y0,()),Abh s))
def Bnu(Ae5:Ay8)(N:Nat):Go.AX.Aad:=Aaz [false,true] [false] false 2 14 A88 [Awc] (fun R x C=>Ae5 N x.1.2.1 (Acb x.2) (fun y0 s=>C.1 ((y0,()),Abh s)))
def Bnv(N:Nat):Go.AX.Aad:=Bnu @Ae5 N
def Cco(N:Nat):List (Nat×Aa6):=[]
def Bnw(N:Nat):List (Nat×Go.AX.Aad):=[]
def B26:Code:=Tryz.f151.body.getD .skip
def By9:Code:=Tryz.f100.body.getD .skip
def Bid:Aac:=⟨Csw,[]⟩
def A1u:Aac:=⟨[Baw,C70],[]⟩
abbrev Cnn(R:Type):=Int->Int->Int->Int->Int->(Int->Bool->Option R)->Option R
abbrev A70:={R:Type}→Nat→Cnn R
def Aki:A70:=fun {R} N a d b e f c=>c b (a==12)
def Cno(N:Nat):Aas Bid [A1u]:=fun R x C=>Aki N x.1.1.1 x.1.1.2.1 x.1.1.2.2.1 x.1.1.2.2.2.1 x.1.1.2.2.2.2.1 (fun y0 y1=>C.1 ((y0,y1,()),(())))
def Bza(Aki:A70)(N:Nat):Go.AX.Aad:=Aaz [true] [] false 1 0 Bid [A1u] (fun R x C=>Aki N x.1.1.1 x.1.1.2.1 x.1.1.2.2.1 x.1.1.2.2.2.1 x.1.1.2.2.2.2.1 (fun y0 y1=>C.1 ((y0,y1,()),(()))))
def Bzb(N:Nat):Go.AX.Aad:=Bza @Aki N
def Cnp(N:Nat):List (Nat×Aa6):=[]
def Bzc(N:Nat):List (Nat×Go.AX.Aad):=[]
def Bme:Aac:=⟨[Baw,wq2,(2,.one (.ptr 1))],[Cmh,(1,.cells 151 [(.fn 100)])]⟩
def A4h:Aac:=⟨[Baw,C70],[Cmh,(1,.cells 151 [(.fn 100)])]⟩
abbrev Cre(R:Type):=Int->(List UInt8)->d4->d2->d3->d5->(Int->Bool->(List UInt8)->d4->d2->d3->d5->Option R)->Option R
abbrev A17:={R:Type}→Nat→Cre R
def Bmf(Aki:A70):A17:=fun {R} N c d e f g a h=>if ((decide (c<1))=true) then (h 0 false d e f g a) else if ((decide (c > (len a)))=true) then (h 0 false d e f g a) else let b:=(wi (c-1));if (0≤b∧b<len a) then (Aki N ((a.getD b.toNat (0,(0,(0,(0,0))))).1) ((a.getD b.toNat (0,(0,(0,(0,0))))).2.1) ((a.getD b.toNat (0,(0,(0,(0,0))))).2.2.1) ((a.getD b.toNat (0,(0,(0,(0,0))))).2.2.2.1) ((a.getD b.toNat (0,(0,(0,(0,0))))).2.2.2.2) fun i j=>h i j d e f g a) else none
def Agu:A17:=@Bmf @Aki
def Db5(N:Nat):Aas Bme [A4h]:=fun R x C=>Agu N x.1.1 x.2.1.1 x.2.1.2.1 x.2.1.2.2.1 x.2.1.2.2.2.1 x.2.1.2.2.2.2.1 (fun y0 y1 y2 y3 y4 y5 y6=>C.1 ((y0,y1,()),((y2,y3,y4,y5,y6,()),((),()),())))
def B27(Agu:A17)(N:Nat):Go.AX.Aad:=Aaz [true] [false] false 3 2 Bme [A4h] (fun R x C=>Agu N x.1.1 x.2.1.1 x.2.1.2.1 x.2.1.2.2.1 x.2.1.2.2.2.1 x.2.1.2.2.2.2.1 (fun y0 y1 y2 y3 y4 y5 y6=>C.1 ((y0,y1,()),((y2,y3,y4,y5,y6,()),((),()),()))))
def B28(N:Nat):Go.AX.Aad:=B27 @Agu N
def Db6(N:Nat):List (Nat×Aa6):=[]
def Crf(N:Nat):List (Nat×Go.AX.Aad):=[(100,Bzb N)]
def A27:Aac:=⟨B03,HP3⟩
def Arx:Aac:=⟨[],HP3⟩
abbrev B4j(R:Type):=Int->(S)->((S)->Option R)->Option R
abbrev Aps:={R:Type}→Nat→B4j R
def A28(Aap:Ae2)(Aae:Adb)(Ahc:Ay7)(Abi:Aik)(Ae5:Ay8)(Agu:A17)(Aa4:Ago):Aps:=fun {R} N d a b=>Aap N (a.fr) a fun c t U=>Aap N (wi (a.fr+1)) a fun e u V=>if ((t != 0)=true) then (Aae N 80 a fun v=>b v) else if ((u != 0)=true) then (Aae N 80 a fun w=>b w) else if ((e==(-1))=true) then (Ahc N a fun x W=>if ((c==x)=true) then (if ((a.fr==c)=true) then (if ((!(Option.isSome a.cur))=true) then (b ({a with ended:=true})) else if ((Option.isSome a.cur)=true) then (let f:=(List.set a.pool (Option.getD a.cur (0:Nat)) (((pfl z9 a.pool (Option.getD a.cur (0:Nat))).1,((pfl z9 a.pool (Option.getD a.cur (0:Nat))).2.1,((pfl z9 a.pool (Option.getD a.cur (0:Nat))).2.2.1,(false,((pfl z9 a.pool (Option.getD a.cur (0:Nat))).2.2.2.2.1,((pfl z9 a.pool (Option.getD a.cur (0:Nat))).2.2.2.2.2.1,((pfl z9 a.pool (Option.getD a.cur (0:Nat))).2.2.2.2.2.2.1,(pfl z9 a.pool (Option.getD a.cur (0:Nat))).2.2.2.2.2.2.2))))))),(pnx z9 a.pool (Option.getD a.cur (0:Nat)))));if ((Option.isSome a.cur)=true) then (if ((Option.isSome a.cur)=true) then (if ((Option.isSome a.cur)=true) then (Abi N (a.cur) ((pfl z9 f (Option.getD a.cur (0:Nat))).2.2.2.2.2.1) ((pfl z9 f (Option.getD a.cur (0:Nat))).2.2.2.2.2.2.1) ((pfl z9 f (Option.getD a.cur (0:Nat))).2.2.2.2.2.2.2) d ({a with pool:=f}) fun y=>b y) else none) else none) else none) else none) else Ae5 N e a fun g X=>Agu N g (a.nm) (a.data) (a.gl) (a.bg) (a.il) fun h z Y Z aa ab ac=>if ((!z)=true) then (Aae N 81 a fun A=>b A) else if ((decide (c<8000))=true) then (Aae N 81 a fun B=>b B) else if ((decide (c≥32000))=true) then (Aae N 81 a fun C=>b C) else if (((wi (c+h)) != a.fr)=true) then (Aae N 81 a fun D=>b D) else Aa4 N h d ({a with fr:=c,pl:=g}) fun i j=>if ((i != 0)=true) then (Aae N i j fun E=>b E) else b j) else Ae5 N e a fun l ad=>Agu N l (a.nm) (a.data) (a.gl) (a.bg) (a.il) fun m F ae af ag ah ai=>if ((!F)=true) then (Aae N 81 a fun G=>b G) else if ((decide (c<8000))=true) then (Aae N 81 a fun H=>b H) else if ((decide (c≥32000))=true) then (Aae N 81 a fun I=>b I) else if (((wi (c+m)) != a.fr)=true) then (Aae N 81 a fun J=>b J) else Aa4 N m d ({a with fr:=c,pl:=l}) fun n o=>if ((n != 0)=true) then (Aae N n o fun L=>b L) else b o) else Ae5 N e a fun p aj=>Agu N p (a.nm) (a.data) (a.gl) (a.bg) (a.il) fun q M ak al am an ao=>if ((!M)=true) then (Aae N 81 a fun O=>b O) else if ((decide (c<8000))=true) then (Aae N 81 a fun P=>b P) else if ((decide (c≥32000))=true) then (Aae N 81 a fun Q=>b Q) else if (((wi (c+q)) != a.fr)=true) then (Aae N 81 a fun S=>b S) else Aa4 N q d ({a with fr:=c,pl:=p}) fun r s=>if ((r != 0)=true) then (Aae N r s fun T=>b T) else b s
def Afm:Aps:=@A28 @Aap @Aae @Ahc @Abi @Ae5 @Agu @Aa4
def C3u(N:Nat):Aas A27 [Arx]:=fun R x C=>Afm N x.1.2.1 (Acb x.2) (fun s=>C.1 ((()),Abh s))
def Bgt(Afm:Aps)(N:Nat):Go.AX.Aad:=Aaz [false,true] [] false 2 14 A27 [Arx] (fun R x C=>Afm N x.1.2.1 (Acb x.2) (fun s=>C.1 ((()),Abh s)))
def Bgu(N:Nat):Go.AX.Aad:=Bgt @Afm N
def C3v(N:Nat):List (Nat×Aa6):=[]
def B4k(N:Nat):List (Nat×Go.AX.Aad):=[(72,Amo N),(105,Amn N),(190,Bnr N),(191,A8y N),(192,Bnv N),(151,B28 N),(101,Azy N)]
def Atu:Aac:=⟨Bc7,HP4⟩
def Am1:Aac:=⟨Afp,HP4⟩
abbrev Bok(R:Type):=Int->Int->Int->Int->Int->Int->(S)->(Int->(S)->Option R)->Option R
abbrev Ai7:={R:Type}→Nat→Bok R
def Atv(Afm:Aps):Ai7:=fun {R} N d e f g h i a b=>Afm N (a.acc) a fun c=>b 0 c
def Acm:Ai7:=@Atv @Afm
def Cs7(N:Nat):Aas Atu [Am1]:=fun R x C=>Acm N x.1.1.1 x.1.1.2.1 x.1.1.2.2.1 x.1.1.2.2.2.1 x.1.1.2.2.2.2.1 x.1.2.1 (Ait x.2) (fun y0 s=>C.1 ((y0,()),Agx s))
def Atw(Acm:Ai7)(N:Nat):Go.AX.Aad:=Aaz [true,true] [] false 3 14 Atu [Am1] (fun R x C=>Acm N x.1.1.1 x.1.1.2.1 x.1.1.2.2.1 x.1.1.2.2.2.1 x.1.1.2.2.2.2.1 x.1.2.1 (Ait x.2) (fun y0 s=>C.1 ((y0,()),Agx s)))
def A4i(N:Nat):Go.AX.Aad:=Atw @Acm N
def Cs8(N:Nat):List (Nat×Aa6):=[]
def Bol(N:Nat):List (Nat×Go.AX.Aad):=[(129,Bgu N)]
def Ahz:Code:=Tryz.f166.body.getD .skip
def Ae6:Aac:=⟨[wq4,(3,.one (.ptr 13)),Bc6,(35,.one (.val z6)),(36,.one wq0),(37,.one wq0)],HP4⟩
def Alk:Aac:=⟨[(3,.one (.ptr 13)),Bc6],HP4⟩
def A0g:Afc:=.cons (.exit 0) Alk (.nil)
abbrev Arb(R:Type):=Int->d5->Int->Int->(S)->(Int->(S)->Option R)->Option R
abbrev A0h(R:Type):=Int->d5->Int->Int->(S)->Option R
abbrev Am2:={R:Type}→Nat→Nat→Arb R
def A0i(Abo:Aij){R:Type}(N:Nat)(rc:A0h R):Arb R:=fun d c e a b f=>if ((decide (a<e))=true) then (if (0≤a∧a<len c) then (Abo N ((c.getD a.toNat (0,(0,(0,(0,0))))).2.2.1) (b.bits) fun g h=>if ((g==b.acc)=true) then (f ((c.getD a.toNat (0,(0,(0,(0,0))))).2.2.2.1) b) else rc d c e (wi (a+1)) b) else none) else f d b
def Abl{R:Type}(N:Nat):Nat→Arb R
 |0=>fun _ _ _ _ _ _=>none
 |k+1=>fun a b c d e f=>A0i @Abo N (fun a b c d e=>Abl N k a b c d e f) a b c d e f
def Arc(Abl:Am2)(N k:Nat):Aa7 Ae6:=fun R x K=>Abl N k x.1.2.2.1 x.1.2.2.2.1 x.1.2.2.2.2.1 x.1.2.2.2.2.2.1 (Ait x.2) (fun y0 s=>K (.exit 0) (Aaf Alk (((),y0,()),Agx s)))
def Ard(N k:Nat):Aa7 Ae6:=Arc @Abl N k
def Atx:Aac:=⟨[Cbl,Aim,wq4,(3,.one (.ptr 13))],HP4⟩
def Am3:Aac:=⟨Afp,HP4⟩
abbrev Bom(R:Type):=Int->Int->Int->Int->Int->Int->(S)->(Int->(S)->Option R)->Option R
abbrev Ai8:={R:Type}→Nat→Bom R
def Aty(Abl:Am2)(Aat:Aen):Ai8:=fun {R} N l m d e n o a f=>let b:=(wi (a.pl+d));if ((0≤b)∧(b≤(((List.length a.ins):Nat):Int))) then (if ((0≤a.pl)∧(a.pl≤b)) then (let c:=(List.drop (Int.toNat a.pl) (List.take (Int.toNat b) a.ins));Abl N N e c (len c) 0 a fun g h=>Aat N true g h fun i j=>f i j) else none) else none
def Acn:Ai8:=@Aty @Abl @Aat
def Cs9(N:Nat):Aas Atx [Am3]:=fun R x C=>Acn N x.1.1.1 x.1.1.2.1 x.1.1.2.2.1 x.1.1.2.2.2.1 x.1.1.2.2.2.2.1 x.1.2.1 (Ait x.2) (fun y0 s=>C.1 ((y0,()),Agx s))
def Atz(Acn:Ai8)(N:Nat):Go.AX.Aad:=Aaz [true,true] [] false 4 14 Atx [Am3] (fun R x C=>Acn N x.1.1.1 x.1.1.2.1 x.1.1.2.2.1 x.1.1.2.2.2.1 x.1.1.2.2.2.2.1 x.1.2.1 (Ait x.2) (fun y0 s=>C.1 ((y0,()),Agx s)))
def A4j(N:Nat):Go.AX.Aad:=Atz @Acn N
def Cta(N:Nat):List (Nat×Aa6):=[(7,Aab Ae6 (Ard N N))]
def Bon(N:Nat):List (Nat×Go.AX.Aad):=[(130,A9k N),(152,Alz N)]
def Ai0:Aac:=⟨[wq1,wq6,Cmc,Cmd],C7v⟩
def Avj:Aac:=⟨Cvc,Cu5⟩
def A9x:Afc:=.cons .ret Avj (.nil)
abbrev Bwu(R:Type):=Int->Int->Int->Int->Int->Int->Int->(S)->(Int->(S)->Option R)->Option R
abbrev Aks:={R:Type}→Nat→Bwu R
def Ayf(Apb:Bcc)(Adh:Alv)(Ac1:Ajn)(Adi:Alw)(Adj:Alx)(Ac2:Ajo)(Ac3:Ajp)(Ac4:Ajr)(Ac5:Ajs)(Aci:Ai3)(Acj:Ai4)(Ack:Ai5)(Acl:Ai6)(Acm:Ai7)(Acn:Ai8):Aks:=fun {R} N d j a e f g h b c=>if ((j != 0)=true) then (c j b) else if ((decide (a > 20))=true) then (Apb N (wi (a-20)) (b.acc) d (b.bits) fun l i=>if ((i==0)=true) then (c i ({b with acc:=l})) else c i b) else if (a=1) then (Adh N a e f g h d b fun m n=>c m n) else if (a=2) then (Ac1 N a e f g h d b fun o p=>c o p) else if (a=3) then (Adi N a e f g h d b fun q r=>c q r) else if (a=4) then (Adj N a e f g h d b fun s t=>c s t) else if (a=5) then (Ac2 N a e f g h d b fun u v=>c u v) else if (a=6) then (Ac3 N a e f g h d b fun w x=>c w x) else if (a=7) then (Ac4 N a e f g h d b fun y z=>c y z) else if (a=8) then (Ac5 N a e f g h d b fun A B=>c A B) else if (a=9) then (Aci N a e f g h d b fun C D=>c C D) else if (a=10) then (Acj N a e f g h d b fun E F=>c E F) else if (a=11) then (Ack N a e f g h d b fun G H=>c G H) else if (a=12) then (Acl N a e f g h d b fun I J=>c I J) else if (a=13) then (Acm N a e f g h d b fun L M=>c L M) else if (a=14) then (Acn N a e f g h d b fun O P=>c O P) else none
def Abv:Aks:=@Ayf @Apb @Adh @Ac1 @Adi @Adj @Ac2 @Ac3 @Ac4 @Ac5 @Aci @Acj @Ack @Acl @Acm @Acn
def Ayg(Abv:Aks)(N:Nat):Aa7 Ai0:=fun R x K=>Abv N x.1.2.2.1 x.1.2.2.2.1 x.2.2.2.2.2.2.2.2.2.2.2.2.2.2.2.1.1 x.2.2.2.2.2.2.2.2.2.2.2.2.2.2.2.1.2.1 x.2.2.2.2.2.2.2.2.2.2.2.2.2.2.2.1.2.2.1 x.2.2.2.2.2.2.2.2.2.2.2.2.2.2.2.1.2.2.2.1 x.2.2.2.2.2.2.2.2.2.2.2.2.2.2.2.1.2.2.2.2.1 (C47 x.2) (fun y0 s=>K .ret (Aaf Avj ((y0,()),Bxy s)))
def A9y(N:Nat):Aa7 Ai0:=Ayg @Abv N
def A29:Aac:=⟨Cf0,Cu5⟩
def Ary:Aac:=⟨Afp,Cu5⟩
abbrev B4l(R:Type):=(S)->(Int->(S)->Option R)->Option R
abbrev Ana:={R:Type}→Nat→B4l R
def A3a(Aic:A2k)(Abv:Aks):Ana:=fun {R} N a f=>if ((0≤a.pl)∧(a.pl<(((List.length a.ins):Nat):Int))) then (let b:=(List.getD a.ins (Int.toNat a.pl) (0,(0,(0,(0,0))))).1;let c:=(List.getD a.ins (Int.toNat a.pl) (0,(0,(0,(0,0))))).2.1;let d:=(List.getD a.ins (Int.toNat a.pl) (0,(0,(0,(0,0))))).2.2.1;let g:=(List.getD a.ins (Int.toNat a.pl) (0,(0,(0,(0,0))))).2.2.2.1;let h:=(List.getD a.ins (Int.toNat a.pl) (0,(0,(0,(0,0))))).2.2.2.2;let e:=(wi (a.pl+1));if ((decide (b > 20))=true) then (Aic N c d ({a with pl:=e}) fun i j z=>Abv N i j b c d g h ({a with pl:=e}) fun l m=>f l m) else if ((b==1)=true) then (Aic N c d ({a with pl:=e}) fun n o A=>Abv N n o b c d g h ({a with pl:=e}) fun p q=>f p q) else if ((decide (b≥6))=true) then (if ((decide (b≤8))=true) then (Aic N c d ({a with pl:=e}) fun r s B=>Abv N r s b c d g h ({a with pl:=e}) fun t u=>f t u) else Abv N 0 0 b c d g h ({a with pl:=e}) fun v w=>f v w) else Abv N 0 0 b c d g h ({a with pl:=e}) fun x y=>f x y) else none
def Adn:Ana:=@A3a @Aic @Abv
def C3w(N:Nat):Aas A29 [Ary]:=fun R x C=>Adn N (Cu6 x.2) (fun y0 s=>C.1 ((y0,()),Bxy s))
def A3b(Adn:Ana)(N:Nat):Go.AX.Aad:=Aaz [false] (List.replicate 32 true) false 1 14 A29 [Ary] (fun R x C=>Adn N (Cu6 x.2) (fun y0 s=>C.1 ((y0,()),Bxy s)))
def Bgv(N:Nat):Go.AX.Aad:=A3b @Adn N
def C3x(N:Nat):List (Nat×Aa6):=[(12,Aab Ai0 (A9y N))]
def B4m(N:Nat):List (Nat×Go.AX.Aad):=[(106,Cey N),(107,Cp6 N),(153,A56 N),(154,A6c N),(155,A6e N),(156,A6h N),(157,A6k N),(158,A6m N),(159,A6s N),(160,A6u N),(161,A38 N),(162,A4a N),(163,A4c N),(164,A4f N),(165,A4i N),(166,A4j N)]
def Ano:Aac:=⟨[wq1,Aim,(2,.one (.mth 63 [5])),B02],HP3⟩
def A4k:Aac:=⟨[],HP3⟩
def B29:Afc:=.cons (.exit 0) A4k (.nil)
abbrev Bmg(R:Type):=Int->Int->(S)->((S)->Option R)->Option R
abbrev B3a(R:Type):=Int->Int->(S)->Option R
abbrev Bal:={R:Type}→Nat→Nat→Bmg R
def Bam(Aec:An5)(Adn:Ana)(Aae:Adb){R:Type}(N:Nat)(rc:B3a R):Bmg R:=fun b c a d=>if ((decide (c<b))=true) then (if ((!a.ended)=true) then (if ((a.steps==0)=true) then (Aec N a fun g=>rc b (wi (c+1)) g) else Adn N ({a with steps:=(wi (a.steps+1))}) fun e f=>if ((e != 0)=true) then (Aae N e f fun h=>rc b (wi (c+1)) h) else rc b (wi (c+1)) f) else d a) else d a
def Aes{R:Type}(N:Nat):Nat→Bmg R
 |0=>fun _ _ _ _=>none
 |k+1=>fun a b c d=>Bam @Aec @Adn @Aae N (fun a b c=>Aes N k a b c d) a b c d
def Bmh(Aes:Bal)(N k:Nat):Aa7 Ano:=fun R x K=>Aes N k x.1.2.1 x.1.2.2.2.1 (Acb x.2) (fun s=>K (.exit 0) (Aaf A4k ((()),Abh s)))
def Bmi(N k:Nat):Aa7 Ano:=Bmh @Aes N k
def Bwv:Aac:=⟨[wq1,Aim,(2,.one (.mth 63 [5]))],HP3⟩
def Ban:Aac:=⟨[],HP3⟩
abbrev Cyx(R:Type):=Int->(S)->((S)->Option R)->Option R
abbrev A9z:={R:Type}→Nat→Cyx R
def Biz(Aes:Bal):A9z:=fun {R} N a b c=>Aes N N a 0 b fun d=>c d
def Am4:A9z:=@Biz @Aes
def Dee(N:Nat):Aas Bwv [Ban]:=fun R x C=>Am4 N x.1.2.1 (Acb x.2) (fun s=>C.1 ((()),Abh s))
def Ce3(Am4:A9z)(N:Nat):Go.AX.Aad:=Aaz [false,true,true] (List.replicate 32 true) false 3 14 Bwv [Ban] (fun R x C=>Am4 N x.1.2.1 (Acb x.2) (fun s=>C.1 ((()),Abh s)))
def Ce4(N:Nat):Go.AX.Aad:=Ce3 @Am4 N
def Def(N:Nat):List (Nat×Aa6):=[(3,Aab Ano (Bmi N N))]
def Cyy(N:Nat):List (Nat×Go.AX.Aad):=[(104,Bjy N),(63,Bgv N),(105,Amn N)]
def Axz:Code:=Tryz.f64.body.getD .skip
def Ams:Aac:=⟨[wq1,(2,.one (.ptr 32)),(3,.one (.ptr 33))],C7w⟩
def A3c:Aac:=⟨[(2,.one (.ptr 32))],C7x⟩
def Bnx:Afc:=.cons .ret A3c (.nil)
abbrev Ccp(R:Type):=(List UInt8)->Int->Int->Int->Int->(List UInt8)->Int->Int->Int->Int->(S)->((List UInt8)->Int->Int->Int->Int->(S)->Option R)->Option R
abbrev Asp:={R:Type}→Nat→Ccp R
def Afn:Asp:=fun {R} N f g h i j l b c d m a e=>e (List.map (fun n:Int=>UInt8.ofNat (Int.toNat n)) a.out) b c d (a.steps) a
def A89(Afn:Asp)(N:Nat):Aa7 Ams:=fun R x K=>Afn N x.2.2.2.2.2.2.2.2.2.2.2.2.2.2.2.1.1 x.2.2.2.2.2.2.2.2.2.2.2.2.2.2.2.1.2.1 x.2.2.2.2.2.2.2.2.2.2.2.2.2.2.2.1.2.2.1 x.2.2.2.2.2.2.2.2.2.2.2.2.2.2.2.1.2.2.2.1 x.2.2.2.2.2.2.2.2.2.2.2.2.2.2.2.1.2.2.2.2.1 x.2.2.2.2.2.2.2.2.2.2.2.2.2.2.2.2.1.1 x.2.2.2.2.2.2.2.2.2.2.2.2.2.2.2.2.1.2.1 x.2.2.2.2.2.2.2.2.2.2.2.2.2.2.2.2.1.2.2.1 x.2.2.2.2.2.2.2.2.2.2.2.2.2.2.2.2.1.2.2.2.1 x.2.2.2.2.2.2.2.2.2.2.2.2.2.2.2.2.1.2.2.2.2.1 (C48 x.2) (fun y0 y1 y2 y3 y4 s=>K .ret (Aaf A3c (((),()),C0f s y0 y1 y2 y3 y4)))
def Bny(N:Nat):Aa7 Ams:=A89 @Afn N
def Be4:Aac:=⟨Cf0,HP3⟩
def Ay9:Aac:=⟨[C2i],HP3⟩
abbrev Cj1(R:Type):=(S)->((List UInt8)->Int->Int->Int->Int->(S)->Option R)->Option R
abbrev Ax0:={R:Type}→Nat→Cj1 R
def Be5(Afn:Asp):Ax0:=fun {R} N a b=>if ((!a.ended)=true) then (Afn N ([]:List UInt8) 0 0 0 0 (a.ro) 2 (a.r2) (a.r3) (a.r4) a fun c d e f g h=>b c d e f g h) else Afn N ([]:List UInt8) 0 0 0 0 (a.ro) (a.r1) (a.r2) (a.r3) (a.r4) a fun i j l m n o=>b i j l m n o
def Ah6:Ax0:=@Be5 @Afn
def C9i(N:Nat):Aas Be4 [Ay9]:=fun R x C=>Ah6 N (Acb x.2) (fun y0 y1 y2 y3 y4 s=>C.1 (((y0,y1,y2,y3,y4,()),()),Abh s))
def Bvg(Ah6:Ax0)(N:Nat):Go.AX.Aad:=Aaz [false] [false] false 1 14 Be4 [Ay9] (fun R x C=>Ah6 N (Acb x.2) (fun y0 y1 y2 y3 y4 s=>C.1 (((y0,y1,y2,y3,y4,()),()),Abh s)))
def Bvh(N:Nat):Go.AX.Aad:=Bvg @Ah6 N
def C9j(N:Nat):List (Nat×Aa6):=[(8,Aab Ams (Bny N))]
def Cj2(N:Nat):List (Nat×Go.AX.Aad):=[]
def B1h:Aac:=⟨[Cmg,B65,C16,A8d],[]⟩
def Be6:Aac:=⟨[C2i,Aim],[]⟩
abbrev C2v(R:Type):=(List UInt8)->d4->d2->d3->d5->Int->Bool->(List UInt8)->Int->((List UInt8)->Int->Int->Int->Int->Int->Option R)->Option R
abbrev Be7:={R:Type}→Nat→C2v R
def Boo(Akb:A5q)(Am4:A9z)(Ah6:Ax0):Be7:=fun {R} N e f g h i j l m b a=>Akb N e f g h i j l m b (fun c=>if ((c != 0)=true) then (a ([]:List UInt8) 0 0 0 0 c) else none) fun d n=>if ((d != 0)=true) then (a ([]:List UInt8) 0 0 0 0 d) else Am4 N b n fun o=>Ah6 N o fun p q r s t u=>a p q r s t 0
def Al1:Be7:=@Boo @Akb @Am4 @Ah6
def Dep(N:Nat):Aas B1h [Be6]:=fun R x C=>Al1 N x.1.1.1 x.1.1.2.1 x.1.1.2.2.1 x.1.1.2.2.2.1 x.1.1.2.2.2.2.1 x.1.2.1.1 x.1.2.1.2.1 x.1.2.2.1 x.1.2.2.2.1 (fun y0 y1 y2 y3 y4 y5=>C.1 (((y0,y1,y2,y3,y4,()),y5,()),(())))
def Cj3(Al1:Be7)(N:Nat):Go.AX.Aad:=Aaz [true,true,true,true] [] false 4 0 B1h [Be6] (fun R x C=>Al1 N x.1.1.1 x.1.1.2.1 x.1.1.2.2.1 x.1.1.2.2.2.1 x.1.1.2.2.2.2.1 x.1.2.1.1 x.1.2.1.2.1 x.1.2.2.1 x.1.2.2.2.1 (fun y0 y1 y2 y3 y4 y5=>C.1 (((y0,y1,y2,y3,y4,()),y5,()),(()))))
def Cj4(N:Nat):Go.AX.Aad:=Cj3 @Al1 N
def Deq(N:Nat):List (Nat×Aa6):=[]
def C2w(N:Nat):List (Nat×Go.AX.Aad):=[(61,B7u N),(62,Ce4 N),(64,Bvh N)]
def Bso:Code:=Tryz.f24.body.getD .skip
def Bbz:Aac:=⟨[C2i,(1,.agg Dcw)],[]⟩
def Ax1:Aac:=⟨Amm,[]⟩
abbrev Cge(R:Type):=(List UInt8)->Int->Int->Int->Int->(List UInt8)->Int->Int->Int->Int->(Bool->Option R)->Option R
abbrev A1v:={R:Type}→Nat→Cge R
def Aiq:A1v:=fun {R} N b c d e f g h i j l a=>if ((b==g)=true) then (if ((c==h)=true) then (if ((d==i)=true) then (if ((e==j)=true) then (a (f==l)) else a false) else a false) else a false) else a false
def Cgf(N:Nat):Aas Bbz [Ax1]:=fun R x C=>Aiq N x.1.1.1 x.1.1.2.1 x.1.1.2.2.1 x.1.1.2.2.2.1 x.1.1.2.2.2.2.1 x.1.2.1.1 x.1.2.1.2.1 x.1.2.1.2.2.1 x.1.2.1.2.2.2.1 x.1.2.1.2.2.2.2.1 (fun y0=>C.1 ((y0,()),(())))
def Bsp(Aiq:A1v)(N:Nat):Go.AX.Aad:=Aaz [true,true] [] false 2 0 Bbz [Ax1] (fun R x C=>Aiq N x.1.1.1 x.1.1.2.1 x.1.1.2.2.1 x.1.1.2.2.2.1 x.1.1.2.2.2.2.1 x.1.2.1.1 x.1.2.1.2.1 x.1.2.1.2.2.1 x.1.2.1.2.2.2.1 x.1.2.1.2.2.2.2.1 (fun y0=>C.1 ((y0,()),(()))))
def Bsq(N:Nat):Go.AX.Aad:=Bsp @Aiq N
def Cgg(N:Nat):List (Nat×Aa6):=[]
def Bsr(N:Nat):List (Nat×Go.AX.Aad):=[]
def Bb0:Aac:=⟨[(0,.agg [.val .str,.val z3,.val z1,.val z4,.val z6,.val (.int .i64),.val .bool,.val .str,.val (.int .i64)]),Aim],[]⟩
def Ax2:Aac:=⟨Amm,[]⟩
abbrev Cgh(R:Type):=(List UInt8)->d4->d2->d3->d5->Int->Bool->(List UInt8)->Int->Int->(Bool->Option R)->Option R
abbrev Bb1:={R:Type}→Nat→Cgh R
def Bb2(Aig:A1y)(Al1:Be7)(Aiq:A1v):Bb1:=fun {R} N f g h i j l m n c o a=>Aig N f g h i j l m n c fun t=>if (t=true) then (a true) else if ((decide (c<0))=true) then (a true) else if ((decide (o<0))=true) then (a true) else if ((decide (o > 20000))=true) then (a true) else Al1 N f g h i j l m n c fun b r u v p q=>Al1 N f g h i j l m n (wi (c+o)) fun e w x y s d=>if ((q != 0)=true) then (if ((q==d)=true) then (a true) else if ((d==1)=true) then (a true) else a false) else if ((d != 0)=true) then (if ((q==d)=true) then (a true) else if ((d==1)=true) then (a true) else a false) else if ((r != 2)=true) then (Aiq N b r u v p e w x y s fun z=>if (z=true) then (a true) else a false) else if ((p==c)=true) then (if ((decide (s≥p))=true) then (if ((decide ((len e)≥(len b)))=true) then (if ((0≤(len b))∧((len b)≤(len e))) then (if (((0 :Int)≤(0 :Int))∧(0≤(len b))) then (if (((List.drop (0:Nat) (List.take (Int.toNat (len b)) e))==b)=true) then (a true) else a false) else none) else none) else a false) else a false) else a false
def Aue:Bb1:=@Bb2 @Aig @Al1 @Aiq
def C8g(N:Nat):Aas Bb0 [Ax2]:=fun R x C=>Aue N x.1.1.1 x.1.1.2.1 x.1.1.2.2.1 x.1.1.2.2.2.1 x.1.1.2.2.2.2.1 x.1.1.2.2.2.2.2.1 x.1.1.2.2.2.2.2.2.1 x.1.1.2.2.2.2.2.2.2.1 x.1.1.2.2.2.2.2.2.2.2.1 x.1.2.1 (fun y0=>C.1 ((y0,()),(())))
def Cgi(Aue:Bb1)(N:Nat):Go.AX.Aad:=Aaz [true,true] [] false 2 0 Bb0 [Ax2] (fun R x C=>Aue N x.1.1.1 x.1.1.2.1 x.1.1.2.2.1 x.1.1.2.2.2.1 x.1.1.2.2.2.2.1 x.1.1.2.2.2.2.2.1 x.1.1.2.2.2.2.2.2.1 x.1.1.2.2.2.2.2.2.2.1 x.1.1.2.2.2.2.2.2.2.2.1 x.1.2.1 (fun y0=>C.1 ((y0,()),(()))))
def Bss(N:Nat):Go.AX.Aad:=Cgi @Aue N
def C8h(N:Nat):List (Nat×Aa6):=[]
def Cgj(N:Nat):List (Nat×Go.AX.Aad):=[(21,B2m N),(13,Ble N),(22,Cj4 N),(24,Bsq N)]
end
end Q

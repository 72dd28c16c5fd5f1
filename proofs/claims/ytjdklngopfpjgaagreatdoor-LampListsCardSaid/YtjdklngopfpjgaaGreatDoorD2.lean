/- Part D2 of the proof. -/
import Derived.Test.YtjdklngopfpjgaaGreatDoorD1
open Go Go.AX Go.Proofs
namespace Q
noncomputable section
set_option maxRecDepth 100000
set_option linter.unusedVariables false
def Azm:Aac:=⟨A09,[]⟩
def Azn:Aac:=⟨Ci5,Asz⟩
def Bgs:Ac4:=.cons .ret Azm (.cons .normal Azn (.nil))
abbrev Bw4 (R:Type):=Int->Int->Int->Int->Bool->(List UInt8)->d3->d2->d1->Int->Int->Int->Int->Int->(Bool->Option R)->(Int->Int->Int->Int->(List UInt8)->d3->d2->d1->Int->Int->Option R)->Option R
abbrev Akh:={R:Type}→Nat→Bw4 R
def A4a (Aaz:Ajo):Akh:=fun {R} N c d e a p f g b h i j n q r l m=>Aaz N n q r fun s=>if (s=true) then (if (p=true) then (l false) else let o:=(wi (a+1));if (0≤o∧o<len b) then (if (((b.getD o.toNat (0,(0,0))).1==24)=true) then (l false) else if ((a==0)=true) then (if ((n != 24)=true) then (l false) else m c d e a f g b h i j) else m c d e a f g b h i j) else none) else if ((a==0)=true) then (if ((n != 24)=true) then (l false) else m c d e a f g b h i j) else m c d e a f g b h i j
def Ab6:Akh:=@A4a @Aaz
def Ap7 (Ab6:Akh) (N:Nat):Aas Aiz:=fun R x K=>Ab6 N x.1.2.1 x.1.2.2.1 x.1.2.2.2.1 x.1.2.2.2.2.1 x.1.2.2.2.2.2.2.1 x.2.1.1 x.2.1.2.1 x.2.1.2.2.1 x.2.1.2.2.2.1 x.2.1.2.2.2.2.1 x.2.1.2.2.2.2.2.1 x.2.2.1.1 x.2.2.1.2.1 x.2.2.1.2.2.1 (fun y0=>K .ret (Aab Azm ((y0,()),(())))) (fun y0 y1 y2 y3 y4 y5 y6 y7 y8 y9=>K .normal (Aab Azn (((),y0,y1,y2,y3,()),((y4,y5,y6,y7,y8,y9,()),()))))
def Bgt (N:Nat):Aas Aiz:=Ap7 @Ab6 N
def Ai0:Aac:=⟨[wq4,A1a,A1b,Bbl,A2x,(7,.one (.ptr 33))],Btt⟩
def Azo:Aac:=⟨A09,[]⟩
def Azp:Aac:=⟨Ci5,Asz⟩
def Bgu:Ac4:=.cons .ret Azo (.cons .normal Azp (.nil))
abbrev Bw5 (R:Type):=Int->Int->Int->Int->(List UInt8)->d3->d2->d1->Int->Int->Int->Int->Int->(Bool->Option R)->(Int->Int->Int->Int->(List UInt8)->d3->d2->d1->Int->Int->Option R)->Option R
abbrev Aki:={R:Type}→Nat→Bw5 R
def A4b (Ab6:Akh):Aki:=fun {R} N h p q f i j a l m n c d g e o=>let b:=(wi (f+1));if ((c==24)=true) then (let t:=(wi (h+1));if ((d != t)=true) then (e false) else Ab6 N t p q f (decide (b≥(len a))) i j a l m n c d g (fun u=>e u) fun v w x y z A B C D E=>o v w x y z A B C D E) else if ((c==29)=true) then (Ab6 N h p g f (decide (b≥(len a))) i j a l m n c d g (fun F=>e F) fun G H I J L M O P Q S=>o G H I J L M O P Q S) else if ((c==19)=true) then (let r:=(if (d > p) then d else p);if ((decide (b≥(len a)))=true) then (e false) else if (0≤b∧b<len a) then (let s:=(a.getD b.toNat (0,(0,0))).1;if ((s != 18)=true) then (if (0≤b∧b<len a) then (if ((s != 28)=true) then (if (0≤b∧b<len a) then (if ((s != 19)=true) then (e false) else Ab6 N h r q f (decide (b≥(len a))) i j a l m n c d g (fun T=>e T) fun U V W X Y Z aa ab ac ad=>o U V W X Y Z aa ab ac ad) else none) else Ab6 N h r q f (decide (b≥(len a))) i j a l m n c d g (fun ae=>e ae) fun af ag ah ai aj ak al am an ao=>o af ag ah ai aj ak al am an ao) else none) else Ab6 N h r q f (decide (b≥(len a))) i j a l m n c d g (fun ap=>e ap) fun aq ar au av aw ax ay az ba bb=>o aq ar au av aw ax ay az ba bb) else none) else Ab6 N h p q f (decide (b≥(len a))) i j a l m n c d g (fun bc=>e bc) fun bd be bf bg bh bi bj bk bl bm=>o bd be bf bg bh bi bj bk bl bm
def Adb:Aki:=@A4b @Ab6
def Ap8 (Adb:Aki) (N:Nat):Aas Ai0:=fun R x K=>Adb N x.1.2.1 x.1.2.2.1 x.1.2.2.2.1 x.1.2.2.2.2.1 x.2.1.1 x.2.1.2.1 x.2.1.2.2.1 x.2.1.2.2.2.1 x.2.1.2.2.2.2.1 x.2.1.2.2.2.2.2.1 x.2.2.1.1 x.2.2.1.2.1 x.2.2.1.2.2.1 (fun y0=>K .ret (Aab Azo ((y0,()),(())))) (fun y0 y1 y2 y3 y4 y5 y6 y7 y8 y9=>K .normal (Aab Azp (((),y0,y1,y2,y3,()),((y4,y5,y6,y7,y8,y9,()),()))))
def Bgv (N:Nat):Aas Ai0:=Ap8 @Adb N
def Ahr:Aac:=⟨Ci5,Asz⟩
def Atl:Aac:=⟨A09,[]⟩
def Atm:Aac:=⟨[wq4,A1a,A1b,Bbl],Asz⟩
def Bje:Ac4:=.cons .ret Atl (.cons (.exit 0) Atm (.nil))
abbrev A6u (R:Type):=Int->Int->Int->Int->(List UInt8)->d3->d2->d1->Int->Int->(Bool->Option R)->(Int->Int->Int->(List UInt8)->d3->d2->d1->Int->Int->Option R)->Option R
abbrev Bjf (R:Type):=Int->Int->Int->Int->(List UInt8)->d3->d2->d1->Int->Int->Option R
abbrev Aoi:={R:Type}→Nat→Nat→A6u R
def A6v (Adb:Aki) {R:Type} (N:Nat) (rc:Bjf R):A6u R:=fun d e c a f g b h i j l p=>if ((decide (a<(len b)))=true) then (if (0≤a∧a<len b) then (let m:=(b.getD a.toNat (0,(0,0))).1;let n:=(b.getD a.toNat (0,(0,0))).2.1;let o:=(b.getD a.toNat (0,(0,0))).2.2;if ((!((decide (c > 0))==(m==30)))=true) then (l false) else if ((decide (c > 0))=true) then (Adb N d e (wi (c-1)) a f g b h i j m n o (fun q=>l q) fun r s t u v w x y z A=>rc r s t (wi (u+1)) v w x y z A) else Adb N d e c a f g b h i j m n o (fun B=>l B) fun C D E F G H I J L M=>rc C D E (wi (F+1)) G H I J L M) else none) else p d e c f g b h i j
def Ac3 {R:Type} (N:Nat):Nat→A6u R
 | 0=>fun _ _ _ _ _ _ _ _ _ _ _ _=>none
 | k+1=>fun a b c d e f g h i j l m=>A6v @Adb N (fun a b c d e f g h i j=>Ac3 N k a b c d e f g h i j l m) a b c d e f g h i j l m
def Asd (Ac3:Aoi) (N k:Nat):Aas Ahr:=fun R x K=>Ac3 N k x.1.2.1 x.1.2.2.1 x.1.2.2.2.1 x.1.2.2.2.2.1 x.2.1.1 x.2.1.2.1 x.2.1.2.2.1 x.2.1.2.2.2.1 x.2.1.2.2.2.2.1 x.2.1.2.2.2.2.2.1 (fun y0=>K .ret (Aab Atl ((y0,()),(())))) (fun y0 y1 y2 y3 y4 y5 y6 y7 y8=>K (.exit 0) (Aab Atm (((),y0,y1,y2,()),((y3,y4,y5,y6,y7,y8,()),()))))
def A6w (N k:Nat):Aas Ahr:=Asd @Ac3 N k
def Bco:Aac:=⟨A5f,[]⟩
def Ax5:Aac:=⟨Ah6,[]⟩
abbrev B9h (R:Type):=(List UInt8)->d3->d2->d1->Int->Int->(Bool->Option R)->Option R
abbrev Aqx:={R:Type}→Nat→B9h R
def Bcp (Ac3:Aoi):Aqx:=fun {R} N b c d e f g a=>Ac3 N N 0 0 0 0 b c d e f g (fun h=>a h) fun i j l o p q r m n=>if ((l==0)=true) then (if ((i==m)=true) then (a (j==n)) else a false) else a false
def Agt:Aqx:=@Bcp @Ac3
def Cqs (N:Nat):Abn Bco [Ax5]:=fun R x C=>Agt N x.1.1.1 x.1.1.2.1 x.1.1.2.2.1 x.1.1.2.2.2.1 x.1.1.2.2.2.2.1 x.1.1.2.2.2.2.2.1 (fun y0=>C.1 ((y0,()),(())))
def Bcq (Agt:Aqx) (N:Nat):Go.AX.Aaj:=Acr [true] [] false 1 0 Bco [Ax5] (fun R x C=>Agt N x.1.1.1 x.1.1.2.1 x.1.1.2.2.1 x.1.1.2.2.2.1 x.1.1.2.2.2.2.1 x.1.1.2.2.2.2.2.1 (fun y0=>C.1 ((y0,()),(()))))
def Bo4 (N:Nat):Go.AX.Aaj:=Bcq @Agt N
def Cqt (N:Nat):List (Nat×Acp):=[(44,Aaa Aiz (Bgt N)),(20,Aaa Ai0 (Bgv N)),(7,Aaa Ahr (A6w N N))]
def B9i (N:Nat):List (Nat×Go.AX.Aaj):=[(173,A85 N)]
def Ado:Code:=Tryz.f110.body.getD .skip
def Agh:Aac:=⟨[wq4,Cdo,Cdp,Bbl],Bn3⟩
def Ase:Aac:=⟨[wq4,Cdo,Cdp],Bn3⟩
def Bgw:Ac4:=.cons (.exit 0) Ase (.nil)
abbrev A4c (R:Type):=Int->(List UInt8)->d3->d2->d1->Int->Int->d0->d0->d0->d0->((List UInt8)->d3->d2->d1->Int->Int->d0->d0->d0->d0->Option R)->Option R
abbrev Bgx (R:Type):=Int->(List UInt8)->d3->d2->d1->Int->Int->d0->d0->d0->d0->Option R
abbrev Alp:={R:Type}→Nat→Nat→A4c R
def Avs {R:Type} (N:Nat) (rc:Bgx R):A4c R:=fun a d e f g h b i j c l m=>if ((decide (a≤b))=true) then (if (0≤a∧a<len c) then (rc (wi (a+1)) d e f g h b i j (c.set a.toNat (-1)) l) else none) else m d e f g h b i j c l
def Ab7 {R:Type} (N:Nat):Nat→A4c R
 | 0=>fun _ _ _ _ _ _ _ _ _ _ _ _=>none
 | k+1=>fun a b c d e f g h i j l m=>Avs N (fun a b c d e f g h i j l=>Ab7 N k a b c d e f g h i j l m) a b c d e f g h i j l m
def Anp (Ab7:Alp) (N k:Nat):Aas Agh:=fun R x K=>Ab7 N k x.1.2.2.2.1 x.2.1.1 x.2.1.2.1 x.2.1.2.2.1 x.2.1.2.2.2.1 x.2.1.2.2.2.2.1 x.2.1.2.2.2.2.2.1 x.2.2.2.2.1 x.2.2.2.2.2.1 x.2.2.2.2.2.2.1 x.2.2.2.2.2.2.2.1 (fun y0 y1 y2 y3 y4 y5 y6 y7 y8 y9=>K (.exit 0) (Aab Ase (((),(),(),()),((y0,y1,y2,y3,y4,y5,()),((),(),()),((),(),()),y6,y7,y8,y9,()))))
def A4d (N k:Nat):Aas Agh:=Anp @Ab7 N k
def Ahg:Aac:=⟨Ci1,Bn3⟩
def Aw2:Aac:=⟨Cng,Cix⟩
def Aw3:Aac:=⟨Ci1,Bn3⟩
def Bdt:Ac4:=.cons .ret Aw2 (.cons .normal Aw3 (.nil))
abbrev Btx (R:Type):=Int->Int->(List UInt8)->d3->d2->d1->Int->Int->d0->d0->d0->d0->(Bool->d0->d0->Option R)->(Int->Int->(List UInt8)->d3->d2->d1->Int->Int->d0->d0->d0->d0->Option R)->Option R
abbrev Ajp:={R:Type}→Nat→Btx R
def Acb:Ajp:=fun {R} N e a g h b i j l m n c f p o=>if (0≤a∧a<len f) then (if (0≤a∧a<len b) then (if (((b.getD a.toNat (0,(0,0))).1==19)=true) then (if (0≤a∧a<len b) then (let d:=(b.getD a.toNat (0,(0,0))).2.1;if (0≤d∧d<len c) then (if ((decide ((c.getD d.toNat 0)≥0))=true) then (p false c (f.set a.toNat e)) else if (0≤a∧a<len b) then (if (0≤d∧d<len c) then (o e a g h b i j l m n (c.set d.toNat a) (f.set a.toNat e)) else none) else none) else none) else none) else o e a g h b i j l m n c (f.set a.toNat e)) else none) else none
def Amo (Acb:Ajp) (N:Nat):Aas Ahg:=fun R x K=>Acb N x.1.2.2.2.1 x.1.2.2.2.2.1 x.2.1.1 x.2.1.2.1 x.2.1.2.2.1 x.2.1.2.2.2.1 x.2.1.2.2.2.2.1 x.2.1.2.2.2.2.2.1 x.2.2.2.2.1 x.2.2.2.2.2.1 x.2.2.2.2.2.2.1 x.2.2.2.2.2.2.2.1 (fun y0 y1 y2=>K .ret (Aab Aw2 (((),y0,()),(((),(),()),y1,y2,())))) (fun y0 y1 y2 y3 y4 y5 y6 y7 y8 y9 y10 y11=>K .normal (Aab Aw3 (((),(),(),y0,y1,()),((y2,y3,y4,y5,y6,y7,()),((),(),()),((),(),()),y8,y9,y10,y11,()))))
def Bdu (N:Nat):Aas Ahg:=Amo @Acb N
def Afn:Aac:=⟨Ci1,Bn3⟩
def Aql:Aac:=⟨Cng,Cix⟩
def Aqm:Aac:=⟨[wq4,Cdo,Cdp],Bn3⟩
def Bdv:Ac4:=.cons .ret Aql (.cons (.exit 2) Aqm (.nil))
abbrev A1j (R:Type):=Int->Int->(List UInt8)->d3->d2->d1->Int->Int->d0->d0->d0->d0->(Bool->d0->d0->Option R)->((List UInt8)->d3->d2->d1->Int->Int->d0->d0->d0->d0->Option R)->Option R
abbrev Bdw (R:Type):=Int->Int->(List UInt8)->d3->d2->d1->Int->Int->d0->d0->d0->d0->Option R
abbrev Ak4:={R:Type}→Nat→Nat→A1j R
def A1k (Acb:Ajp) {R:Type} (N:Nat) (rc:Bdw R):A1j R:=fun m a c d b e f g h i j l n o=>if ((decide (a<(len b)))=true) then (if (0≤a∧a<len b) then (if (((b.getD a.toNat (0,(0,0))).1==24)=true) then (Acb N (wi (m+1)) a c d b e f g h i j l (fun p q r=>n p q r) fun s t u v w x y z A B C D=>rc s (wi (t+1)) u v w x y z A B C D) else Acb N m a c d b e f g h i j l (fun E F G=>n E F G) fun H I J L M O P Q S T U V=>rc H (wi (I+1)) J L M O P Q S T U V) else none) else o c d b e f g h i j l
def Abr {R:Type} (N:Nat):Nat→A1j R
 | 0=>fun _ _ _ _ _ _ _ _ _ _ _ _ _ _=>none
 | k+1=>fun a b c d e f g h i j l m n o=>A1k @Acb N (fun a b c d e f g h i j l m=>Abr N k a b c d e f g h i j l m n o) a b c d e f g h i j l m n o
def Amp (Abr:Ak4) (N k:Nat):Aas Afn:=fun R x K=>Abr N k x.1.2.2.2.1 x.1.2.2.2.2.1 x.2.1.1 x.2.1.2.1 x.2.1.2.2.1 x.2.1.2.2.2.1 x.2.1.2.2.2.2.1 x.2.1.2.2.2.2.2.1 x.2.2.2.2.1 x.2.2.2.2.2.1 x.2.2.2.2.2.2.1 x.2.2.2.2.2.2.2.1 (fun y0 y1 y2=>K .ret (Aab Aql (((),y0,()),(((),(),()),y1,y2,())))) (fun y0 y1 y2 y3 y4 y5 y6 y7 y8 y9=>K (.exit 2) (Aab Aqm (((),(),(),()),((y0,y1,y2,y3,y4,y5,()),((),(),()),((),(),()),y6,y7,y8,y9,()))))
def A1l (N k:Nat):Aas Afn:=Amp @Abr N k
def Awk:Code:=Tryz.f174.body.getD .skip
def Alq:Aac:=⟨[wq4,A1b,Cm7],A2a⟩
def Azq:Aac:=⟨Bbm,[]⟩
def Azr:Aac:=⟨[],[]⟩
def Bgy:Ac4:=.cons .ret Azq (.cons .normal Azr (.nil))
abbrev Bw6 (R:Type):=Int->Bool->Int->Int->Int->(Int->Option R)->(Option R)->Option R
abbrev Ap9:={R:Type}→Nat→Bw6 R
def Ad2:Ap9:=fun {R} N b c g d e a f=>if (c=true) then (a d) else if ((b==30)=true) then (a e) else f
def A4e (Ad2:Ap9) (N:Nat):Aas Alq:=fun R x K=>Ad2 N x.1.2.1 x.1.2.2.1 x.2.1.1 x.2.1.2.1 x.2.1.2.2.1 (fun y0=>K .ret (Aab Azq ((y0,()),(())))) (K .normal (Aab Azr ((()),(()))))
def Bgz (N:Nat):Aas Alq:=A4e @Ad2 N
def Bcr:Aac:=⟨Cbo,[]⟩
def Ax6:Aac:=⟨A1c,[]⟩
abbrev B9j (R:Type):=Int->Int->Int->(Int->Option R)->Option R
abbrev Aie:={R:Type}→Nat→B9j R
def Bcs (Ad2:Ap9):Aie:=fun {R} N a c d b=>if ((a==20)=true) then (Ad2 N a (a==20) a c d (fun e=>b e) (b 0)) else if ((a==21)=true) then (Ad2 N a (a==21) a c d (fun f=>b f) (b 0)) else if ((a==22)=true) then (Ad2 N a (a==22) a c d (fun g=>b g) (b 0)) else if ((a==27)=true) then (Ad2 N a (a==27) a c d (fun h=>b h) (b 0)) else Ad2 N a (a==29) a c d (fun i=>b i) (b 0)
def Abe:Aie:=@Bcs @Ad2
def Cqu (N:Nat):Abn Bcr [Ax6]:=fun R x C=>Abe N x.1.1.1 x.1.1.2.1 x.1.1.2.2.1 (fun y0=>C.1 ((y0,()),(())))
def Amv (Abe:Aie) (N:Nat):Go.AX.Aaj:=Acr [true] [] false 1 0 Bcr [Ax6] (fun R x C=>Abe N x.1.1.1 x.1.1.2.1 x.1.1.2.2.1 (fun y0=>C.1 ((y0,()),(()))))
def Bct (N:Nat):Go.AX.Aaj:=Amv @Abe N
def Cqv (N:Nat):List (Nat×Acp):=[(14,Aaa Alq (Bgz N))]
def B9k (N:Nat):List (Nat×Go.AX.Aaj):=[]
def Afo:Aac:=⟨[wq4,Cdo,Cdp,Cdt],Bn3⟩
def Aqn:Aac:=⟨Cng,Cix⟩
def Aqo:Aac:=⟨[A2w,(4,.one (.ptr 33))],[(32,.cells 130 [(.slf 34),(.slf 35)]),(33,.cells 130 [(.slf 36),(.slf 37)]),Cds,Cr1,Cr2,Cr3]⟩
def Bdx:Ac4:=.cons .ret Aqn (.cons (.exit 4) Aqo (.nil))
abbrev A1m (R:Type):=Int->(List UInt8)->d3->d2->d1->Int->Int->d0->d0->d0->d0->(Bool->d0->d0->Option R)->(d0->d0->d0->d0->Option R)->Option R
abbrev Bdy (R:Type):=Int->(List UInt8)->d3->d2->d1->Int->Int->d0->d0->d0->d0->Option R
abbrev Ak5:={R:Type}→Nat→Nat→A1m R
def A1n (Abe:Aie) {R:Type} (N:Nat) (rc:Bdy R):A1m R:=fun a i j d l m n g h c b o p=>if ((decide (a<(len d)))=true) then (if (0≤a∧a<len d) then (Abe N ((d.getD a.toNat (0,(0,0))).1) ((d.getD a.toNat (0,(0,0))).2.1) ((d.getD a.toNat (0,(0,0))).2.2) fun e=>if ((decide (e > 0))=true) then (if (0≤e∧e<len c) then (let f:=(c.getD e.toNat 0);if ((decide (f<0))=true) then (o false c b) else if (0≤e∧e<len c) then (if (0≤f∧f<len b) then (if (0≤a∧a<len b) then (if (((b.getD f.toNat 0) != (b.getD a.toNat 0))=true) then (o false c b) else rc (wi (a+1)) i j d l m n g h c b) else none) else none) else none) else none) else rc (wi (a+1)) i j d l m n g h c b) else none) else p g h c b
def Abl {R:Type} (N:Nat):Nat→A1m R
 | 0=>fun _ _ _ _ _ _ _ _ _ _ _ _ _=>none
 | k+1=>fun a b c d e f g h i j l m n=>A1n @Abe N (fun a b c d e f g h i j l=>Abl N k a b c d e f g h i j l m n) a b c d e f g h i j l m n
def Amq (Abl:Ak5) (N k:Nat):Aas Afo:=fun R x K=>Abl N k x.1.2.2.2.1 x.2.1.1 x.2.1.2.1 x.2.1.2.2.1 x.2.1.2.2.2.1 x.2.1.2.2.2.2.1 x.2.1.2.2.2.2.2.1 x.2.2.2.2.1 x.2.2.2.2.2.1 x.2.2.2.2.2.2.1 x.2.2.2.2.2.2.2.1 (fun y0 y1 y2=>K .ret (Aab Aqn (((),y0,()),(((),(),()),y1,y2,())))) (fun y0 y1 y2 y3=>K (.exit 4) (Aab Aqo (((),(),()),(((),(),()),((),(),()),y0,y1,y2,y3,()))))
def A1o (N k:Nat):Aas Afo:=Amq @Abl N k
def A86:Aac:=⟨A5f,[]⟩
def Avt:Aac:=⟨[(0,.agg [(.slf 32),(.slf 33)]),(1,.one (.val .bool))],Cdv⟩
abbrev B44 (R:Type):=(List UInt8)->d3->d2->d1->Int->Int->(Bool->d0->d0->Option R)->Option R
abbrev Apu:={R:Type}→Nat→B44 R
def A87 (Ab7:Alp) (Abr:Ak4) (Abl:Ak5):Apu:=fun {R} N e f a g h d c=>let b:=(wi (d+1));if ((0≤b)∧((b≤b)∧((b*8)≤70368744177664))) then (if ((0≤(len a))∧(((len a)≤(len a))∧(((len a)*8)≤70368744177664))) then (Ab7 N N 0 e f a g h d ([]:List Int) ([]:List Int) (List.replicate (Int.toNat b) 0) (List.replicate (Int.toNat (len a)) 0) fun i j l m n o p q r s=>Abr N N 0 0 i j l m n o p q r s (fun t u v=>c t u v) fun w x y z A B C D E F=>Abl N N 0 w x y z A B C D E F (fun G H I=>c G H I) fun M O J L=>c true J L) else none) else none
def Af3:Apu:=@A87 @Ab7 @Abr @Abl
def Cps (N:Nat):Abn A86 [Avt]:=fun R x C=>Af3 N x.1.1.1 x.1.1.2.1 x.1.1.2.2.1 x.1.1.2.2.2.1 x.1.1.2.2.2.2.1 x.1.1.2.2.2.2.2.1 (fun y0 y1 y2=>C.1 ((((),(),()),y0,()),(y1,y2,())))
def A88 (Af3:Apu) (N:Nat):Go.AX.Aaj:=Acr [true] [] false 1 0 A86 [Avt] (fun R x C=>Af3 N x.1.1.1 x.1.1.2.1 x.1.1.2.2.1 x.1.1.2.2.2.1 x.1.1.2.2.2.2.1 x.1.1.2.2.2.2.2.1 (fun y0 y1 y2=>C.1 ((((),(),()),y0,()),(y1,y2,()))))
def Bml (N:Nat):Go.AX.Aaj:=A88 @Af3 N
def Cpt (N:Nat):List (Nat×Acp):=[(7,Aaa Agh (A4d N N)),(24,Aaa Ahg (Bdu N)),(17,Aaa Afn (A1l N N)),(37,Aaa Afo (A1o N N))]
def B45 (N:Nat):List (Nat×Go.AX.Aaj):=[(174,Bct N)]
def Aqa:Code:=Tryz.f111.body.getD .skip
def Aje:Code:=Tryz.f175.body.getD .skip
def Ai1:Aac:=⟨[Ama,A2w,A2x,(43,.one (.val .bool))],A2a⟩
def Azs:Aac:=⟨Cip,[]⟩
def Azt:Aac:=⟨Ciq,[]⟩
def Bg0:Ac4:=.cons .ret Azs (.cons .normal Azt (.nil))
abbrev Bw7 (R:Type):=Int->Int->Bool->Int->Int->Int->(Int->Option R)->(Int->Option R)->Option R
abbrev Alr:={R:Type}→Nat→Bw7 R
def Adc:Alr:=fun {R} N b c d h e f a g=>if (d=true) then (a (wi (e+1))) else if ((c==24)=true) then (a (wi (2+f))) else g b
def Aqb (Adc:Alr) (N:Nat):Aas Ai1:=fun R x K=>Adc N x.1.1 x.1.2.2.1 x.1.2.2.2.1 x.2.1.1 x.2.1.2.1 x.2.1.2.2.1 (fun y0=>K .ret (Aab Azs ((y0,()),(())))) (fun y0=>K .normal (Aab Azt ((y0,()),(()))))
def Bg1 (N:Nat):Aas Ai1:=Aqb @Adc N
def Ai2:Aac:=⟨[Ama,A2w,A2x,(18,.one (.val .bool))],A2a⟩
def Azu:Aac:=⟨Cip,[]⟩
def Azv:Aac:=⟨Ciq,[]⟩
def Bg2:Ac4:=.cons .ret Azu (.cons .normal Azv (.nil))
abbrev Bw8 (R:Type):=Int->Int->Bool->Int->Int->Int->(Int->Option R)->(Int->Option R)->Option R
abbrev Akj:={R:Type}→Nat→Bw8 R
def A4f (Adc:Alr):Akj:=fun {R} N c a h e d f b g=>if (h=true) then (b (wi (c-1))) else if ((a==13)=true) then (b (wi (c-2))) else if ((a==15)=true) then (b (wi (c-3))) else if ((a==18)=true) then (b d) else if ((a==23)=true) then (Adc N c a (a==23) e d f (fun i=>b i) fun j=>g j) else Adc N c a (a==28) e d f (fun l=>b l) fun m=>g m
def Abs:Akj:=@A4f @Adc
def Aqc (Abs:Akj) (N:Nat):Aas Ai2:=fun R x K=>Abs N x.1.1 x.1.2.2.1 x.1.2.2.2.1 x.2.1.1 x.2.1.2.1 x.2.1.2.2.1 (fun y0=>K .ret (Aab Azu ((y0,()),(())))) (fun y0=>K .normal (Aab Azv ((y0,()),(()))))
def Bg3 (N:Nat):Aas Ai2:=Aqc @Abs N
def Ai3:Aac:=⟨[Ama,A2w,A2x,Cii],A2a⟩
def Azw:Aac:=⟨Cip,[]⟩
def Azx:Aac:=⟨Ciq,[]⟩
def Bg4:Ac4:=.cons .ret Azw (.cons .normal Azx (.nil))
abbrev Bw9 (R:Type):=Int->Int->Bool->Int->Int->Int->(Int->Option R)->(Int->Option R)->Option R
abbrev Akk:={R:Type}→Nat→Bw9 R
def A4g (Abs:Akj):Akk:=fun {R} N b a h d e f c g=>if (h=true) then (c (wi (b+1))) else if ((a==3)=true) then (Abs N b a (a==3) d e f (fun i=>c i) fun j=>g j) else if ((a==6)=true) then (Abs N b a (a==6) d e f (fun l=>c l) fun m=>g m) else if ((a==9)=true) then (Abs N b a (a==9) d e f (fun n=>c n) fun o=>g o) else if ((a==16)=true) then (Abs N b a (a==16) d e f (fun p=>c p) fun q=>g q) else if ((a==14)=true) then (Abs N b a (a==14) d e f (fun r=>c r) fun s=>g s) else if ((a==21)=true) then (Abs N b a (a==21) d e f (fun t=>c t) fun u=>g u) else if ((a==22)=true) then (Abs N b a (a==22) d e f (fun v=>c v) fun w=>g w) else if ((a==29)=true) then (Abs N b a (a==29) d e f (fun x=>c x) fun y=>g y) else if ((a==25)=true) then (Abs N b a (a==25) d e f (fun z=>c z) fun A=>g A) else Abs N b a (a==27) d e f (fun B=>c B) fun C=>g C
def Ab8:Akk:=@A4g @Abs
def Aqd (Ab8:Akk) (N:Nat):Aas Ai3:=fun R x K=>Ab8 N x.1.1 x.1.2.2.1 x.1.2.2.2.1 x.2.1.1 x.2.1.2.1 x.2.1.2.2.1 (fun y0=>K .ret (Aab Azw ((y0,()),(())))) (fun y0=>K .normal (Aab Azx ((y0,()),(()))))
def Bg5 (N:Nat):Aas Ai3:=Aqd @Ab8 N
def Bcu:Aac:=⟨[Bts,Ama],[]⟩
def Ax7:Aac:=⟨A1c,[]⟩
abbrev B9l (R:Type):=Int->Int->Int->Int->(Int->Option R)->Option R
abbrev Aqy:={R:Type}→Nat→B9l R
def Bcv (Ab8:Akk):Aqy:=fun {R} N a c d e b=>if ((a==1)=true) then (Ab8 N e a (a==1) a c d (fun f=>b f) fun g=>b g) else if ((a==2)=true) then (Ab8 N e a (a==2) a c d (fun h=>b h) fun i=>b i) else if ((a==4)=true) then (Ab8 N e a (a==4) a c d (fun j=>b j) fun l=>b l) else if ((a==5)=true) then (Ab8 N e a (a==5) a c d (fun m=>b m) fun n=>b n) else if ((a==7)=true) then (Ab8 N e a (a==7) a c d (fun o=>b o) fun p=>b p) else if ((a==8)=true) then (Ab8 N e a (a==8) a c d (fun q=>b q) fun r=>b r) else if ((a==10)=true) then (Ab8 N e a (a==10) a c d (fun s=>b s) fun t=>b t) else Ab8 N e a (a==11) a c d (fun u=>b u) fun v=>b v
def Af8:Aqy:=@Bcv @Ab8
def Cqw (N:Nat):Abn Bcu [Ax7]:=fun R x C=>Af8 N x.1.1.1 x.1.1.2.1 x.1.1.2.2.1 x.1.2.1 (fun y0=>C.1 ((y0,()),(())))
def Bcw (Af8:Aqy) (N:Nat):Go.AX.Aaj:=Acr [true,true] [] false 2 0 Bcu [Ax7] (fun R x C=>Af8 N x.1.1.1 x.1.1.2.1 x.1.1.2.2.1 x.1.2.1 (fun y0=>C.1 ((y0,()),(()))))
def Bo5 (N:Nat):Go.AX.Aaj:=Bcw @Af8 N
def Cqx (N:Nat):List (Nat×Acp):=[(60,Aaa Ai1 (Bg1 N)),(42,Aaa Ai2 (Bg3 N)),(20,Aaa Ai3 (Bg5 N))]
def B9m (N:Nat):List (Nat×Go.AX.Aaj):=[]
def Amw:Code:=Tryz.f176.body.getD .skip
def Akl:Aac:=⟨[A1b,(16,.one (.val .bool))],[]⟩
def Azy:Aac:=⟨Bbm,[]⟩
def Azz:Aac:=⟨[],[]⟩
def Bg6:Ac4:=.cons .ret Azy (.cons .normal Azz (.nil))
abbrev Bxa (R:Type):=Int->Bool->(Int->Option R)->(Option R)->Option R
abbrev Anq:={R:Type}→Nat→Bxa R
def Adp:Anq:=fun {R} N b c a d=>if (c=true) then (a 2) else if ((b==15)=true) then (a 3) else d
def Avu (Adp:Anq) (N:Nat):Aas Akl:=fun R x K=>Adp N x.1.1 x.1.2.1 (fun y0=>K .ret (Aab Azy ((y0,()),(())))) (K .normal (Aab Azz ((()),(()))))
def Bg7 (N:Nat):Aas Akl:=Avu @Adp N
def Akm:Aac:=⟨[A1b,Cm7],[]⟩
def Az0:Aac:=⟨Bbm,[]⟩
def Az1:Aac:=⟨[],[]⟩
def Bg8:Ac4:=.cons .ret Az0 (.cons .normal Az1 (.nil))
abbrev Bxb (R:Type):=Int->Bool->(Int->Option R)->(Option R)->Option R
abbrev Als:={R:Type}→Nat→Bxb R
def A4h (Adp:Anq):Als:=fun {R} N a d b c=>if (d=true) then (b 1) else if ((a==16)=true) then (Adp N a (a==16) (fun e=>b e) c) else if ((a==14)=true) then (Adp N a (a==14) (fun f=>b f) c) else Adp N a (a==13) (fun g=>b g) c
def Acg:Als:=@A4h @Adp
def Avv (Acg:Als) (N:Nat):Aas Akm:=fun R x K=>Acg N x.1.1 x.1.2.1 (fun y0=>K .ret (Aab Az0 ((y0,()),(())))) (K .normal (Aab Az1 ((()),(()))))
def Bg9 (N:Nat):Aas Akm:=Avv @Acg N
def Bcx:Aac:=⟨Cbo,[]⟩
def Ax8:Aac:=⟨A1c,[]⟩
abbrev B9n (R:Type):=Int->Int->Int->(Int->Option R)->Option R
abbrev Aqz:={R:Type}→Nat→B9n R
def Bcy (Acg:Als):Aqz:=fun {R} N a n o b=>if ((a==3)=true) then (Acg N a (a==3) (fun c=>b c) (b 0)) else if ((a==6)=true) then (Acg N a (a==6) (fun d=>b d) (b 0)) else if ((a==9)=true) then (Acg N a (a==9) (fun e=>b e) (b 0)) else if ((a==12)=true) then (Acg N a (a==12) (fun f=>b f) (b 0)) else if ((a==17)=true) then (Acg N a (a==17) (fun g=>b g) (b 0)) else if ((a==21)=true) then (Acg N a (a==21) (fun h=>b h) (b 0)) else if ((a==22)=true) then (Acg N a (a==22) (fun i=>b i) (b 0)) else if ((a==29)=true) then (Acg N a (a==29) (fun j=>b j) (b 0)) else if ((a==25)=true) then (Acg N a (a==25) (fun l=>b l) (b 0)) else Acg N a (a==27) (fun m=>b m) (b 0)
def Afb:Aqz:=@Bcy @Acg
def Cqy (N:Nat):Abn Bcx [Ax8]:=fun R x C=>Afb N x.1.1.1 x.1.1.2.1 x.1.1.2.2.1 (fun y0=>C.1 ((y0,()),(())))
def Bcz (Afb:Aqz) (N:Nat):Go.AX.Aaj:=Acr [true] [] false 1 0 Bcx [Ax8] (fun R x C=>Afb N x.1.1.1 x.1.1.2.1 x.1.1.2.2.1 (fun y0=>C.1 ((y0,()),(()))))
def Bo6 (N:Nat):Go.AX.Aaj:=Bcz @Afb N
def Cqz (N:Nat):List (Nat×Acp):=[(32,Aaa Akl (Bg7 N)),(24,Aaa Akm (Bg9 N))]
def B9o (N:Nat):List (Nat×Go.AX.Aaj):=[]
def Awl:Code:=Tryz.f177.body.getD .skip
def Amm:Aac:=⟨[Ama,A2w,A2x,Cii],A2a⟩
def A1p:Aac:=⟨A79,[]⟩
def A1q:Aac:=⟨[],[]⟩
def Bjg:Ac4:=.cons .ret A1p (.cons .normal A1q (.nil))
abbrev B1k (R:Type):=Int->Int->Bool->Int->Int->Int->(Bool->Option R)->(Option R)->Option R
abbrev Aoj:={R:Type}→Nat→B1k R
def A6x (Aan:Ad9):Aoj:=fun {R} N c d e i a j b f=>if (e=true) then (Aan N a 2 (wi (c-1)) fun g=>b g) else if ((d==4)=true) then (b (decide (a≥2))) else if ((d==23)=true) then (Aan N a 2 (wi (c-3)) fun h=>b h) else if ((d==18)=true) then (b (decide (a≤(wi ((wi (c+2000))+2))))) else f
def Agi:Aoj:=@A6x @Aan
def A6y (Agi:Aoj) (N:Nat):Aas Amm:=fun R x K=>Agi N x.1.1 x.1.2.2.1 x.1.2.2.2.1 x.2.1.1 x.2.1.2.1 x.2.1.2.2.1 (fun y0=>K .ret (Aab A1p ((y0,()),(())))) (K .normal (Aab A1q ((()),(()))))
def Bjh (N:Nat):Aas Amm:=A6y @Agi N
def Bc0:Aac:=⟨[Bts,Ama],[]⟩
def Ax9:Aac:=⟨Ah6,[]⟩
abbrev B9p (R:Type):=Int->Int->Int->Int->(Bool->Option R)->Option R
abbrev Aq0:={R:Type}→Nat→B9p R
def Bc1 (Agi:Aoj):Aq0:=fun {R} N a c d e b=>if ((a==2)=true) then (Agi N e a (a==2) a c d (fun f=>b f) (b true)) else Agi N e a (a==3) a c d (fun g=>b g) (b true)
def Afc:Aq0:=@Bc1 @Agi
def Cq0 (N:Nat):Abn Bc0 [Ax9]:=fun R x C=>Afc N x.1.1.1 x.1.1.2.1 x.1.1.2.2.1 x.1.2.1 (fun y0=>C.1 ((y0,()),(())))
def Bc2 (Afc:Aq0) (N:Nat):Go.AX.Aaj:=Acr [true,true] [] false 2 0 Bc0 [Ax9] (fun R x C=>Afc N x.1.1.1 x.1.1.2.1 x.1.1.2.2.1 x.1.2.1 (fun y0=>C.1 ((y0,()),(()))))
def Bo7 (N:Nat):Go.AX.Aaj:=Bc2 @Afc N
def Cq1 (N:Nat):List (Nat×Acp):=[(8,Aaa Amm (Bjh N))]
def B9q (N:Nat):List (Nat×Go.AX.Aaj):=[(172,A6p N)]
def Ao2:Code:=Tryz.f178.body.getD .skip
def Ajy:Aac:=⟨B34,[]⟩
def Atn:Aac:=⟨B34,[]⟩
def Bji:Ac4:=.cons (.exit 0) Atn (.nil)
abbrev A6z (R:Type):=d2->Int->(d2->Int->Option R)->Option R
abbrev Bjj (R:Type):=d2->Int->Option R
abbrev Aya:={R:Type}→Nat→Nat→A6z R
def A60 {R:Type} (N:Nat) (rc:Bjj R):A6z R:=fun b a c=>if ((decide (a<(len b)))=true) then (if (0≤a∧a<len b) then (if (((b.getD a.toNat (0,(0,0))).1==19)=true) then (rc b (wi (a+1))) else c b a) else none) else c b a
def Ae5 {R:Type} (N:Nat):Nat→A6z R
 | 0=>fun _ _ _=>none
 | k+1=>fun a b c=>A60 N (fun a b=>Ae5 N k a b c) a b c
def A61 (Ae5:Aya) (N k:Nat):Aas Ajy:=fun R x K=>Ae5 N k x.1.1 x.1.2.1 (fun y0 y1=>K (.exit 0) (Aab Atn ((y0,y1,()),(()))))
def A62 (N k:Nat):Aas Ajy:=A61 @Ae5 N k
def Bc3:Aac:=⟨B34,[]⟩
def Ayb:Aac:=⟨Ah6,[]⟩
abbrev B9r (R:Type):=d2->Int->(Bool->Option R)->Option R
abbrev Aq1:={R:Type}→Nat→B9r R
def Bc4 (Ae5:Aya):Aq1:=fun {R} N d e c=>Ae5 N N d e fun b a=>if ((decide (a<(len b)))=true) then (if (0≤a∧a<len b) then (c ((b.getD a.toNat (0,(0,0))).1==28)) else none) else c false
def Aej:Aq1:=@Bc4 @Ae5
def Cq2 (N:Nat):Abn Bc3 [Ayb]:=fun R x C=>Aej N x.1.1 x.1.2.1 (fun y0=>C.1 ((y0,()),(())))
def Bc5 (Aej:Aq1) (N:Nat):Go.AX.Aaj:=Acr [true,true] [] false 2 0 Bc3 [Ayb] (fun R x C=>Aej N x.1.1 x.1.2.1 (fun y0=>C.1 ((y0,()),(()))))
def Bo8 (N:Nat):Go.AX.Aaj:=Bc5 @Aej N
def Cq3 (N:Nat):List (Nat×Acp):=[(3,Aaa Ajy (A62 N N))]
def B9s (N:Nat):List (Nat×Go.AX.Aaj):=[]
def Akz:Aac:=⟨[A2w,Bkh,Bbl,Cm6,Bn1],[A5g,(33,.cells 130 [Bwx,Bwx])]⟩
def Avw:Aac:=⟨A79,[]⟩
def Avx:Aac:=⟨[],[]⟩
def Bmm:Ac4:=.cons .ret Avw (.cons (.exit 0) Avx (.nil))
abbrev A89 (R:Type):=Int->Bool->Int->(List UInt8)->d3->d2->d1->Int->Int->d0->d0->(Bool->Option R)->(Option R)->Option R
abbrev Anr (R:Type):=Int->Bool->Int->(List UInt8)->d3->d2->d1->Int->Int->d0->d0->Option R
abbrev A04:={R:Type}→Nat→Nat→A89 R
def A9a (Af8:Aqy) (Afb:Aqz) (Aan:Ad9) (Afc:Aq0) (Abe:Aie) (Aej:Aq1) (Aaz:Ajo) {R:Type} (N:Nat) (rc:Anr R):A89 R:=fun q o d f g b h i j c l p y=>if ((decide (d<(len b)))=true) then (if (0≤d∧d<len b) then (let a:=(b.getD d.toNat (0,(0,0))).1;let n:=(b.getD d.toNat (0,(0,0))).2.1;let m:=(b.getD d.toNat (0,(0,0))).2.2;if ((a==24)=true) then (rc (wi (2+m)) true (wi (d+1)) f g b h i j c l) else Af8 N a n m q fun e=>if ((a==18)=true) then (let x:=(wi (d-1));if (0≤x∧x<len b) then (Afb N a n m fun z=>if ((decide ((wi (q-z))<2))=true) then (p false) else Aan N e 2 4000 fun A=>if ((!A)=true) then (p false) else if ((!((b.getD x.toNat (0,(0,0))).1==19))=true) then (Afc N a n m q fun B=>if ((!B)=true) then (p false) else if ((a==28)=true) then (if (o=true) then (p false) else Abe N a n m fun r=>if ((decide (r > 0))=true) then (if (0≤r∧r<len c) then (Aej N b (c.getD r.toNat 0) fun C=>if ((!(C==(a==27)))=true) then (p false) else if ((a != 19)=true) then (Aaz N a n m fun D=>rc e D (wi (d+1)) f g b h i j c l) else rc e o (wi (d+1)) f g b h i j c l) else none) else if ((a != 19)=true) then (Aaz N a n m fun E=>rc e E (wi (d+1)) f g b h i j c l) else rc e o (wi (d+1)) f g b h i j c l) else Abe N a n m fun s=>if ((decide (s > 0))=true) then (if (0≤s∧s<len c) then (Aej N b (c.getD s.toNat 0) fun F=>if ((!(F==(a==27)))=true) then (p false) else if ((a != 19)=true) then (Aaz N a n m fun G=>rc e G (wi (d+1)) f g b h i j c l) else rc e o (wi (d+1)) f g b h i j c l) else none) else if ((a != 19)=true) then (Aaz N a n m fun H=>rc e H (wi (d+1)) f g b h i j c l) else rc e o (wi (d+1)) f g b h i j c l) else if ((a==28)=true) then (if (o=true) then (p false) else Abe N a n m fun t=>if ((decide (t > 0))=true) then (if (0≤t∧t<len c) then (Aej N b (c.getD t.toNat 0) fun I=>if ((!(I==(a==27)))=true) then (p false) else if ((a != 19)=true) then (Aaz N a n m fun J=>rc e J (wi (d+1)) f g b h i j c l) else rc e o (wi (d+1)) f g b h i j c l) else none) else if ((a != 19)=true) then (Aaz N a n m fun L=>rc e L (wi (d+1)) f g b h i j c l) else rc e o (wi (d+1)) f g b h i j c l) else Abe N a n m fun u=>if ((decide (u > 0))=true) then (if (0≤u∧u<len c) then (Aej N b (c.getD u.toNat 0) fun M=>if ((!(M==(a==27)))=true) then (p false) else if ((a != 19)=true) then (Aaz N a n m fun O=>rc e O (wi (d+1)) f g b h i j c l) else rc e o (wi (d+1)) f g b h i j c l) else none) else if ((a != 19)=true) then (Aaz N a n m fun P=>rc e P (wi (d+1)) f g b h i j c l) else rc e o (wi (d+1)) f g b h i j c l) else none) else Afb N a n m fun Q=>if ((decide ((wi (q-Q))<2))=true) then (p false) else Aan N e 2 4000 fun S=>if ((!S)=true) then (p false) else Afc N a n m q fun T=>if ((!T)=true) then (p false) else if ((a==28)=true) then (if (o=true) then (p false) else Abe N a n m fun v=>if ((decide (v > 0))=true) then (if (0≤v∧v<len c) then (Aej N b (c.getD v.toNat 0) fun U=>if ((!(U==(a==27)))=true) then (p false) else if ((a != 19)=true) then (Aaz N a n m fun V=>rc e V (wi (d+1)) f g b h i j c l) else rc e o (wi (d+1)) f g b h i j c l) else none) else if ((a != 19)=true) then (Aaz N a n m fun W=>rc e W (wi (d+1)) f g b h i j c l) else rc e o (wi (d+1)) f g b h i j c l) else Abe N a n m fun w=>if ((decide (w > 0))=true) then (if (0≤w∧w<len c) then (Aej N b (c.getD w.toNat 0) fun X=>if ((!(X==(a==27)))=true) then (p false) else if ((a != 19)=true) then (Aaz N a n m fun Y=>rc e Y (wi (d+1)) f g b h i j c l) else rc e o (wi (d+1)) f g b h i j c l) else none) else if ((a != 19)=true) then (Aaz N a n m fun Z=>rc e Z (wi (d+1)) f g b h i j c l) else rc e o (wi (d+1)) f g b h i j c l) else none) else y
def Ae2 {R:Type} (N:Nat):Nat→A89 R
 | 0=>fun _ _ _ _ _ _ _ _ _ _ _ _ _=>none
 | k+1=>fun a b c d e f g h i j l m n=>A9a @Af8 @Afb @Aan @Afc @Abe @Aej @Aaz N (fun a b c d e f g h i j l=>Ae2 N k a b c d e f g h i j l m n) a b c d e f g h i j l m n
def A9b (Ae2:A04) (N k:Nat):Aas Akz:=fun R x K=>Ae2 N k x.1.2.2.1 x.1.2.2.2.1 x.1.2.2.2.2.1 x.2.1.1 x.2.1.2.1 x.2.1.2.2.1 x.2.1.2.2.2.1 x.2.1.2.2.2.2.1 x.2.1.2.2.2.2.2.1 x.2.2.1.1 x.2.2.1.2.1 (fun y0=>K .ret (Aab Avw ((y0,()),(())))) (K (.exit 0) (Aab Avx ((()),(()))))
def A9c (N k:Nat):Aas Akz:=A9b @Ae2 N k
def Bha:Aac:=⟨[Ciy,(1,.agg [Bwx,Bwx])],[]⟩
def A05:Aac:=⟨Ah6,[]⟩
abbrev Cea (R:Type):=(List UInt8)->d3->d2->d1->Int->Int->d0->d0->(Bool->Option R)->Option R
abbrev At9:={R:Type}→Nat→Cea R
def Bhb (Ae2:A04):At9:=fun {R} N b c d e f g h i a=>Ae2 N N 0 false 0 b c d e f g h i (fun j=>a j) (a true)
def Aib:At9:=@Bhb @Ae2
def Cse (N:Nat):Abn Bha [A05]:=fun R x C=>Aib N x.1.1.1 x.1.1.2.1 x.1.1.2.2.1 x.1.1.2.2.2.1 x.1.1.2.2.2.2.1 x.1.1.2.2.2.2.2.1 x.1.2.1.1 x.1.2.1.2.1 (fun y0=>C.1 ((y0,()),(())))
def Bhc (Aib:At9) (N:Nat):Go.AX.Aaj:=Acr [true,true] [] false 2 0 Bha [A05] (fun R x C=>Aib N x.1.1.1 x.1.1.2.1 x.1.1.2.2.1 x.1.1.2.2.2.1 x.1.1.2.2.2.2.1 x.1.1.2.2.2.2.2.1 x.1.2.1.1 x.1.2.1.2.1 (fun y0=>C.1 ((y0,()),(()))))
def Brz (N:Nat):Go.AX.Aaj:=Bhc @Aib N
def Csf (N:Nat):List (Nat×Acp):=[(7,Aaa Akz (A9c N N))]
def Ceb (N:Nat):List (Nat×Go.AX.Aaj):=[(175,Bo5 N),(176,Bo6 N),(172,A6p N),(177,Bo7 N),(174,Bct N),(178,Bo8 N),(173,A85 N)]
def Bc6:Aac:=⟨A5f,[]⟩
def Ayc:Aac:=⟨A1c,[]⟩
abbrev B9t (R:Type):=(List UInt8)->d3->d2->d1->Int->Int->(Int->Option R)->Option R
abbrev Aq2:={R:Type}→Nat→B9t R
def Bc7 (Afm:Aof) (Ahf:Aqw) (Aet:Avq) (Agt:Aqx) (Af3:Apu) (Aib:At9):Aq2:=fun {R} N d e f g b c a=>Afm N d e f g b c fun o=>if (o=true) then (a 2) else if ((decide (b<0))=true) then (a 60) else if ((decide (c<0))=true) then (a 60) else Ahf N d e f g b c fun p=>if ((!p)=true) then (a 60) else Aet N N 0 d e f g b c (fun q=>a q) fun h i j l m n=>Agt N h i j l m n fun r=>if ((!r)=true) then (a 60) else Af3 N h i j l m n fun s t u=>if ((!s)=true) then (a 60) else Aib N h i j l m n t u fun v=>if ((!v)=true) then (a 61) else a 0
def Agu:Aq2:=@Bc7 @Afm @Ahf @Aet @Agt @Af3 @Aib
def Cq4 (N:Nat):Abn Bc6 [Ayc]:=fun R x C=>Agu N x.1.1.1 x.1.1.2.1 x.1.1.2.2.1 x.1.1.2.2.2.1 x.1.1.2.2.2.2.1 x.1.1.2.2.2.2.2.1 (fun y0=>C.1 ((y0,()),(())))
def Bc8 (Agu:Aq2) (N:Nat):Go.AX.Aaj:=Acr [true] [] false 1 0 Bc6 [Ayc] (fun R x C=>Agu N x.1.1.1 x.1.1.2.1 x.1.1.2.2.1 x.1.1.2.2.2.1 x.1.1.2.2.2.2.1 x.1.1.2.2.2.2.2.1 (fun y0=>C.1 ((y0,()),(()))))
def Bo9 (N:Nat):Go.AX.Aaj:=Bc8 @Agu N
def Cq5 (N:Nat):List (Nat×Acp):=[(13,Aaa Aiy (A39 N N))]
def B9u (N:Nat):List (Nat×Go.AX.Aaj):=[(106,Bi8 N),(107,Bo3 N),(108,Bjd N),(109,Bo4 N),(110,Bml N),(111,Brz N)]
def Bc9:Aac:=⟨Bn2,[]⟩
def Ayd:Aac:=⟨A1c,[]⟩
abbrev B9v (R:Type):=(List UInt8)->d3->d1->d2->d4->(Int->Option R)->Option R
abbrev Amx:={R:Type}→Nat→B9v R
def Bda (Aee:Avc) (Agu:Aq2):Amx:=fun {R} N c d e a f b=>if ((decide ((len f) > 32000))=true) then (b 2) else if ((decide ((len a) > 200))=true) then (b 2) else Aee N N 0 c d e a f c d e (len a) 0 ([]:List (Int×Int×Int)) fun g h i j l m=>Agu N g h m i j l fun n=>b n
def Aeo:Amx:=@Bda @Aee @Agu
def Cq6 (N:Nat):Abn Bc9 [Ayd]:=fun R x C=>Aeo N x.1.1.1 x.1.1.2.1 x.1.1.2.2.1 x.1.1.2.2.2.1 x.1.1.2.2.2.2.1 (fun y0=>C.1 ((y0,()),(())))
def Awm (Aeo:Amx) (N:Nat):Go.AX.Aaj:=Acr [true] [] false 1 0 Bc9 [Ayd] (fun R x C=>Aeo N x.1.1.1 x.1.1.2.1 x.1.1.2.2.1 x.1.1.2.2.2.1 x.1.1.2.2.2.2.1 (fun y0=>C.1 ((y0,()),(()))))
def Bpa (N:Nat):Go.AX.Aaj:=Awm @Aeo N
def Cq7 (N:Nat):List (Nat×Acp):=[(11,Aaa Aix (A3z N N))]
def B9w (N:Nat):List (Nat×Go.AX.Aaj):=[(67,Bo9 N)]
def Ag1:Code:=Tryz.f58.body.getD .skip
def Afk:Code:=Tryz.f102.body.getD .skip
def B1l:Code:=Tryz.f61.body.getD .skip
def Bn6:Aac:=⟨Ciw,[]⟩
def A63:Aac:=⟨Ah6,[]⟩
abbrev Cjd (R:Type):=Int->Int->Int->(Bool->Option R)->Option R
abbrev Ad3:={R:Type}→Nat→Cjd R
def Aat:Ad3:=fun {R} N a c d b=>if ((decide (a≥c))=true) then (b (decide (a≤d))) else b false
def Cje (N:Nat):Abn Bn6 [A63]:=fun R x C=>Aat N x.1.1 x.1.2.1 x.1.2.2.1 (fun y0=>C.1 ((y0,()),(())))
def Aic (Aat:Ad3) (N:Nat):Go.AX.Aaj:=Acr [true,true,true] [] false 3 0 Bn6 [A63] (fun R x C=>Aat N x.1.1 x.1.2.1 x.1.2.2.1 (fun y0=>C.1 ((y0,()),(()))))
def A64 (N:Nat):Go.AX.Aaj:=Aic @Aat N
def Cjf (N:Nat):List (Nat×Acp):=[]
def B1m (N:Nat):List (Nat×Go.AX.Aaj):=[]
def Agv:Aac:=⟨[A5e,wq6,Cin,(28,.one (.val .bool))],A19⟩
def Avy:Aac:=⟨Brf,[]⟩
def Avz:Aac:=⟨Bbm,[]⟩
def Bay:Ac4:=.cons .ret Avy (.cons .normal Avz (.nil))
abbrev Br0 (R:Type):=Int->Int->Bool->(List UInt8)->d3->d1->d2->d4->(Bool->Option R)->(Int->Option R)->Option R
abbrev Ahs:={R:Type}→Nat→Br0 R
def Az2 (Aat:Ad3):Ahs:=fun {R} N a c d l e m f n b g=>if (d=true) then (Aat N a 0 (wi ((len e)-1)) fun h=>b h) else if ((c==7)=true) then (Aat N a 1 (len f) fun i=>b i) else if ((c==8)=true) then (Aat N a 0 4000 fun j=>b j) else g a
def Aby:Ahs:=@Az2 @Aat
def Al4 (Aby:Ahs) (N:Nat):Aas Agv:=fun R x K=>Aby N x.1.1 x.1.2.2.1 x.1.2.2.2.1 x.2.1.1 x.2.1.2.1 x.2.1.2.2.1 x.2.1.2.2.2.1 x.2.1.2.2.2.2.1 (fun y0=>K .ret (Aab Avy ((y0,()),(())))) (fun y0=>K .normal (Aab Avz ((y0,()),(()))))
def Baz (N:Nat):Aas Agv:=Al4 @Aby N
def Agw:Aac:=⟨[A5e,wq6,Cin,(23,.one (.val .bool))],A19⟩
def Av0:Aac:=⟨Brf,[]⟩
def Av1:Aac:=⟨Bbm,[]⟩
def Ba0:Ac4:=.cons .ret Av0 (.cons .normal Av1 (.nil))
abbrev Br1 (R:Type):=Int->Int->Bool->(List UInt8)->d3->d1->d2->d4->(Bool->Option R)->(Int->Option R)->Option R
abbrev Aht:={R:Type}→Nat→Br1 R
def Az3 (Aat:Ad3) (Aby:Ahs):Aht:=fun {R} N b a j d e f g h c i=>if (j=true) then (Aat N b 0 199 fun l=>c l) else if ((a==3)=true) then (Aby N b a (a==3) d e f g h (fun m=>c m) fun n=>i n) else Aby N b a (a==6) d e f g h (fun o=>c o) fun p=>i p
def Abz:Aht:=@Az3 @Aat @Aby
def Al5 (Abz:Aht) (N:Nat):Aas Agw:=fun R x K=>Abz N x.1.1 x.1.2.2.1 x.1.2.2.2.1 x.2.1.1 x.2.1.2.1 x.2.1.2.2.1 x.2.1.2.2.2.1 x.2.1.2.2.2.2.1 (fun y0=>K .ret (Aab Av0 ((y0,()),(())))) (fun y0=>K .normal (Aab Av1 ((y0,()),(()))))
def Ba1 (N:Nat):Aas Agw:=Al5 @Abz N
def Agx:Aac:=⟨[A5e,wq6,Cin,(18,.one (.val .bool))],A19⟩
def Av2:Aac:=⟨Brf,[]⟩
def Av3:Aac:=⟨Bbm,[]⟩
def Ba2:Ac4:=.cons .ret Av2 (.cons .normal Av3 (.nil))
abbrev Br2 (R:Type):=Int->Int->Bool->(List UInt8)->d3->d1->d2->d4->(Bool->Option R)->(Int->Option R)->Option R
abbrev Ahu:={R:Type}→Nat→Br2 R
def Az4 (Aat:Ad3) (Abz:Aht):Ahu:=fun {R} N b a j d e f g h c i=>if (j=true) then (Aat N b 0 4000 fun l=>c l) else if ((a==2)=true) then (Abz N b a (a==2) d e f g h (fun m=>c m) fun n=>i n) else Abz N b a (a==5) d e f g h (fun o=>c o) fun p=>i p
def Ab0:Ahu:=@Az4 @Aat @Abz
def Al6 (Ab0:Ahu) (N:Nat):Aas Agx:=fun R x K=>Ab0 N x.1.1 x.1.2.2.1 x.1.2.2.2.1 x.2.1.1 x.2.1.2.1 x.2.1.2.2.1 x.2.1.2.2.2.1 x.2.1.2.2.2.2.1 (fun y0=>K .ret (Aab Av2 ((y0,()),(())))) (fun y0=>K .normal (Aab Av3 ((y0,()),(()))))
def Ba3 (N:Nat):Aas Agx:=Al6 @Ab0 N
def Agy:Aac:=⟨Bbm,[]⟩
def Av4:Aac:=⟨Brf,[]⟩
def Ba4:Ac4:=.cons .ret Av4 (.nil)
abbrev Br3 (R:Type):=Int->(Bool->Option R)->Option R
abbrev Ahv:={R:Type}→Nat→Br3 R
def Az5 (Aat:Ad3):Ahv:=fun {R} N a b=>Aat N a 0 199 fun c=>b c
def Ab1:Ahv:=@Az5 @Aat
def Al7 (Ab1:Ahv) (N:Nat):Aas Agy:=fun R x K=>Ab1 N x.1.1 (fun y0=>K .ret (Aab Av4 ((y0,()),(()))))
def Ba5 (N:Nat):Aas Agy:=Al7 @Ab1 N
def A65:Aac:=⟨[B36,Ama,A5e,A1a],[]⟩
def Ato:Aac:=⟨Ah6,[]⟩
abbrev B1n (R:Type):=(List UInt8)->d3->d1->d2->d4->Int->Int->Int->(Bool->Option R)->Option R
abbrev Aim:={R:Type}→Nat→B1n R
def A66 (Aat:Ad3) (Ab0:Ahu) (Ab1:Ahv):Aim:=fun {R} N d e f g h a c i b=>Aat N a 0 i fun j=>if ((!j)=true) then (b false) else if ((a==0)=true) then (Aat N c (-2147483648) 2147483647 fun l=>b l) else if ((a==1)=true) then (Ab0 N c a (a==1) d e f g h (fun m=>b m) fun n=>Ab1 N n fun o=>b o) else Ab0 N c a (a==4) d e f g h (fun p=>b p) fun q=>Ab1 N q fun r=>b r
def Abx:Aim:=@A66 @Aat @Ab0 @Ab1
def Coh (N:Nat):Abn A65 [Ato]:=fun R x C=>Abx N x.1.1.1 x.1.1.2.1 x.1.1.2.2.1 x.1.1.2.2.2.1 x.1.1.2.2.2.2.1 x.1.2.1 x.1.2.2.1 x.1.2.2.2.1 (fun y0=>C.1 ((y0,()),(())))
def Aok (Abx:Aim) (N:Nat):Go.AX.Aaj:=Acr [true,true,true,true] [] false 4 0 A65 [Ato] (fun R x C=>Abx N x.1.1.1 x.1.1.2.1 x.1.1.2.2.1 x.1.1.2.2.2.1 x.1.1.2.2.2.2.1 x.1.2.1 x.1.2.2.1 x.1.2.2.2.1 (fun y0=>C.1 ((y0,()),(()))))
def Bjk (N:Nat):Go.AX.Aaj:=Aok @Abx N
def Coi (N:Nat):List (Nat×Acp):=[(28,Aaa Agv (Baz N)),(22,Aaa Agw (Ba1 N)),(16,Aaa Agx (Ba3 N)),(38,Aaa Agy (Ba5 N))]
def B1o (N:Nat):List (Nat×Go.AX.Aaj):=[(61,A64 N)]
def Bpb:Code:=Tryz.f60.body.getD .skip
def Bdb:Aac:=⟨[B36,Ama],[]⟩
def Aye:Aac:=⟨Ah6,[]⟩
abbrev B9x (R:Type):=(List UInt8)->d3->d1->d2->d4->Int->(Bool->Option R)->Option R
abbrev Ag2:={R:Type}→Nat→B9x R
def Bdc (Aat:Ad3):Ag2:=fun {R} N e f g h b a c=>Aat N a 0 (wi ((len b)-1)) fun d=>if (d=true) then (if (0≤a∧a<len b) then (c ((b.getD a.toNat (0,(0,(0,(0,0))))).1 != 15)) else none) else c false
def Abc:Ag2:=@Bdc @Aat
def Cq8 (N:Nat):Abn Bdb [Aye]:=fun R x C=>Abc N x.1.1.1 x.1.1.2.1 x.1.1.2.2.1 x.1.1.2.2.2.1 x.1.1.2.2.2.2.1 x.1.2.1 (fun y0=>C.1 ((y0,()),(())))
def Akq (Abc:Ag2) (N:Nat):Go.AX.Aaj:=Acr [true,true] [] false 2 0 Bdb [Aye] (fun R x C=>Abc N x.1.1.1 x.1.1.2.1 x.1.1.2.2.1 x.1.1.2.2.2.1 x.1.1.2.2.2.2.1 x.1.2.1 (fun y0=>C.1 ((y0,()),(()))))
def Bdd (N:Nat):Go.AX.Aaj:=Akq @Abc N
def Cq9 (N:Nat):List (Nat×Acp):=[]
def B9y (N:Nat):List (Nat×Go.AX.Aaj):=[(61,A64 N)]
def Ahz:Aac:=⟨[A2w,Bkh,Cnd,(62,.one (.val .bool))],Bil⟩
def Az6:Aac:=⟨A79,[]⟩
def Az7:Aac:=⟨Cir,Bil⟩
def Bhd:Ac4:=.cons .ret Az6 (.cons .normal Az7 (.nil))
abbrev Bxc (R:Type):=Int->Bool->(List UInt8)->d3->d1->d2->d4->Int->Int->Int->Int->Int->(Bool->Option R)->((List UInt8)->d3->d1->d2->d4->Int->Int->Int->Int->Int->Option R)->Option R
abbrev Ai4:={R:Type}→Nat→Bxc R
def A4i (Abc:Ag2) (Aat:Ad3):Ai4:=fun {R} N i l d e f g h m b c j n a o=>if (l=true) then (if ((b==0)=true) then (Abc N d e f g h c fun p=>a p) else a false) else if ((i==12)=true) then (if ((b==0)=true) then (Aat N c 0 4000 fun q=>a q) else a false) else if ((i==14)=true) then (if ((b==0)=true) then (Aat N c 0 1000 fun r=>if (r=true) then (Abc N d e f g h j fun s=>a s) else a false) else a false) else if ((i==15)=true) then (if ((b==0)=true) then (Aat N c (-2147483648) 2147483647 fun t=>if (t=true) then (Abc N d e f g h j fun u=>a u) else a false) else a false) else o d e f g h m b c j n
def Acn:Ai4:=@A4i @Abc @Aat
def Ans (Acn:Ai4) (N:Nat):Aas Ahz:=fun R x K=>Acn N x.1.2.2.1 x.1.2.2.2.1 x.2.1.1 x.2.1.2.1 x.2.1.2.2.1 x.2.1.2.2.2.1 x.2.1.2.2.2.2.1 x.2.2.1.1 x.2.2.1.2.1 x.2.2.1.2.2.1 x.2.2.1.2.2.2.1 x.2.2.1.2.2.2.2.1 (fun y0=>K .ret (Aab Az6 ((y0,()),(())))) (fun y0 y1 y2 y3 y4 y5 y6 y7 y8 y9=>K .normal (Aab Az7 (((),(),()),((y0,y1,y2,y3,y4,()),(y5,y6,y7,y8,y9,()),()))))
def Bhe (N:Nat):Aas Ahz:=Ans @Acn N
def Ah0:Aac:=⟨[A2w,Bkh,Cnd,(49,.one (.val .bool))],Bil⟩
def Az8:Aac:=⟨A79,[]⟩
def Az9:Aac:=⟨Cir,Bil⟩
def Bhf:Ac4:=.cons .ret Az8 (.cons .normal Az9 (.nil))
abbrev Bxd (R:Type):=Int->Bool->(List UInt8)->d3->d1->d2->d4->Int->Int->Int->Int->Int->(Bool->Option R)->((List UInt8)->d3->d1->d2->d4->Int->Int->Int->Int->Int->Option R)->Option R
abbrev Ai5:={R:Type}→Nat→Bxd R
def A4j (Acn:Ai4):Ai5:=fun {R} N a o e f g h i j c d l m b n=>if (o=true) then (if ((c==0)=true) then (b (d==0)) else b false) else if ((a==9)=true) then (Acn N a (a==9) e f g h i j c d l m (fun p=>b p) fun q r s t u v w x y z=>n q r s t u v w x y z) else if ((a==10)=true) then (Acn N a (a==10) e f g h i j c d l m (fun A=>b A) fun B C D E F G H I J L=>n B C D E F G H I J L) else Acn N a (a==11) e f g h i j c d l m (fun M=>b M) fun O P Q S T U V W X Y=>n O P Q S T U V W X Y
def Ach:Ai5:=@A4j @Acn
def Ant (Ach:Ai5) (N:Nat):Aas Ah0:=fun R x K=>Ach N x.1.2.2.1 x.1.2.2.2.1 x.2.1.1 x.2.1.2.1 x.2.1.2.2.1 x.2.1.2.2.2.1 x.2.1.2.2.2.2.1 x.2.2.1.1 x.2.2.1.2.1 x.2.2.1.2.2.1 x.2.2.1.2.2.2.1 x.2.2.1.2.2.2.2.1 (fun y0=>K .ret (Aab Az8 ((y0,()),(())))) (fun y0 y1 y2 y3 y4 y5 y6 y7 y8 y9=>K .normal (Aab Az9 (((),(),()),((y0,y1,y2,y3,y4,()),(y5,y6,y7,y8,y9,()),()))))
def Bhg (N:Nat):Aas Ah0:=Ant @Ach N
def Ah1:Aac:=⟨[A2w,Bkh,Cnd,(25,.one (.val .bool))],Bil⟩
def A0a:Aac:=⟨A79,[]⟩
def A0b:Aac:=⟨Cir,Bil⟩
def Bhh:Ac4:=.cons .ret A0a (.cons .normal A0b (.nil))
abbrev Bxe (R:Type):=Int->Bool->(List UInt8)->d3->d1->d2->d4->Int->Int->Int->Int->Int->(Bool->Option R)->((List UInt8)->d3->d1->d2->d4->Int->Int->Int->Int->Int->Option R)->Option R
abbrev Ai6:={R:Type}→Nat→Bxe R
def A4k (Abx:Aim) (Aat:Ad3) (Ach:Ai5):Ai6:=fun {R} N a o d e f g h j b i l m c n=>if (o=true) then (Abx N d e f g h b i 7 fun p=>c p) else if ((a==2)=true) then (Aat N b 1 3 fun q=>if (q=true) then (Abx N d e f g h b i 7 fun r=>c r) else c false) else if ((a==3)=true) then (Ach N a (a==3) d e f g h j b i l m (fun s=>c s) fun t u v w x y z A B C=>n t u v w x y z A B C) else if ((a==4)=true) then (Ach N a (a==4) d e f g h j b i l m (fun D=>c D) fun E F G H I J L M O P=>n E F G H I J L M O P) else if ((a==5)=true) then (Ach N a (a==5) d e f g h j b i l m (fun Q=>c Q) fun S T U V W X Y Z aa ab=>n S T U V W X Y Z aa ab) else Ach N a (a==13) d e f g h j b i l m (fun ac=>c ac) fun ad ae af ag ah ai aj ak al am=>n ad ae af ag ah ai aj ak al am
def Aba:Ai6:=@A4k @Abx @Aat @Ach
def Anu (Aba:Ai6) (N:Nat):Aas Ah1:=fun R x K=>Aba N x.1.2.2.1 x.1.2.2.2.1 x.2.1.1 x.2.1.2.1 x.2.1.2.2.1 x.2.1.2.2.2.1 x.2.1.2.2.2.2.1 x.2.2.1.1 x.2.2.1.2.1 x.2.2.1.2.2.1 x.2.2.1.2.2.2.1 x.2.2.1.2.2.2.2.1 (fun y0=>K .ret (Aab A0a ((y0,()),(())))) (fun y0 y1 y2 y3 y4 y5 y6 y7 y8 y9=>K .normal (Aab A0b (((),(),()),((y0,y1,y2,y3,y4,()),(y5,y6,y7,y8,y9,()),()))))
def Bhi (N:Nat):Aas Ah1:=Anu @Aba N
def Ah2:Aac:=⟨Cir,Bil⟩
def A0c:Aac:=⟨A79,[]⟩
def Bhj:Ac4:=.cons .ret A0c (.nil)
abbrev Bxf (R:Type):=(List UInt8)->d3->d1->d2->d4->Int->Int->Int->Int->Int->(Bool->Option R)->Option R
abbrev Ai7:={R:Type}→Nat→Bxf R
def A4l (Aat:Ad3) (Abx:Aim):Ai7:=fun {R} N e f g h i b c d m n a=>if ((b==38)=true) then (if ((c==0)=true) then (a (d==0)) else a false) else if ((b==39)=true) then (if ((c==0)=true) then (a (d==0)) else a false) else Aat N b 21 37 fun j=>if (j=true) then (Abx N e f g h i c d 7 fun l=>a l) else a false
def Abb:Ai7:=@A4l @Aat @Abx
def Anv (Abb:Ai7) (N:Nat):Aas Ah2:=fun R x K=>Abb N x.2.1.1 x.2.1.2.1 x.2.1.2.2.1 x.2.1.2.2.2.1 x.2.1.2.2.2.2.1 x.2.2.1.1 x.2.2.1.2.1 x.2.2.1.2.2.1 x.2.2.1.2.2.2.1 x.2.2.1.2.2.2.2.1 (fun y0=>K .ret (Aab A0c ((y0,()),(()))))
def Bhk (N:Nat):Aas Ah2:=Anv @Abb N
def Bde:Aac:=⟨[B36,(1,.agg Cbq)],[]⟩
def Ayf:Aac:=⟨Ah6,[]⟩
abbrev B9z (R:Type):=(List UInt8)->d3->d1->d2->d4->Int->Int->Int->Int->Int->(Bool->Option R)->Option R
abbrev Amy:={R:Type}→Nat→B9z R
def Bdf (Aba:Ai6) (Abb:Ai7):Amy:=fun {R} N e f g h i a j l c d b=>if ((d != 0)=true) then (b false) else if ((c != 0)=true) then (if ((a != 14)=true) then (if ((a != 15)=true) then (b false) else if ((a==1)=true) then (Aba N a (a==1) e f g h i a j l c d (fun m=>b m) fun n o p q r s t u v w=>Abb N n o p q r s t u v w fun x=>b x) else if ((a==6)=true) then (Aba N a (a==6) e f g h i a j l c d (fun y=>b y) fun z A B C D E F G H I=>Abb N z A B C D E F G H I fun J=>b J) else if ((a==7)=true) then (Aba N a (a==7) e f g h i a j l c d (fun L=>b L) fun M O P Q S T U V W X=>Abb N M O P Q S T U V W X fun Y=>b Y) else Aba N a (a==8) e f g h i a j l c d (fun Z=>b Z) fun aa ab ac ad ae af ag ah ai aj=>Abb N aa ab ac ad ae af ag ah ai aj fun ak=>b ak) else if ((a==1)=true) then (Aba N a (a==1) e f g h i a j l c d (fun al=>b al) fun am an ao ap aq ar au av aw ax=>Abb N am an ao ap aq ar au av aw ax fun ay=>b ay) else if ((a==6)=true) then (Aba N a (a==6) e f g h i a j l c d (fun az=>b az) fun ba bb bc bd be bf bg bh bi bj=>Abb N ba bb bc bd be bf bg bh bi bj fun bk=>b bk) else if ((a==7)=true) then (Aba N a (a==7) e f g h i a j l c d (fun bl=>b bl) fun bm bn bo bp bq br bs bt bu bv=>Abb N bm bn bo bp bq br bs bt bu bv fun bw=>b bw) else Aba N a (a==8) e f g h i a j l c d (fun bx=>b bx) fun bz ca cb cc cd ce cf cg ch ci=>Abb N bz ca cb cc cd ce cf cg ch ci fun cj=>b cj) else if ((a==1)=true) then (Aba N a (a==1) e f g h i a j l c d (fun ck=>b ck) fun cl cm cn co cp cq cr cs ct cu=>Abb N cl cm cn co cp cq cr cs ct cu fun cv=>b cv) else if ((a==6)=true) then (Aba N a (a==6) e f g h i a j l c d (fun cw=>b cw) fun cx cy cz da db dc dd de df dg=>Abb N cx cy cz da db dc dd de df dg fun dh=>b dh) else if ((a==7)=true) then (Aba N a (a==7) e f g h i a j l c d (fun di=>b di) fun dj dk dl dm dn dp dq dr ds dt=>Abb N dj dk dl dm dn dp dq dr ds dt fun du=>b du) else Aba N a (a==8) e f g h i a j l c d (fun dv=>b dv) fun dw dx dy dz ea eb ec ed ee ef=>Abb N dw dx dy dz ea eb ec ed ee ef fun eg=>b eg
def Aep:Amy:=@Bdf @Aba @Abb
def Cra (N:Nat):Abn Bde [Ayf]:=fun R x C=>Aep N x.1.1.1 x.1.1.2.1 x.1.1.2.2.1 x.1.1.2.2.2.1 x.1.1.2.2.2.2.1 x.1.2.1.1 x.1.2.1.2.1 x.1.2.1.2.2.1 x.1.2.1.2.2.2.1 x.1.2.1.2.2.2.2.1 (fun y0=>C.1 ((y0,()),(())))
def Awn (Aep:Amy) (N:Nat):Go.AX.Aaj:=Acr [true,true] [] false 2 0 Bde [Ayf] (fun R x C=>Aep N x.1.1.1 x.1.1.2.1 x.1.1.2.2.1 x.1.1.2.2.2.1 x.1.1.2.2.2.2.1 x.1.2.1.1 x.1.2.1.2.1 x.1.2.1.2.2.1 x.1.2.1.2.2.2.1 x.1.2.1.2.2.2.2.1 (fun y0=>C.1 ((y0,()),(()))))
def Bpc (N:Nat):Go.AX.Aaj:=Awn @Aep N
def Crb (N:Nat):List (Nat×Acp):=[(38,Aaa Ahz (Bhe N)),(30,Aaa Ah0 (Bhg N)),(16,Aaa Ah1 (Bhi N)),(52,Aaa Ah2 (Bhk N))]
def B90 (N:Nat):List (Nat×Go.AX.Aaj):=[(102,Bjk N),(61,A64 N),(60,Bdd N)]
def Bmn:Code:=Tryz.f59.body.getD .skip
def A9d:Aac:=⟨A1c,[]⟩
def Av5:Aac:=⟨Ah6,[]⟩
abbrev B46 (R:Type):=Int->(Bool->Option R)->Option R
abbrev Al8:={R:Type}→Nat→B46 R
def Ac8:Al8:=fun {R} N a b=>if ((a != 9)=true) then (if ((a != 13)=true) then (if ((a != 14)=true) then (b (a != 15)) else b false) else b false) else b false
def B47 (N:Nat):Abn A9d [Av5]:=fun R x C=>Ac8 N x.1.1 (fun y0=>C.1 ((y0,()),(())))
def Aua (Ac8:Al8) (N:Nat):Go.AX.Aaj:=Acr [true] [] false 1 0 A9d [Av5] (fun R x C=>Ac8 N x.1.1 (fun y0=>C.1 ((y0,()),(()))))
def Bmo (N:Nat):Go.AX.Aaj:=Aua @Ac8 N
def B48 (N:Nat):List (Nat×Acp):=[]
def Bmp (N:Nat):List (Nat×Go.AX.Aaj):=[]
def Ai8:Aac:=⟨[wq4,A1b,Bbl,wq8],Bil⟩
def A0d:Aac:=⟨[wq4,A1b,Bbl],A19⟩
def Bhl:Ac4:=.cons .normal A0d (.nil)
abbrev Bxg (R:Type):=Int->Int->(List UInt8)->d3->d1->d2->d4->Int->Int->Int->Int->Int->(Int->Int->(List UInt8)->d3->d1->d2->d4->Option R)->Option R
abbrev Alt:={R:Type}→Nat→Bxg R
def Aci:Alt:=fun {R} N h a b c d e f i l j m n g=>if ((i==14)=true) then (g j a b c d e f) else g h a b c d e f
def Aqe (Aci:Alt) (N:Nat):Aas Ai8:=fun R x K=>Aci N x.1.2.1 x.1.2.2.1 x.2.1.1 x.2.1.2.1 x.2.1.2.2.1 x.2.1.2.2.2.1 x.2.1.2.2.2.2.1 x.2.2.1.1 x.2.2.1.2.1 x.2.2.1.2.2.1 x.2.2.1.2.2.2.1 x.2.2.1.2.2.2.2.1 (fun y0 y1 y2 y3 y4 y5 y6=>K .normal (Aab A0d (((),y0,y1,()),((y2,y3,y4,y5,y6,()),()))))
def Bhm (N:Nat):Aas Ai8:=Aqe @Aci N
def Ag8:Aac:=⟨[wq4,A1b,Bbl],A19⟩
def Asf:Aac:=⟨Bbm,[]⟩
def Asg:Aac:=⟨[wq4,A1b],A19⟩
def Bhn:Ac4:=.cons .ret Asf (.cons (.exit 0) Asg (.nil))
abbrev A4m (R:Type):=Int->Int->(List UInt8)->d3->d1->d2->d4->(Int->Option R)->(Int->(List UInt8)->d3->d1->d2->d4->Option R)->Option R
abbrev Bho (R:Type):=Int->Int->(List UInt8)->d3->d1->d2->d4->Option R
abbrev Anw:={R:Type}→Nat→Nat→A4m R
def Av6 (Aep:Amy) (Ac8:Al8) (Aci:Alt) {R:Type} (N:Nat) (rc:Bho R):A4m R:=fun c b e f g h a n o=>if ((decide (b<(len a)))=true) then (if (0≤b∧b<len a) then (let d:=(a.getD b.toNat (0,(0,(0,(0,0))))).1;let i:=(a.getD b.toNat (0,(0,(0,(0,0))))).2.1;let j:=(a.getD b.toNat (0,(0,(0,(0,0))))).2.2.1;let l:=(a.getD b.toNat (0,(0,(0,(0,0))))).2.2.2.1;let m:=(a.getD b.toNat (0,(0,(0,(0,0))))).2.2.2.2;Aep N e f g h a d i j l m fun p=>if ((!p)=true) then (n 60) else if ((!((decide (c > 0))==(d==15)))=true) then (n 60) else if (((wi (b+1))==(len a))=true) then (Ac8 N d fun q=>if (q=true) then (n 60) else if ((decide (c > 0))=true) then (Aci N (wi (c-1)) b e f g h a d i j l m fun r s t u v w x=>rc r (wi (s+1)) t u v w x) else Aci N c b e f g h a d i j l m fun y z A B C D E=>rc y (wi (z+1)) A B C D E) else if ((decide (c > 0))=true) then (Aci N (wi (c-1)) b e f g h a d i j l m fun F G H I J L M=>rc F (wi (G+1)) H I J L M) else Aci N c b e f g h a d i j l m fun O P Q S T U V=>rc O (wi (P+1)) Q S T U V) else none) else o c e f g h a
def Acy {R:Type} (N:Nat):Nat→A4m R
 | 0=>fun _ _ _ _ _ _ _ _ _=>none
 | k+1=>fun a b c d e f g h i=>Av6 @Aep @Ac8 @Aci N (fun a b c d e f g=>Acy N k a b c d e f g h i) a b c d e f g h i
def Aqf (Acy:Anw) (N k:Nat):Aas Ag8:=fun R x K=>Acy N k x.1.2.1 x.1.2.2.1 x.2.1.1 x.2.1.2.1 x.2.1.2.2.1 x.2.1.2.2.2.1 x.2.1.2.2.2.2.1 (fun y0=>K .ret (Aab Asf ((y0,()),(())))) (fun y0 y1 y2 y3 y4 y5=>K (.exit 0) (Aab Asg (((),y0,()),((y1,y2,y3,y4,y5,()),()))))
def A4n (N k:Nat):Aas Ag8:=Aqf @Acy N k
def Ag9:Aac:=⟨[wq4,Bn1],A19⟩
def Ash:Aac:=⟨Bbm,[]⟩
def Asi:Aac:=⟨[],[]⟩
def Bhp:Ac4:=.cons .ret Ash (.cons (.exit 2) Asi (.nil))
abbrev A4o (R:Type):=Int->(List UInt8)->d3->d1->d2->d4->(Int->Option R)->(Option R)->Option R
abbrev Bhq (R:Type):=Int->(List UInt8)->d3->d1->d2->d4->Option R
abbrev Anx:={R:Type}→Nat→Nat→A4o R
def A4p (Abc:Ag2) (Aat:Ad3) (Ac8:Al8) {R:Type} (N:Nat) (rc:Bhq R):A4o R:=fun a e f g b c d j=>if ((decide (a<(len b)))=true) then (if (0≤a∧a<len b) then (let h:=(b.getD a.toNat (0,(0,0))).1;Abc N e f g b c h fun l=>if ((!l)=true) then (d 60) else Aat N ((b.getD a.toNat (0,(0,0))).2.1) 0 8 fun m=>if ((!m)=true) then (d 60) else Aat N ((b.getD a.toNat (0,(0,0))).2.2) 2 4001 fun n=>if ((!n)=true) then (d 60) else if ((decide (h > 0))=true) then (let i:=(wi (h-1));if (0≤i∧i<len c) then (Ac8 N ((c.getD i.toNat (0,(0,(0,(0,0))))).1) fun o=>if (o=true) then (d 60) else rc (wi (a+1)) e f g b c) else none) else rc (wi (a+1)) e f g b c) else none) else j
def Acz {R:Type} (N:Nat):Nat→A4o R
 | 0=>fun _ _ _ _ _ _ _ _=>none
 | k+1=>fun a b c d e f g h=>A4p @Abc @Aat @Ac8 N (fun a b c d e f=>Acz N k a b c d e f g h) a b c d e f g h
def Aqg (Acz:Anx) (N k:Nat):Aas Ag9:=fun R x K=>Acz N k x.1.2.1 x.2.1.1 x.2.1.2.1 x.2.1.2.2.1 x.2.1.2.2.2.1 x.2.1.2.2.2.2.1 (fun y0=>K .ret (Aab Ash ((y0,()),(())))) (K (.exit 2) (Aab Asi ((()),(()))))
def A4q (N k:Nat):Aas Ag9:=Aqg @Acz N k
def Bdg:Aac:=⟨Bn2,[]⟩
def Ayg:Aac:=⟨A1c,[]⟩
abbrev B91 (R:Type):=(List UInt8)->d3->d1->d2->d4->(Int->Option R)->Option R
abbrev Amz:={R:Type}→Nat→B91 R
def Bdh (Aeo:Amx) (Acy:Anw) (Acz:Anx):Amz:=fun {R} N b c d e f a=>Aeo N b c d e f fun g=>if ((g != 0)=true) then (a g) else Acy N N 0 0 b c d e f (fun h=>a h) fun i j l m n o=>if ((decide (i > 0))=true) then (a 60) else Acz N N 0 j l m n o (fun p=>a p) (a 0)
def Aeq:Amz:=@Bdh @Aeo @Acy @Acz
def Crc (N:Nat):Abn Bdg [Ayg]:=fun R x C=>Aeq N x.1.1.1 x.1.1.2.1 x.1.1.2.2.1 x.1.1.2.2.2.1 x.1.1.2.2.2.2.1 (fun y0=>C.1 ((y0,()),(())))
def Awo (Aeq:Amz) (N:Nat):Go.AX.Aaj:=Acr [true] [] false 1 0 Bdg [Ayg] (fun R x C=>Aeq N x.1.1.1 x.1.1.2.1 x.1.1.2.2.1 x.1.1.2.2.2.1 x.1.1.2.2.2.2.1 (fun y0=>C.1 ((y0,()),(()))))
def Bpd (N:Nat):Go.AX.Aaj:=Awo @Aeq N
def Crd (N:Nat):List (Nat×Acp):=[(26,Aaa Ai8 (Bhm N)),(13,Aaa Ag8 (A4n N N)),(37,Aaa Ag9 (A4q N N))]
def B92 (N:Nat):List (Nat×Go.AX.Aaj):=[(34,Bpa N),(58,Bpc N),(59,Bmo N),(60,Bdd N),(61,A64 N)]
def Aol (N:Nat):Go.AX.Aaj:=A74
def Ajz:Aac:=⟨Ci2,Ci3⟩
def A1r:Aac:=⟨Ci2,Ci3⟩
def Bjl:Ac4:=.cons .normal A1r (.nil)
abbrev B1p (R:Type):=Int->Int->(List UInt8)->d3->d1->d2->d4->d0->d0->(Int->Int->(List UInt8)->d3->d1->d2->d4->d0->d0->Option R)->Option R
abbrev Amn:={R:Type}→Nat→B1p R
def Adi:Amn:=fun {R} N f a g h i j l e c m=>if (0≤a∧a<len c) then (let d:=(c.getD a.toNat 0);if ((Ajf d)=true) then (if ((((List.length e)+(List.length (List.map (fun b:UInt8=>(((UInt8.toNat b):Nat):Int)) (Axa d))))*(1:Nat))≤(70368744177664:Nat)) then (m f a g h i j l (e++(List.map (fun b:UInt8=>(((UInt8.toNat b):Nat):Int)) (Axa d))) c) else none) else none) else none
def Asj (Adi:Amn) (N:Nat):Aas Ajz:=fun R x K=>Adi N x.1.2.2.1 x.1.2.2.2.2.1 x.2.1.1 x.2.1.2.1 x.2.1.2.2.1 x.2.1.2.2.2.1 x.2.1.2.2.2.2.1 x.2.2.1 x.2.2.2.1 (fun y0 y1 y2 y3 y4 y5 y6 y7 y8=>K .normal (Aab A1r (((),(),y0,(),y1,()),((y2,y3,y4,y5,y6,()),y7,y8,()))))
def Bjm (N:Nat):Aas Ajz:=Asj @Adi N
def Ahw:Aac:=⟨Ci2,Ci3⟩
def Atp:Aac:=⟨[wq4,Cm2,A2x],[A9t,Cil]⟩
def Bjn:Ac4:=.cons (.exit 2) Atp (.nil)
abbrev A67 (R:Type):=Int->Int->(List UInt8)->d3->d1->d2->d4->d0->d0->(Int->(List UInt8)->d3->d1->d2->d4->d0->Option R)->Option R
abbrev Bjo (R:Type):=Int->Int->(List UInt8)->d3->d1->d2->d4->d0->d0->Option R
abbrev Aom:={R:Type}→Nat→Nat→A67 R
def Ask (Adi:Amn) {R:Type} (N:Nat) (rc:Bjo R):A67 R:=fun c a d e f g h b i j=>if ((decide (a<(len i)))=true) then (if ((decide (a > 0))=true) then (if ((((List.length b)+(1:Nat))*(1:Nat))≤(70368744177664:Nat)) then (Adi N c a d e f g h (b++[32]) i fun l m n o p q r s t=>rc l (wi (m+1)) n o p q r s t) else none) else Adi N c a d e f g h b i fun u v w x y z A B C=>rc u (wi (v+1)) w x y z A B C) else j c d e f g h b
def Acj {R:Type} (N:Nat):Nat→A67 R
 | 0=>fun _ _ _ _ _ _ _ _ _ _=>none
 | k+1=>fun a b c d e f g h i j=>Ask @Adi N (fun a b c d e f g h i=>Acj N k a b c d e f g h i j) a b c d e f g h i j
def Asl (Acj:Aom) (N k:Nat):Aas Ahw:=fun R x K=>Acj N k x.1.2.2.1 x.1.2.2.2.2.1 x.2.1.1 x.2.1.2.1 x.2.1.2.2.1 x.2.1.2.2.2.1 x.2.1.2.2.2.2.1 x.2.2.1 x.2.2.2.1 (fun y0 y1 y2 y3 y4 y5 y6=>K (.exit 2) (Aab Atp (((),(),y0,()),((y1,y2,y3,y4,y5,()),y6,()))))
def A68 (N k:Nat):Aas Ahw:=Asl @Acj N k
def Ahx:Aac:=⟨[wq4,Cm2,A2x],[A9t,Cil]⟩
def Atq:Aac:=⟨[(5,.one (.slf 32))],[(32,.row 5 (.int .u8))]⟩
def Bjp:Ac4:=.cons (.exit 0) Atq (.nil)
abbrev A69 (R:Type):=Int->(List UInt8)->d3->d1->d2->d4->d0->(d0->Option R)->Option R
abbrev Bjq (R:Type):=Int->(List UInt8)->d3->d1->d2->d4->d0->Option R
abbrev Aon:={R:Type}→Nat→Nat→A69 R
def Ayh (Acj:Aom) {R:Type} (N:Nat) (rc:Bjq R):A69 R:=fun a e f g h b c i=>if ((decide (a<(len b)))=true) then (if (0≤a∧a<len b) then (Acj N N a 0 e f g h b c (a::((b.getD a.toNat (0,(0,(0,(0,0))))).1::((b.getD a.toNat (0,(0,(0,(0,0))))).2.1::((b.getD a.toNat (0,(0,(0,(0,0))))).2.2.1::((b.getD a.toNat (0,(0,(0,(0,0))))).2.2.2.1::([]:List Int)))))) fun j l m n o p d=>if ((((List.length d)+(1:Nat))*(1:Nat))≤(70368744177664:Nat)) then (rc (wi (j+1)) l m n o p (d++[10])) else none) else none) else i c
def Ac7 {R:Type} (N:Nat):Nat→A69 R
 | 0=>fun _ _ _ _ _ _ _ _=>none
 | k+1=>fun a b c d e f g h=>Ayh @Acj N (fun a b c d e f g=>Ac7 N k a b c d e f g h) a b c d e f g h
def Asm (Ac7:Aon) (N k:Nat):Aas Ahx:=fun R x K=>Ac7 N k x.1.2.2.1 x.2.1.1 x.2.1.2.1 x.2.1.2.2.1 x.2.1.2.2.2.1 x.2.1.2.2.2.2.1 x.2.2.1 (fun y0=>K (.exit 0) (Aab Atq (((),()),(y0,()))))
def A7a (N k:Nat):Aas Ahx:=Asm @Ac7 N k
def Bhr:Aac:=⟨Bn2,[]⟩
def A06:Aac:=⟨Cis,[]⟩
abbrev Cec (R:Type):=(List UInt8)->d3->d1->d2->d4->((List UInt8)->Int->Option R)->Option R
abbrev A0e:={R:Type}→Nat→Cec R
def Bhs (Aeq:Amz) (Ac7:Aon):A0e:=fun {R} N a b c d e f=>Aeq N a b c d e fun g=>if ((g != 0)=true) then (f ([]:List UInt8) g) else Ac7 N N 0 a b c d e ([]:List Int) fun h=>f (List.map (fun n:Int=>UInt8.ofNat (Int.toNat n)) h) 0
def Alh:A0e:=@Bhs @Aeq @Ac7
def Csg (N:Nat):Abn Bhr [A06]:=fun R x C=>Alh N x.1.1.1 x.1.1.2.1 x.1.1.2.2.1 x.1.1.2.2.2.1 x.1.1.2.2.2.2.1 (fun y0 y1=>C.1 ((y0,y1,()),(())))
def Br4 (Alh:A0e) (N:Nat):Go.AX.Aaj:=Acr [true] [] false 1 0 Bhr [A06] (fun R x C=>Alh N x.1.1.1 x.1.1.2.1 x.1.1.2.2.1 x.1.1.2.2.2.1 x.1.1.2.2.2.2.1 (fun y0 y1=>C.1 ((y0,y1,()),(()))))
def Br5 (N:Nat):Go.AX.Aaj:=Br4 @Alh N
def Csh (N:Nat):List (Nat×Acp):=[(30,Aaa Ajz (Bjm N)),(23,Aaa Ahw (A68 N N)),(13,Aaa Ahx (A7a N N))]
def Ced (N:Nat):List (Nat×Go.AX.Aaj):=[(24,Bpd N),(25,Aol N)]
def A1s:Aac:=⟨[(0,.agg [.val .str,.val z3,.val z1,.val z4,.val z6])],[]⟩
def Aqp:Aac:=⟨Ah6,[]⟩
abbrev Bty (R:Type):=(List UInt8)->d3->d1->d2->d4->(Bool->Option R)->Option R
abbrev A1t:={R:Type}→Nat→Bty R
def A1u (Ajl:Awa) (Amu:A12) (Alh:A0e):A1t:=fun {R} N b c d e f a=>Ajl N b c d e f fun g=>if (g=true) then (a true) else Amu N b c d e f fun h i=>Alh N b c d e f fun j l=>if ((h==j)=true) then (if ((i==l)=true) then (a true) else a false) else a false
def Aoo:A1t:=@A1u @Ajl @Amu @Alh
def Clw (N:Nat):Abn A1s [Aqp]:=fun R x C=>Aoo N x.1.1.1 x.1.1.2.1 x.1.1.2.2.1 x.1.1.2.2.2.1 x.1.1.2.2.2.2.1 (fun y0=>C.1 ((y0,()),(())))
def Btz (Aoo:A1t) (N:Nat):Go.AX.Aaj:=Acr [true] [] false 1 0 A1s [Aqp] (fun R x C=>Aoo N x.1.1.1 x.1.1.2.1 x.1.1.2.2.1 x.1.1.2.2.2.1 x.1.1.2.2.2.2.1 (fun y0=>C.1 ((y0,()),(()))))
def Bdz (N:Nat):Go.AX.Aaj:=Btz @Aoo N
def Clx (N:Nat):List (Nat×Acp):=[]
def Bt0 (N:Nat):List (Nat×Go.AX.Aaj):=[(6,Boj N),(7,Bbp N),(8,Bv6 N),(9,Br5 N)]
end
end Q

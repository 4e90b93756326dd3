/- What is traced in the example of ReadExamples, reckoned. The point with which a spot is compared: barleycornlaw09.at. Points of a path are traced to it: plain .. -/
import Derived.Test.YtabfaobakmjiaaaGreatPx52
import Derived.Test.YtabfaobakmjiaaaGreatPx25
namespace Go.Proofs.YtabfaobakmjiaaaGreat
set_option maxRecDepth 100000
open Go.RowKit
set_option linter.unusedVariables false
set_option linter.unusedSimpArgs false
theorem isz (z:Int) (h: -1000000<=z/\z<=1000000):Rsz (z:Rat) 40:=by
 have b:=qGB z (by omega) (by omega);exact⟨Nat.le_trans b.1 (by decide),Nat.le_trans b.2 (by decide)⟩
def gI (a b:Int):G2:=((a:Rat),(b:Rat))
theorem gsz {a b:Int} (h:(-1000000<=a/\a<=1000000)/\ -1000000<=b/\b<=1000000):TSz (gI a b) 40:=⟨isz a h.1,isz b h.2⟩
theorem qRc {g r:G2} {n:Nat} (hg:TSz g 40) (hn:n<=64) (h:gpow g n=r) (hr:TSz r 40):powG (qAM g) (n:Int)= .ok r:=by
 unfold powG;rw[qBH hg];show(if (n:Int)< -64∨64<(n:Int)then _ else _)=_;rw[if_neg (by omega),if_neg (by omega),Int.natAbs_natCast,h,qBc hr]
theorem qRd {a b r:G2} (ha:TSz a 40) (hb:TSz b 40) (h:gmul a b=r) (hr:TSz r 40):mulG (qAM a) (qAM b)= .ok r:=by
 unfold mulG opG;rw[qBH ha,qBH hb];show outG (gmul a b)=_;rw[h,qBc hr]
theorem qTA {a b r:G2} (ha:TSz a 40) (hb:TSz b 40) (h:gadd a b=r) (hr:TSz r 40):qFj (qAM a) (qAM b)= .ok r:=by
 unfold qFj opG;rw[qBH ha,qBH hb];show outG (gadd a b)=_;rw[h,qBc hr]
theorem uA_I {k:Nat} {r:G2} (hk:k<=64) (h:gpow (gI 0 1) k=r) (hr:TSz r 40):uA 1 k=qAM r:=by
 unfold uA;rw[Nat.div_one,Nat.mod_one,qKw,show gi=gI 0 1 by decide+kernel,qRc (gsz (by decide)) hk h hr];unfold qCF;rw[if_neg (by decide),show gdiv (ndG ((0:Nat):Int) ((1:Nat):Int)) (qA4 (ndG ((0:Nat):Int) ((1:Nat):Int)))=gI 1 0 by decide+kernel,qBc (gsz (by decide))];show qBh (mulG (qAM r) (qAM (gI 1 0)))=_;rw[qRd hr (gsz (by decide)) (r:=r) (by unfold gmul gI;ext<;>grind) hr]
 rfl
noncomputable def qBU:List ArmA:=[⟨1,qAM (gI 100 0)⟩,⟨2,qAM (gI 10 0)⟩]
theorem qRe {g s c x y t:G2} {n:Nat} (hg:TSz g 40) (hn:n<=64) (hs:TSz s 40) (hc:TSz c 40) (hx:gpow g n=x) (hx1:TSz x 40) (hy:gmul c x=y) (hy1:TSz y 40) (ht:gadd s y=t) (ht1:TSz t 40):armG (qAM g) s ⟨(n:Int),qAM c⟩= .ok t:=by
 unfold armG;show(match powG (qAM g) (n:Int)with | .error e=>_| .ok x=>match mulG (qAM c) (qAM x)with | .error e=>_| .ok y=>qFj (qAM s) (qAM y))=_;rw[qRc hg hn hx hx1];show(match mulG (qAM c) (qAM x)with | .error e=>_| .ok y=>qFj (qAM s) (qAM y))=_;rw[qRd hc hx1 hy hy1];exact qTA hs hy1 ht ht1
theorem qQK (z:Int) (hz: -1000000<=z/\z<=1000000) (h1:qBb (z:Rat)=true) (h2:qEy (z:Rat)=z):qAT (qCW (z:Rat))=(z,0):=by
 unfold qAT;rw[qHJ (isz z hz)];show(if qBb (z:Rat)=true then _ else _)=_;rw[if_pos h1,h2]
theorem qTB (a b:Int) (ha: -10000<=a/\a<=10000) (hb: -10000<=b/\b<=10000) (h1:qBb (a:Rat)=true) (h2:qEy (a:Rat)=a) (h3:qBb (b:Rat)=true) (h4:qEy (b:Rat)=b):qBi (qAM (gI a b))= .ok (a,b):=by
 unfold qBi;show(if (qAT (qCW (a:Rat))).2≠0 then _ else if (qAT (qCW (b:Rat))).2≠0 then _ else if (-10000<=(qAT (qCW (a:Rat))).1/\(qAT (qCW (a:Rat))).1<=10000)/\(-10000<=(qAT (qCW (b:Rat))).1/\(qAT (qCW (b:Rat))).1<=10000)then Except.ok ((qAT (qCW (a:Rat))).1,(qAT (qCW (b:Rat))).1)else _)=_;rw[qQK a (by omega) h1 h2,qQK b (by omega) h3 h4];rw[if_neg (by simp),if_neg (by simp),if_pos ⟨ha,hb⟩]
theorem gpow_I:gpow (gI 0 1) 0=gI 1 0/\gpow (gI 0 1) 1=gI 0 1/\gpow (gI 0 1) 2=gI (-1) 0/\gpow (gI 0 1) 3=gI 0 (-1):=by
 refine⟨?_,?_,?_,?_⟩<;>decide+kernel
theorem qJK {k:Nat} {u1 u2 x1 x2 y1 y2:Int} (hk:k<=64) (hu:gpow (gI 0 1) k=gI u1 u2) (hs:(-1<=u1/\u1<=1)/\ -1<=u2/\u2<=1)
  (h1:gmul (gI 100 0) (gpow (gI u1 u2) 1)=gI x1 x2) (hx:(-100<=x1/\x1<=100)/\ -100<=x2/\x2<=100) (h0:gpow (gI u1 u2) 1=gI u1 u2)
  (h2:gpow (gI u1 u2) 2=gI y1 y2) (hy:(-1<=y1/\y1<=1)/\ -1<=y2/\y2<=1) {z1 z2 s1 s2:Int} (h3:gmul (gI 10 0) (gI y1 y2)=gI z1 z2) (hz:(-10<=z1/\z1<=10)/\ -10<=z2/\z2<=10)
  (ha:gadd (0,0) (gI x1 x2)=gI x1 x2) (hb:gadd (gI x1 x2) (gI z1 z2)=gI s1 s2) (hs2:(-110<=s1/\s1<=110)/\ -110<=s2/\s2<=110)
  (n1:qBb (s1:Rat)=true) (n2:qEy (s1:Rat)=s1) (n3:qBb (s2:Rat)=true) (n4:qEy (s2:Rat)=s2):qBm qBU 1 k= .ok (s1,s2):=by
 have d:TSz ((0,0):G2) 40:=gsz (a:=0) (b:=0) (by decide);have c:TSz (gI u1 u2) 40:=gsz (by omega);unfold qBm;rw[uA_I hk hu c];unfold qBU qBN;rw[show(⟨1,qAM (gI 100 0)⟩:ArmA)=⟨((1:Nat):Int),qAM (gI 100 0)⟩from rfl,qRe (n:=1) c (by decide) d (gsz (by decide)) h0 c (h0▸h1) (gsz (by omega)) ha (gsz (by omega))];unfold qBN;rw[show(⟨2,qAM (gI 10 0)⟩:ArmA)=⟨((2:Nat):Int),qAM (gI 10 0)⟩from rfl];dsimp only;rw[qRe (n:=2) c (by decide) (gsz (by omega)) (gsz (by decide)) h2 (gsz (by omega)) h3 (gsz (by omega)) hb (gsz (by omega))];unfold qBN;exact qTB s1 s2 (by omega) (by omega) n1 n2 n3 n4
theorem qTc:qBm qBU 1 0= .ok (110,0):=
 qJK (u1:=1) (u2:=0) (x1:=100) (x2:=0) (y1:=1) (y2:=0) (z1:=10) (z2:=0) (by decide) gpow_I.1 (by decide) (by decide+kernel) (by decide) (by decide+kernel) (by decide+kernel) (by decide) (by decide+kernel) (by decide) (by decide+kernel) (by decide+kernel) (by decide) (by kernel_rfl) (by kernel_rfl) (by kernel_rfl) (by kernel_rfl)
theorem qTd:qBm qBU 1 1= .ok (-10,100):=
 qJK (u1:=0) (u2:=1) (x1:=0) (x2:=100) (y1:= -1) (y2:=0) (z1:= -10) (z2:=0) (by decide) gpow_I.2.1 (by decide) (by decide+kernel) (by decide) (by decide+kernel) (by decide+kernel) (by decide) (by decide+kernel) (by decide) (by decide+kernel) (by decide+kernel) (by decide) (by kernel_rfl) (by kernel_rfl) (by kernel_rfl) (by kernel_rfl)
theorem qTe:qBm qBU 1 2= .ok (-90,0):=
 qJK (u1:= -1) (u2:=0) (x1:= -100) (x2:=0) (y1:=1) (y2:=0) (z1:=10) (z2:=0) (by decide) gpow_I.2.2.1 (by decide) (by decide+kernel) (by decide) (by decide+kernel) (by decide+kernel) (by decide) (by decide+kernel) (by decide) (by decide+kernel) (by decide+kernel) (by decide) (by kernel_rfl) (by kernel_rfl) (by kernel_rfl) (by kernel_rfl)
theorem qTf:qBm qBU 1 3= .ok (-10,-100):=
 qJK (u1:=0) (u2:= -1) (x1:=0) (x2:= -100) (y1:= -1) (y2:=0) (z1:= -10) (z2:=0) (by decide) gpow_I.2.2.2 (by decide) (by decide+kernel) (by decide) (by decide+kernel) (by decide+kernel) (by decide) (by decide+kernel) (by decide) (by decide+kernel) (by decide+kernel) (by decide) (by kernel_rfl) (by kernel_rfl) (by kernel_rfl) (by kernel_rfl)
theorem qN9 {l:List ArmA} {j:Nat} {a b:Int} {k:Int} (h:l.getD j default=⟨k,qAM (gI a b)⟩) (hg:TSz (gI a b) 40) (h0:qAS (gI a b)≠0) (hk: -64<=k/\k<=64) (hj:j=0∨(l.getD (j - 1) default).k <k):qCm l j=true:=by
 unfold qCm;rw[h];dsimp only;rw[qBH hg];simp[h0,hk];exact hj
theorem qR0:qDF qBU=0:=by
 have d:qCm qBU 0=true:=qN9 (a:=100) (b:=0) (k:=1) rfl (gsz (by decide)) (by decide+kernel) (by decide) (.inl rfl);have f:qCm qBU 1=true:=qN9 (a:=10) (b:=0) (k:=2) rfl (gsz (by decide)) (by decide+kernel) (by decide) (.inr (by show(1:Int)<2;decide));unfold qDF qEE
 rw[if_neg (by show¬24<2;decide),if_pos (by
  rw[qHr];intro j g;have c:j<2:=g
  match j,c with
  | 0,_=>exact d
  | 1,_=>exact f)]
theorem qKZ:qAi qBU 1= .ok [(110,0),(-10,100),(-90,0),(-10,-100)]:=by
 unfold qAi;rw[if_neg (by rw[qR0];decide),if_pos (by decide)];show qAq qBU 1 4=_;unfold qAq qAq qAq qAq qAq;rw[qTc,qTd,qTe,qTf]
 rfl
theorem qHq {paths:List (List ArmA)} {n:Int} {seen:List Sp} {t:Int} {P:List Sp} (h:qAi (paths.getD 0 []) n= .ok P):qBT paths n seen t 1= .ok ([]++gotT P seen t (qBV 0 (8*P.length))):=by
 unfold qBT qBT;dsimp only;rw[h]
theorem qTC:qCr [qBU] 1 [(-10,100),(-90,0)] 0= .ok [⟨0,1,0,false⟩]:=by
 unfold qCr;rw[if_pos (by kernel_rfl),show([qBU]:List (List ArmA)).length =1 from rfl,qHq (paths:=[qBU]) qKZ]
 kernel_rfl
theorem qTD:qCr [qBU] 1 [(-10,101)] 0= .error 6:=by
 unfold qCr;rw[if_pos (by kernel_rfl),show([qBU]:List (List ArmA)).length =1 from rfl,qHq (paths:=[qBU]) qKZ]
 kernel_rfl
theorem qTE:qCr [] 1 [(0,0)] 0= .error 2:=by
 unfold qCr;rw[if_neg (by decide+kernel)]
set_option maxHeartbeats 2000000
def Cd (z:Int):Prop:=z≠2/\z≠6
theorem cd0:Cd 0:=⟨by decide,by decide⟩
set_option maxHeartbeats 4000000
attribute [local go_sem high] qIN
def lfT:Code->Code
 | .seq a _=>a
 | c=>c
def rtT:Code->Code
 | .seq _ b=>b
 | c=>c
def tEq (a b c:Int) (d:Bool) (a' b' c':Int) (d':Bool):Bool:=a==a'&&(b==b'&&(c==c'&&d==d'))
theorem qNB (a b c:Int) (d:Bool) (a' b' c':Int) (d':Bool) (w:World):(Op.equalIn 10000 37 (.agg #[.int .i64 a,.int .i64 b,.int .i64 c,.bool d]) (.agg #[.int .i64 a',.int .i64 b',.int .i64 c',.bool d'])).run Tryz.prog w= .ok (tEq a b c d a' b' c' d') w:=by
 rw[run_equalIn_struct w 9999 37 _ _ (by kernel_rfl) (by kernel_rfl)]
 have f:Tryz.prog.fieldsOf 37=#[{name:= "Path",type:=3,offset:=0,embedded:=false,tag:= "",pkgPath:= "",byteOffset:=0},
    {name:= "From",type:=3,offset:=1,embedded:=false,tag:= "",pkgPath:= "",byteOffset:=8},
    {name:= "Quarter",type:=3,offset:=2,embedded:=false,tag:= "",pkgPath:= "",byteOffset:=16},
    {name:= "Back",type:=4,offset:=3,embedded:=false,tag:= "",pkgPath:= "",byteOffset:=24}]:=by kernel_rfl
 rw[f];unfold tEq
 cases h1:(a==a')<;>cases h2:(b==b')<;>cases h3:(c==c')<;>cases h4:(d==d')<;>
  simp[go_sem,h1,h2,h3,h4,Op.eqFields]
attribute [local go_sem ↓ high] qNB
end Go.Proofs.YtabfaobakmjiaaaGreat
namespace Go.Proofs.YtabfaobakmjiaaaGreat
set_option maxRecDepth 100000
set_option maxHeartbeats 4000000
open Go.RowKit
set_option linter.unusedVariables false
set_option linter.unusedSimpArgs false
def qHM (w:World) (e:Ending) (w':World):Prop:=e= .returned (.bool true)/\Below w.heap.size w w'
theorem belS {n:Nat} {w W W':World} (h:Below n w W) (hn:n<=W.heap.size) (hb:Below W.heap.size W W'):Below n w W':=h.trans (hb.mono hn)
theorem qIO (L:List Tra) (v1 v2:Value) (w:World) (h1:TraL w v1 L) (h2:TraL w v2 L):
  Calls Tryz.prog 9 #[v1,v2] w λe w'=>e= .returned (.bool true)/\∃n,w'=w.drewN n:=by
 obtain⟨A,c,rfl,G⟩:=h1.slice;obtain⟨I,t,rfl,-⟩:=h2.slice;unfold maxLen at G;have⟨i,k⟩:=hyd2 h1 h2;clear h2 h1;go_enter Tryz.func9,Tryz.ntmps9;go_wp2;go_loopw [5] (λr wr=>∃j:Nat,j<=L.length/\r= .int .i64 j/\∃n,wr=w.drewN n) (λr wr=>L.length - (intOf r).toNat)
 case atStart=>exact⟨0,Nat.zero_le _,rfl,0,rfl⟩
 case round=>
  obtain⟨j,P,rfl,n,l⟩:=hrel
  by_cases h:j<L.length
  ·obtain⟨b,off,T,f,O,g⟩:=i.out.at h;injection f with e1 e2 e3;subst e1 e3;clear e2;obtain⟨J,y,U,f,F,d⟩:=k.out.at h;injection f with e1 e2 e3;subst e1 e3;clear e2;obtain⟨⟨S,N,q,M⟩,o⟩:∃x,L[j]=x:=⟨_,rfl⟩;rw[o]at g d;have s:=g 0 _ rfl;have z:=g 1 _ rfl;have t:=g 2 _ rfl;have B:=g 3 _ rfl;have v:=d 0 _ rfl;have C:=d 1 _ rfl;have D:=d 2 _ rfl;have E:=d 3 _ rfl;rw[Nat.add_zero]at s v;have hq:∀p,wr.cell? p=w.cell? p:=λp=>by rw[l];simp
   rw[<-hq]at s z t B v C D E;have Q:(j:Int)<(L.length:Int):=by omega
   have R:(0:Int)<=(j:Int):=by omega
   clear g d hq;have⟨H,m⟩:=hyd2 o l;clear l o;go_wp2;go_region;go_wp2;go_roundw
   case rel=>exact⟨j+1,by omega,by go_num,n+1,by rw[m.out];simp⟩
   case measure=>simp[intOf];omega
  ·obtain rfl:j=L.length:=by omega
   go_wp2;go_ret;exact⟨rfl,n,rfl⟩
set_option maxHeartbeats 2000000
open Go.RowKit Go.Shelf
theorem qS2:exB.Fit:=⟨exP_fit.tl,by unfold qAO;decide,exP_fit.al,exP_fit.ah,exP_fit.rds,exP_fit.hs⟩
theorem qS3:exE.Fit:=⟨by unfold qAO;decide,by unfold qAO;decide,by unfold qAO;decide,by unfold qAO;decide,(λr h=>by cases h),(λr h=>by cases h)⟩
theorem qS4 (w:World):IsPic w (.agg #[.slice none 0 0,.int .i64 0,.int .i64 0,.int .i64 0,.int .i64 0,.slice none 0 0]) exE:=⟨_,_,rfl,⟨none,0,rfl,Nat.le_refl _,Nat.zero_le _,λ_=>rfl,λh=>absurd h (Nat.lt_irrefl 0)⟩,SV.nil _⟩
noncomputable def xe20:Code:=(qBM 20 ((Tryz.f5).body.getD .skip)).getD 0 .skip
theorem qTg (w W:World) (hbw:Below w.heap.size w W) (t:Array Value) (ht:∃u:Nat->Value,t=#[u 0,(u 1),(u 2),(u 3),(u 4),(u 5),(u 6),(u 7),(u 8),(u 9),(u 10),(u 11),.bool true,(u 13),(u 14),(u 15),(u 16),(u 17),(u 18),(u 19),(u 20),(u 21),(u 22),(u 23),.bool true,(u 25),(u 26),(u 27),(u 28),(u 29),(u 30),(u 31),(u 32),(u 33),(u 34),(u 35),(u 36),(u 37),(u 38),(u 39),(u 40),(u 41),(u 42),(u 43),(u 44),(u 45),(u 46),(u 47),(u 48),(u 49),(u 50),(u 51),(u 52),(u 53),(u 54),(u 55),(u 56),(u 57),(u 58),(u 59),(u 60),(u 61),(u 62),(u 63),(u 64),(u 65),(u 66),(u 67),(u 68),(u 69),(u 70),(u 71),(u 72),(u 73),(u 74),(u 75),(u 76),(u 77),(u 78),(u 79),(u 80),(u 81),(u 82),(u 83),(u 84),(u 85),(u 86),(u 87),(u 88),(u 89),(u 90),(u 91),(u 92),(u 93),(u 94),(u 95),(u 96),(u 97),(u 98),(u 99),(u 100),(u 101),(u 102),(u 103),(u 104),(u 105),(u 106),(u 107),(u 108),(u 109),(u 110),(u 111),(u 112),(u 113),(u 114),(u 115),(u 116),(u 117),(u 118),(u 119),(u 120),(u 121),(u 122),(u 123),(u 124),(u 125),(u 126),(u 127),(u 128),(u 129),(u 130),(u 131),(u 132),(u 133),(u 134),(u 135),(u 136),(u 137),(u 138),(u 139),(u 140),(u 141),(u 142),(u 143),(u 144),(u 145),(u 146),(u 147),(u 148),(u 149),(u 150),(u 151),(u 152),(u 153),(u 154),(u 155),(u 156),(u 157),(u 158),(u 159),(u 160),(u 161),(u 162),(u 163),(u 164),(u 165),(u 166),(u 167),(u 168),(u 169),(u 170),(u 171),(u 172),(u 173),(u 174),(u 175),(u 176),(u 177),(u 178),(u 179),(u 180),(u 181),(u 182),(u 183),(u 184),(u 185),(u 186),(u 187),(u 188),(u 189),(u 190),(u 191),(u 192),(u 193),(u 194),(u 195),(u 196),(u 197),(u 198),(u 199),(u 200),(u 201),(u 202),(u 203),(u 204),(u 205),(u 206),(u 207),(u 208),(u 209),(u 210),(u 211),(u 212),(u 213),(u 214),(u 215),(u 216),(u 217),(u 218),(u 219),(u 220),(u 221),(u 222),(u 223),(u 224),(u 225),(u 226),(u 227),(u 228),(u 229),(u 230),(u 231),(u 232),(u 233),(u 234),(u 235),(u 236),(u 237),(u 238),(u 239),(u 240),(u 241),(u 242),(u 243),(u 244),(u 245)]):
  ∀K:Act->World->Prop,(∀a w1,(rtT xe20).wp Tryz.prog (bodyPost Tryz.prog Tryz.f5 (qHM w)) a w1->K a w1)->(lfT xe20).wp Tryz.prog (Exit.then K (bodyPost Tryz.prog Tryz.f5 (qHM w))) {tmps:=t,defers:=[]} W:=by
 intro K hK;obtain⟨u,rfl⟩:=ht
 conv=>arg 2;whnf
 have G:=qEm W;have⟨k,H⟩:=hyd2 hbw G;clear G hbw;go_wp2_with (fail);go_at_call 14;refine H.out.mono ?_;rintro e h ⟨vh,vr,z,rfl,g,y0,y1,J,A⟩;have Z:=J h y1 (λ_ _=>rfl);obtain⟨M,Y,rfl,-⟩:=Z.slice;obtain⟨I,L,rfl⟩:=qAF A;obtain⟨W2,T,c,D⟩:=newb h (.cells #[.slice M exP.hs.length Y,.int .i64 1,.int .i64 2,.int .i64 10,.int .i64 10,.slice I 4 L] 51);obtain⟨c0,c1,c2,c3,c4,c5⟩:=pc6 D;have f2:=pfrz D 2;have d:=belT g c
 obtain⟨W3,U,s,k3,B⟩:∃V,W2.setCell ⟨h.heap.size,2,none⟩ (.int .i64 17)=V/\Below W.heap.size W V/\V.heap[h.heap.size]? =some (.cells #[.slice M exP.hs.length Y,.int .i64 1,.int .i64 17,.int .i64 10,.int .i64 10,.slice I 4 L] 51)/\IsPic V (.agg #[.slice M exP.hs.length Y,.int .i64 1,.int .i64 17,.int .i64 10,.int .i64 10,.slice I 4 L]) exB:=by
  have ab:=qAI A c;have aa:∀r,(Value.slice I 4 L).ownBlock =some r->r≠h.heap.size:=λr e=>by have:=(A.lt r e).2;omega
  refine⟨_,rfl,Below.setCell d (p:=⟨h.heap.size,2,none⟩) g.size _,qBt D 2 _,⟨_,_,rfl,J _ (by have:=c.size;simp[World.setCell];omega) (λb hb=>?_),SV.of_own (base:=z) (e:=60) (enc:=qAZ) (λ_=>rfl) (qGz ab aa _)⟩⟩;exact(Below.heap_setCell _ ⟨h.heap.size,2,none⟩ _ b (by show b≠h.heap.size;omega)).trans (c.block b (by omega))
 obtain⟨N,O,P,Q,R,S⟩:=pc6 k3;have E:=qMn W3;have⟨aj,a3,a2,a1,ak,a4,X,v⟩:=hyd8 g A Z J c D d s;have⟨ad,C,F⟩:=hyd3 k3 B E;clear E B k3 s d D c J Z A g;go_wp2_with (fail)
 conv=>arg 2;whnf
 go_wp2_with (fail);clear T U c0 c1 c2 c3 c4 c5 f2 N O P Q R S;go_at_call 10;refine F.out.mono ?_;rintro e W4 ⟨rfl,f⟩;have k4:=blk f ad.out;have q:=C.out.le f;have i:=belT v.out f;obtain⟨N,O,P,Q,R,S⟩:=pc6 k4;have kc:=qCu _ exB W4 q qS2;rw[qT0]at kc;have⟨al,a5,ao,l,af⟩:=hyd5 f k4 q i kc;clear kc i q k4 f;go_wp2_with (fail);clear N O P Q R S;go_at_call 24;refine af.out.mono ?_;rintro e W5 ⟨rfl,n⟩;have j:=belT l.out n;have ke:=qCu _ exE W5 (qS4 W5) qS3;rw[qT1]at ke;have⟨am,m,ah⟩:=hyd3 n j ke;clear ke j n;go_wp2_with (fail);go_at_call 24;refine ah.out.mono ?_;rintro e W6 ⟨rfl,o⟩;have x:=belS k.out k.out.size (belT m.out o);have⟨an,y⟩:=hyd2 o x;clear x o;go_wp2;go_ret;exact⟨rfl,y.out⟩
end Go.Proofs.YtabfaobakmjiaaaGreat

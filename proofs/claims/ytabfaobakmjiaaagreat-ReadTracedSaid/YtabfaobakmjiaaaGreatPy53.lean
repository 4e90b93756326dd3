/- The walk of ReadTraced: the call of Trace, and what follows it. The walk of ReadTraced: the spots that are seen. -/
import Derived.Test.YtabfaobakmjiaaaGreatPy52
namespace Go.Proofs.YtabfaobakmjiaaaGreat
set_option maxRecDepth 100000
set_option maxHeartbeats 4000000
open Go.RowKit
set_option linter.unusedVariables false
set_option linter.unusedSimpArgs false
def qGg (w:World) (e:Ending) (w':World):Prop:=e= .returned (.bool true)/\Below w.heap.size w w'
theorem belS {n:Nat} {w W W':World} (h:Below n w W) (hn:n<=W.heap.size) (hb:Below W.heap.size W W'):Below n w W':=h.trans (hb.mono hn)
def qSV (V:World) (pb po pl pc WB sb so sl sc lb lo ll lc:Nat) (mo ea:Int) (L:List Tra) (w9:Tra) (a:Act) (W:World):Prop:=
 ∃(t:Array Value) (i:Nat) (fd:Bool),a={tmps:=t,defers:=[]}/\(∃u:Nat->Value,t=#[.slice (some ⟨pb,po,none⟩) pl pc,(u 1),(u 2),(u 3),(u 4),(u 5),(u 6),(u 7),(u 8),(u 9),(u 10),(u 11),(u 12),(u 13),(u 14),(u 15),.bool false,.bool true,(u 18),.int .i64 mo,.int .i64 ea,.pointer (some ⟨WB,0,none⟩),(u 22),(u 23),.slice (some ⟨sb,so,none⟩) sl sc,(u 25),(u 26),.slice (some ⟨lb,lo,none⟩) ll lc,(u 28),.bool fd,(u 30),(u 31),(u 32),(u 33),(u 34),(u 35),(u 36),(u 37),(u 38),(u 39),(u 40),(u 41),(u 42),(u 43),(u 44),(u 45),(u 46),(u 47),(u 48),(u 49),(u 50),(u 51),(u 52),(u 53),(u 54),(u 55),(u 56),(u 57),(u 58),(u 59),(u 60),(u 61),(u 62),(u 63),(u 64),(u 65),(u 66),(u 67),(u 68),(u 69),(u 70),(u 71),(u 72),(u 73),(u 74),(u 75),(u 76),(u 77),(u 78),(u 79),(u 80),(u 81),(u 82),(u 83),(u 84),(u 85),(u 86),(u 87),(u 88),(u 89),(u 90),(u 91),(u 92),(u 93),(u 94),(u 95),(u 96),(u 97),(u 98),(u 99),(u 100),(u 101),(u 102),(u 103),(u 104),(u 105),(u 106),(u 107),(u 108),(u 109),(u 110),(u 111),(u 112),(u 113),(u 114),(u 115),(u 116),(u 117),(u 118),(u 119),(u 120),(u 121),(u 122),(u 123),(u 124),(u 125),(u 126),(u 127),(u 128),(u 129),(u 130),(u 131),(u 132),(u 133),(u 134),(u 135),(u 136),(u 137),(u 138),(u 139),(u 140),(u 141),(u 142),(u 143),(u 144),(u 145),(u 146),(u 147),(u 148),(u 149),(u 150),(u 151),(u 152),(u 153),(u 154),(u 155),(u 156),(u 157),(u 158),(u 159),(u 160),(u 161),(u 162),(u 163),(u 164),(u 165),(u 166),(u 167),(u 168),(u 169),(u 170),(u 171),(u 172),(u 173),(u 174),(u 175),(u 176),(u 177),(u 178),(u 179),(u 180),(u 181),(u 182),(u 183),(u 184),(u 185),(u 186),(u 187),(u 188),(u 189),(u 190),(u 191),(u 192),(u 193),(u 194),.int .i64 (ll:Int),.int .i64 (i:Int),(u 197),(u 198),(u 199),(u 200),(u 201),(u 202),(u 203),(u 204),(u 205),(u 206),(u 207),(u 208),(u 209),(u 210),(u 211),(u 212),(u 213),(u 214),(u 215),(u 216),(u 217),(u 218),(u 219),(u 220),(u 221),(u 222),(u 223),(u 224),(u 225),(u 226),(u 227),(u 228),(u 229),(u 230),(u 231),(u 232),(u 233),(u 234),(u 235),(u 236),(u 237),(u 238),(u 239),(u 240),(u 241),(u 242),(u 243),(u 244),(u 245),(u 246),(u 247),(u 248),(u 249),(u 250),(u 251),(u 252),(u 253),(u 254),(u 255),(u 256),(u 257),(u 258),(u 259),(u 260),(u 261),(u 262),(u 263),(u 264),(u 265),(u 266),(u 267),(u 268),(u 269),(u 270),(u 271),(u 272),(u 273),(u 274),(u 275),(u 276),(u 277),(u 278),(u 279),(u 280),(u 281),(u 282),(u 283),(u 284),(u 285),(u 286),(u 287)])/\i<=ll/\(fd=true↔w9∈L.take i)/\Below V.heap.size V W
noncomputable def td26:Code:=(qAm 26 ((Tryz.f4).body.getD .skip)).getD 0 .skip
theorem qSW (w:World) (pb po pl pc WB sb so sl sc:Nat) (mo ea:Int) (paths:List (List ArmA)) (seen:List Sp) (w9:Tra) (P:List Sp) (W:World)
  (hp:PathsL W (.slice (some ⟨pb,po,none⟩) pl pc) paths) (hpl:paths.length=pl) (hpl4:pl<=4) (hs:SpotsV W (.slice (some ⟨sb,so,none⟩) sl sc) seen) (hsl:seen.length=sl) (hsl1:sl<=1000)
  (hWB:W.heap[WB]? =some (.cells #[.int .i64 (w9.path:Int),.int .i64 (w9.fr:Int),.int .i64 (w9.q:Int),.bool w9.bk] 37))
  (hmo:0<=mo/\mo<=1000) (hsb:∀s∈seen,(-10000<=s.1/\s.1<=10000)/\(-10000<=s.2/\s.2<=10000))
  (hA:trcA paths ea seen mo=true) (hwp:w9.path<paths.length) (hP:qA4 (paths.getD w9.path []) ea= .ok P) (hf:w9.fr<P.length) (hq:w9.q<4) (hfit:fitT P seen mo w9=true)
  (hbw:Below w.heap.size w W) (t:Array Value) (ht:∃u:Nat->Value,t=#[.slice (some ⟨pb,po,none⟩) pl pc,(u 1),(u 2),(u 3),(u 4),(u 5),(u 6),(u 7),(u 8),(u 9),(u 10),(u 11),(u 12),(u 13),(u 14),(u 15),.bool false,.bool true,(u 18),.int .i64 mo,.int .i64 ea,.pointer (some ⟨WB,0,none⟩),(u 22),(u 23),.slice (some ⟨sb,so,none⟩) sl sc,(u 25),(u 26),(u 27),(u 28),(u 29),(u 30),(u 31),(u 32),(u 33),(u 34),(u 35),(u 36),(u 37),(u 38),(u 39),(u 40),(u 41),(u 42),(u 43),(u 44),(u 45),(u 46),(u 47),(u 48),(u 49),(u 50),(u 51),(u 52),(u 53),(u 54),(u 55),(u 56),(u 57),(u 58),(u 59),(u 60),(u 61),(u 62),(u 63),(u 64),(u 65),(u 66),(u 67),(u 68),(u 69),(u 70),(u 71),(u 72),(u 73),(u 74),(u 75),(u 76),(u 77),(u 78),(u 79),(u 80),(u 81),(u 82),(u 83),(u 84),(u 85),(u 86),(u 87),(u 88),(u 89),(u 90),(u 91),(u 92),(u 93),(u 94),(u 95),(u 96),(u 97),(u 98),(u 99),(u 100),(u 101),(u 102),(u 103),(u 104),(u 105),(u 106),(u 107),(u 108),(u 109),(u 110),(u 111),(u 112),(u 113),(u 114),(u 115),(u 116),(u 117),(u 118),(u 119),(u 120),(u 121),(u 122),(u 123),(u 124),(u 125),(u 126),(u 127),(u 128),(u 129),(u 130),(u 131),(u 132),(u 133),(u 134),(u 135),(u 136),(u 137),(u 138),(u 139),(u 140),(u 141),(u 142),(u 143),(u 144),(u 145),(u 146),(u 147),(u 148),(u 149),(u 150),(u 151),(u 152),(u 153),(u 154),(u 155),(u 156),(u 157),(u 158),(u 159),(u 160),(u 161),(u 162),(u 163),(u 164),(u 165),(u 166),(u 167),(u 168),(u 169),(u 170),(u 171),(u 172),(u 173),(u 174),(u 175),(u 176),(u 177),(u 178),(u 179),(u 180),(u 181),(u 182),(u 183),(u 184),(u 185),(u 186),(u 187),(u 188),(u 189),(u 190),(u 191),(u 192),(u 193),(u 194),(u 195),(u 196),(u 197),(u 198),(u 199),(u 200),(u 201),(u 202),(u 203),(u 204),(u 205),(u 206),(u 207),(u 208),(u 209),(u 210),(u 211),(u 212),(u 213),(u 214),(u 215),(u 216),(u 217),(u 218),(u 219),(u 220),(u 221),(u 222),(u 223),(u 224),(u 225),(u 226),(u 227),(u 228),(u 229),(u 230),(u 231),(u 232),(u 233),(u 234),(u 235),(u 236),(u 237),(u 238),(u 239),(u 240),(u 241),(u 242),(u 243),(u 244),(u 245),(u 246),(u 247),(u 248),(u 249),(u 250),(u 251),(u 252),(u 253),(u 254),(u 255),(u 256),(u 257),(u 258),(u 259),(u 260),(u 261),(u 262),(u 263),(u 264),(u 265),(u 266),(u 267),(u 268),(u 269),(u 270),(u 271),(u 272),(u 273),(u 274),(u 275),(u 276),(u 277),(u 278),(u 279),(u 280),(u 281),(u 282),(u 283),(u 284),(u 285),(u 286),(u 287)]):
  ∀K:Act->World->Prop,(∀a w1,(rtT td26).wp Tryz.prog (bodyPost Tryz.prog Tryz.f4 (qGg w)) a w1->K a w1)->(lfT td26).wp Tryz.prog (Exit.then K (bodyPost Tryz.prog Tryz.f4 (qGg w))) {tmps:=t,defers:=[]} W:=by
 intro K hK;obtain⟨u,rfl⟩:=ht
 conv=>arg 2;whnf
 have kt:=qMT paths ea seen mo _ _ W hp hs (λs h=>by have:=hsb s h;unfold qA6;omega);have y:=qOB hA hwp hP hf hq hfit;have⟨ab,T,ac,V,I,U,ar,ai⟩:=hyd8 hp hpl hs hsl hWB hsb hA hwp;have⟨av,aw,ax,Y,r,ae,E,S⟩:=hyd8 hP hf hq hfit hbw kt y hmo;clear hmo y kt hbw hfit hq hf hP hwp hA hsb hWB hsl hs hpl hp;go_wp2_with (fail);go_at_call 7;refine ae.out.mono ?_;rintro e W2 h1;obtain⟨l,v1,G,rfl,g⟩:=h1;have f:=belS r.out r.out.size l
 rcases E.out with⟨z,hz,z0,z2,z6⟩| ⟨L,hL,hwL,hall⟩
 ·rw[hz]at g;obtain⟨rfl,rfl⟩:=g;have y0:(G==0)=false:=by simpa using z0
  have y2:(G==2)=false:=by simpa using z2
  have y6:(G==6)=false:=by simpa using z6
  have x0:(G != 0)=true:=by simpa using z0
  have x2:(G != 2)=true:=by simpa using z2
  have x6:(G != 6)=true:=by simpa using z6
  have⟨o,ay,c⟩:=hyd3 l hz f;clear f hz l;go_wp2_with (fail)
  conv=>arg 2;whnf
  go_wp2;go_ret;exact⟨rfl,c.out⟩
 ·rw[hL]at g;obtain⟨Q,rfl⟩:=g;obtain⟨lb,lo,lc,rfl,-,-⟩:=Q.at (show 0<L.length by cases L with |nil=>cases hwL|cons a b=>exact Nat.succ_pos _);have R:L.length<=maxLen:=by obtain⟨_,_,_,h⟩:=SV.slice Q;exact h
  unfold maxLen at R;obtain⟨H,F⟩:∃m,L.length=m:=⟨_,rfl⟩;rw[F]at Q R ⊢;have⟨o,au,c,X,B,Z,A⟩:=hyd7 l hL f hwL hall Q F;clear F Q hall hwL f hL l;go_wp2_with (fail)
  conv=>arg 2;whnf
  go_wp2_with (fail);refine wp_loop (qSV W2 pb po pl pc WB sb so sl sc lb lo H lc mo ea L w9) (λa _=>H - (intOf (a.tmps.getD 196 undef)).toNat) ?start ?round
  case start=>exact⟨_,0,false,rfl,qAL _ _ (by kernel_rfl),Nat.zero_le _,⟨λh=>by(cases h),λh=>by(cases h)⟩,Below.refl _ _⟩
  case round=>
   rintro a W6 ⟨t,i,fd,rfl,⟨u,rfl⟩,hi,k,j⟩
   by_cases aa:i<H
   ·have j1:(i:Int)<(H:Int):=by omega
    have p:=belT o.out j;have⟨n,d,v⟩:=hyd3 j p k;clear k p j;go_upto_region 33 with(fail);refine qSU pb po pl pc WB sb so sl sc lb lo H lc i fd mo ea paths seen L w9 W6 aa (ab.out.le d.out) T.out hpl4 (ac.out.le (show Le W W6 from d.out)) V.out hsl1 (Z.out.le n.out) A.out (blk d.out I.out) S.out U.out B.out _ ?_ _ (qAL _ _ (by kernel_rfl)) _ (by assumption);rintro x W7 t' fe hx N ⟨u,rfl⟩ D;have q:=belT n.out D;have⟨ah,C,ad,O⟩:=hyd4 D q hx N;clear N hx q D;go_wp2;refine⟨⟨_,i+1,fe,rfl,qAL _ _ (by kernel_rfl),by omega,?_,C.out⟩,by simp[intOf];omega⟩;rw[List.take_add_one,ad.out,O.out,v.out];simp;exact or_congr Iff.rfl eq_comm
   ·obtain rfl:i=H:=by omega
    have J:=belS c.out c.out.size j
    cases fd with
    | false=>
     rw[List.take_of_length_le (by rw[A.out];exact Nat.le_refl _)]at k;exact absurd (k.2 X.out) (by simp)
    | true=>
     have⟨n,M,v⟩:=hyd3 j J k;clear k J j;go_wp2;go_ret;exact⟨rfl,M.out⟩
attribute [local go_sem high] qGA
theorem qQ9:(Tryz.prog.info? 41).map (λi=>(i.zero,i.size,i.bytes))=some (some (.agg #[.int .i64 0,.int .i64 0]),2,16):=by kernel_rfl
def SeenG (P:List Sp) (mo:Int) (w9:Tra) (S:List Sp):Prop:=(∀k,k<S.length->qDT P S mo w9 k=true)/\∀s∈S,(-10000<=s.1/\s.1<=10000)/\(-10000<=s.2/\s.2<=10000)
theorem SeenG.nil {P:List Sp} {mo:Int} {w9:Tra}:SeenG P mo w9 []:=⟨λk h=>absurd h (by simp),λs h=>by cases h⟩
theorem SeenG.add {P:List Sp} {mo:Int} {w9:Tra} {S:List Sp} {k:Nat} {r1 r2 c1 c2:Int} (h:SeenG P mo w9 S) (hk:S.length=k) (hr:rotP (P.getD (idxT P.length w9.fr w9.bk k) default) w9.q=(r1,r2)) (h1: -mo<=c1/\c1<=mo) (h2: -mo<=c2/\c2<=mo)
  (hb:(-10000<=r1+c1/\r1+c1<=10000)/\(-10000<=r2+c2/\r2+c2<=10000)):SeenG P mo w9 (S++[(r1+c1,r2+c2)]):=by
 refine⟨λj c=>?_,λs b=>?_⟩
 ·unfold qDT;rw[List.length_append]at c
  by_cases e:j<S.length
  ·rw[show(S++[(r1+c1,r2+c2)]).getD j default=S.getD j default by rw[List.getD_eq_getElem?_getD,List.getD_eq_getElem?_getD,List.getElem?_append_left e]];exact h.1 j e
  ·have d:j=k:=by simp at c;omega
   subst d;rw[show(S++[(r1+c1,r2+c2)]).getD j default=(r1+c1,r2+c2)by rw[List.getD_eq_getElem?_getD,List.getElem?_append_right (by omega),hk];simp,hr];unfold qFz qAE;simp only[Bool.and_eq_true,decide_eq_true_eq];omega
 ·rcases List.mem_append.1 b with b|b
  ·exact h.2 s b
  ·rw[List.mem_singleton.1 b];exact hb
theorem SeenG.fit {P:List Sp} {mo:Int} {w9:Tra} {S:List Sp} (h:SeenG P mo w9 S):fitT P S mo w9=true:=by
 rw[fitT,List.all_eq_true];exact λk b=>h.1 k (List.mem_range.1 b)
theorem qR5 {paths:List (List ArmA)} {n:Int} {S:List Sp} {mo:Int} {P:List Sp} {w9:Tra} (h:SeenG P mo w9 S) (hp:1<=paths.length/\paths.length<=8) (hn:1<=n/\n<=16) (hs:1<=S.length/\(S.length:Int)<=4*n) (hm:0<=mo/\mo<=1000):trcA paths n S mo=true:=by
 unfold trcA qAE;simp only[Bool.and_eq_true,decide_eq_true_eq,List.all_eq_true];refine⟨by omega,by omega,by omega,by omega,λx b=>?_⟩;have:=h.2 x b;unfold farB qAE;simp only[Bool.not_not,Bool.and_eq_true,decide_eq_true_eq];omega
theorem qIb {o mo:Int} (h:0<=mo): -mo<=o.tmod (mo+1)/\o.tmod (mo+1)<=mo:=by
 have:=(qHh (I:=o) (n:=mo+1) (by omega)).1;omega
def qSX (V:World) (pb po pl pc fb fo fl fc WB:Nat) (OA:Option Addr) (on oc m:Nat) (mo ea:Int) (P:List Sp) (w9:Tra) (a:Act) (W:World):Prop:=
 ∃(t:Array Value) (k:Nat) (SA:Option Addr) (sc:Nat) (S:List Sp),a={tmps:=t,defers:=[]}/\(∃u:Nat->Value,t=#[.slice (some ⟨pb,po,none⟩) pl pc,(u 1),(u 2),(u 3),(u 4),(u 5),.slice (some ⟨fb,fo,none⟩) fl fc,(u 7),(u 8),(u 9),(u 10),(u 11),(u 12),(u 13),(u 14),(u 15),.bool false,.bool true,(u 18),.int .i64 mo,.int .i64 ea,.pointer (some ⟨WB,0,none⟩),.slice OA on oc,(u 23),.slice SA k sc,(u 25),(u 26),(u 27),(u 28),(u 29),(u 30),(u 31),(u 32),(u 33),(u 34),(u 35),(u 36),(u 37),(u 38),(u 39),(u 40),(u 41),(u 42),(u 43),(u 44),(u 45),(u 46),(u 47),(u 48),(u 49),(u 50),(u 51),(u 52),(u 53),(u 54),(u 55),(u 56),(u 57),(u 58),(u 59),(u 60),(u 61),(u 62),(u 63),(u 64),(u 65),(u 66),(u 67),(u 68),(u 69),(u 70),(u 71),(u 72),(u 73),(u 74),(u 75),(u 76),(u 77),(u 78),(u 79),(u 80),(u 81),(u 82),(u 83),(u 84),(u 85),(u 86),(u 87),(u 88),(u 89),(u 90),(u 91),(u 92),(u 93),(u 94),(u 95),(u 96),(u 97),(u 98),(u 99),(u 100),(u 101),(u 102),(u 103),(u 104),(u 105),(u 106),(u 107),(u 108),(u 109),(u 110),(u 111),(u 112),(u 113),(u 114),(u 115),(u 116),(u 117),(u 118),(u 119),(u 120),(u 121),.int .i64 (m:Int),.int .i64 (k:Int),(u 124),(u 125),(u 126),(u 127),(u 128),(u 129),(u 130),(u 131),(u 132),(u 133),(u 134),(u 135),(u 136),(u 137),(u 138),(u 139),(u 140),(u 141),(u 142),(u 143),(u 144),(u 145),(u 146),(u 147),(u 148),(u 149),(u 150),(u 151),(u 152),(u 153),(u 154),(u 155),(u 156),(u 157),(u 158),(u 159),(u 160),(u 161),(u 162),(u 163),(u 164),(u 165),(u 166),(u 167),(u 168),(u 169),(u 170),(u 171),(u 172),(u 173),(u 174),(u 175),(u 176),(u 177),(u 178),(u 179),(u 180),(u 181),(u 182),(u 183),(u 184),(u 185),(u 186),(u 187),(u 188),(u 189),(u 190),(u 191),(u 192),(u 193),(u 194),(u 195),(u 196),(u 197),(u 198),(u 199),(u 200),(u 201),(u 202),(u 203),(u 204),(u 205),(u 206),(u 207),(u 208),(u 209),(u 210),(u 211),(u 212),(u 213),(u 214),(u 215),(u 216),(u 217),(u 218),(u 219),(u 220),(u 221),(u 222),(u 223),(u 224),(u 225),(u 226),(u 227),(u 228),(u 229),(u 230),(u 231),(u 232),(u 233),(u 234),(u 235),(u 236),(u 237),(u 238),(u 239),(u 240),(u 241),(u 242),(u 243),(u 244),(u 245),(u 246),(u 247),(u 248),(u 249),(u 250),(u 251),(u 252),(u 253),(u 254),(u 255),(u 256),(u 257),(u 258),(u 259),(u 260),(u 261),(u 262),(u 263),(u 264),(u 265),(u 266),(u 267),(u 268),(u 269),(u 270),(u 271),(u 272),(u 273),(u 274),(u 275),(u 276),(u 277),(u 278),(u 279),(u 280),(u 281),(u 282),(u 283),(u 284),(u 285),(u 286),(u 287)])/\k<=m/\S.length=k/\W.ownsRow V.heap.size 41 2 (.slice SA k sc) k (S.flatMap qDo)/\Below V.heap.size V W/\SeenG P mo w9 S
noncomputable def td15:Code:=(qAm 15 ((Tryz.f4).body.getD .skip)).getD 0 .skip
theorem qSY (w:World) (pb po pl pc fb fo fl fc WB:Nat) (OA:Option Addr) (on oc:Nat) (mo ea:Int) (paths:List (List ArmA)) (offs:List Int) (w9:Tra) (P:List Sp) (W:World)
  (hp:PathsL W (.slice (some ⟨pb,po,none⟩) pl pc) paths) (hpl:paths.length=pl) (hpl4:pl<=4)
  (hfl:offs.length=fl) (hfl2:2<=fl/\fl<=12) (hfb:fb<W.heap.size) (hfc:∀j (h:j<offs.length),W.cell? ⟨fb,fo+j,none⟩=some (.int .i8 offs[j])) (h8:∀o∈offs,-128<=o/\o<=127)
  (hWB:W.heap[WB]? =some (.cells #[.int .i64 (w9.path:Int),.int .i64 (w9.fr:Int),.int .i64 (w9.q:Int),.bool w9.bk] 37))
  (hmo:0<=mo/\mo<=7) (hea:1<=ea/\ea<=3) (hPv:SpotsV W (.slice OA on oc) P) (hon:P.length=on) (hon4:(on:Int)=4*ea)
  (hwp:w9.path<paths.length) (hP:qA4 (paths.getD w9.path []) ea= .ok P) (hf:w9.fr<P.length) (hq:w9.q<4)
  (hbw:Below w.heap.size w W) (t:Array Value) (ht:∃u:Nat->Value,t=#[.slice (some ⟨pb,po,none⟩) pl pc,(u 1),(u 2),(u 3),(u 4),(u 5),.slice (some ⟨fb,fo,none⟩) fl fc,(u 7),(u 8),(u 9),(u 10),(u 11),(u 12),(u 13),(u 14),(u 15),.bool false,.bool true,(u 18),.int .i64 mo,.int .i64 ea,.pointer (some ⟨WB,0,none⟩),.slice OA on oc,(u 23),(u 24),(u 25),(u 26),(u 27),(u 28),(u 29),(u 30),(u 31),(u 32),(u 33),(u 34),(u 35),(u 36),(u 37),(u 38),(u 39),(u 40),(u 41),(u 42),(u 43),(u 44),(u 45),(u 46),(u 47),(u 48),(u 49),(u 50),(u 51),(u 52),(u 53),(u 54),(u 55),(u 56),(u 57),(u 58),(u 59),(u 60),(u 61),(u 62),(u 63),(u 64),(u 65),(u 66),(u 67),(u 68),(u 69),(u 70),(u 71),(u 72),(u 73),(u 74),(u 75),(u 76),(u 77),(u 78),(u 79),(u 80),(u 81),(u 82),(u 83),(u 84),(u 85),(u 86),(u 87),(u 88),(u 89),(u 90),(u 91),(u 92),(u 93),(u 94),(u 95),(u 96),(u 97),(u 98),(u 99),(u 100),(u 101),(u 102),(u 103),(u 104),(u 105),(u 106),(u 107),(u 108),(u 109),(u 110),(u 111),(u 112),(u 113),(u 114),(u 115),(u 116),(u 117),(u 118),(u 119),(u 120),(u 121),(u 122),(u 123),(u 124),(u 125),(u 126),(u 127),(u 128),(u 129),(u 130),(u 131),(u 132),(u 133),(u 134),(u 135),(u 136),(u 137),(u 138),(u 139),(u 140),(u 141),(u 142),(u 143),(u 144),(u 145),(u 146),(u 147),(u 148),(u 149),(u 150),(u 151),(u 152),(u 153),(u 154),(u 155),(u 156),(u 157),(u 158),(u 159),(u 160),(u 161),(u 162),(u 163),(u 164),(u 165),(u 166),(u 167),(u 168),(u 169),(u 170),(u 171),(u 172),(u 173),(u 174),(u 175),(u 176),(u 177),(u 178),(u 179),(u 180),(u 181),(u 182),(u 183),(u 184),(u 185),(u 186),(u 187),(u 188),(u 189),(u 190),(u 191),(u 192),(u 193),(u 194),(u 195),(u 196),(u 197),(u 198),(u 199),(u 200),(u 201),(u 202),(u 203),(u 204),(u 205),(u 206),(u 207),(u 208),(u 209),(u 210),(u 211),(u 212),(u 213),(u 214),(u 215),(u 216),(u 217),(u 218),(u 219),(u 220),(u 221),(u 222),(u 223),(u 224),(u 225),(u 226),(u 227),(u 228),(u 229),(u 230),(u 231),(u 232),(u 233),(u 234),(u 235),(u 236),(u 237),(u 238),(u 239),(u 240),(u 241),(u 242),(u 243),(u 244),(u 245),(u 246),(u 247),(u 248),(u 249),(u 250),(u 251),(u 252),(u 253),(u 254),(u 255),(u 256),(u 257),(u 258),(u 259),(u 260),(u 261),(u 262),(u 263),(u 264),(u 265),(u 266),(u 267),(u 268),(u 269),(u 270),(u 271),(u 272),(u 273),(u 274),(u 275),(u 276),(u 277),(u 278),(u 279),(u 280),(u 281),(u 282),(u 283),(u 284),(u 285),(u 286),(u 287)]):
  ∀K:Act->World->Prop,(∀a w1,(rtT td15).wp Tryz.prog (bodyPost Tryz.prog Tryz.f4 (qGg w)) a w1->K a w1)->(lfT td15).wp Tryz.prog (Exit.then K (bodyPost Tryz.prog Tryz.f4 (qGg w))) {tmps:=t,defers:=[]} W:=by
 intro K hK;obtain⟨u,rfl⟩:=ht
 conv=>arg 2;whnf
 obtain⟨-,-,aX⟩:=qDH hP;obtain⟨h2,af⟩:∃h,fl / 2=h:=⟨_,rfl⟩;have x2:(fl:Int).tdiv 2=(h2:Int):=by rw[<-af];rfl
 have y2:(fl:Int) / 2=(h2:Int):=by rw[<-af];rfl
 obtain⟨m,hm⟩:∃m,min h2 on=m:=⟨_,rfl⟩;have z2:min (h2:Int) (on:Int)=(m:Int):=by omega
 have ag:1<=m:=by omega
 have cv:m<=6:=by omega
 have ce:m<=on:=by omega
 have cw:2*m<=fl:=by omega
 obtain⟨v0,v1,v2,v3⟩:=pc4 hWB;have⟨bO,ay,au,T,aT,ao,aY,bl⟩:=hyd8 hp hpl hfl hfc h8 hWB hPv hon;have⟨a5,bG,ae,bo,D,an,cc,cu⟩:=hyd8 hwp hP hf hq hbw aX af hm;have⟨aq,v,X,R⟩:=hyd4 hea hmo hon4 hfb;clear hfb hon4 hmo hea hm af aX hbw hq hf hP hwp hon hPv hWB h8 hfc hfl hpl hp;go_wp2_with (fail)
 conv=>arg 2;whnf
 go_wp2_with (fail);clear x2 y2 z2;refine wp_loop (qSX W pb po pl pc fb fo fl fc WB OA on oc m mo ea P w9) (λa _=>m - (intOf (a.tmps.getD 123 undef)).toNat) ?start ?round
 case start=>exact⟨_,0,none,0,[],rfl,qAL _ _ (by kernel_rfl),Nat.zero_le _,rfl,World.ownsRow_nil _ _ _ _,Below.refl _ _,SeenG.nil⟩
 case round=>
  rintro a W1 ⟨t,k,SA,sc,S,rfl,⟨u,rfl⟩,hk,F,z,g,hG⟩
  by_cases ct:k<m
  ·have j1:(k:Int)<(m:Int):=by omega
   have j0:(0:Int)<=(k:Int):=by omega
   have d:=blk g ao.out;obtain⟨a0,a1,a2,a3⟩:=pc4 d;have ak:=qLf P w9.path w9.fr w9.q w9.bk k _ W1 (aY.out.le (show Le W W1 from g)) (by have:=ae.out;omega) (by have:=ae.out;have:=bl.out;have:=X.out;have:=aq.out;omega) (by have:=bo.out;omega) (by omega) an.out;obtain⟨⟨Z,r2⟩,hr⟩:∃r,rotP (P.getD (idxT P.length w9.fr w9.bk k) default) w9.q=r:=⟨_,rfl⟩
   have cx:(-10000<=Z/\Z<=10000)/\(-10000<=r2/\r2<=10000):=by
    have bN:=qHE (n:=P.length) (fr:=w9.fr) (bk:=w9.bk) (k:=k) (by have:=ae.out;omega);have:=qEm (x:=P.getD (idxT P.length w9.fr w9.bk k) default) (m:=10000) (by rw[qFY bN];exact an.out _ (List.getElem_mem _)) w9.q;rw[hr]at this;exact this
   rw[hr]at ak;dsimp only at ak;have⟨b,Y,l,ac,L,bs,bP⟩:=hyd7 F z g hG d ak hr;clear hr ak d hG g z F;go_wp2_with (fail);clear v0 v1 v2 v3;go_at_call 12;refine bs.out.mono ?_;rintro e E ⟨rfl,aB⟩;obtain⟨W3,bH,aC,k3⟩:=newb E (.cells #[.int .i64 Z,.int .i64 r2] 41);have N:=belT aB aC;have B:=belT l.out N;obtain⟨d0,d1⟩:=pc2 k3;have f0:=pfrz k3 0;have f1:=pfrz k3 1;obtain⟨i2,bg⟩:∃n:Nat,2*k=n:=⟨_,rfl⟩;obtain⟨i3,cs⟩:∃n:Nat,2*k+1=n:=⟨_,rfl⟩;have bh:i2<offs.length:=by rw[au.out];omega
   have aG:i3<offs.length:=by rw[au.out];omega
   obtain⟨o1,aI⟩:∃o,offs[i2]=o:=⟨_,rfl⟩;obtain⟨o2,aJ⟩:∃o,offs[i3]=o:=⟨_,rfl⟩;have g1:=(B.cell (p:=⟨fb,fo+i2,none⟩) R.out).trans (T.out i2 bh);have g2:=(B.cell (p:=⟨fb,fo+i3,none⟩) R.out).trans (T.out i3 aG);have b1:=aT.out _ (List.getElem_mem bh);have b2:=aT.out _ (List.getElem_mem aG);rw[aI]at g1 b1;rw[aJ]at g2 b2;obtain⟨c1,bK⟩:∃c,o1.tmod (mo+1)=c:=⟨_,rfl⟩;obtain⟨c2,bL⟩:∃c,o2.tmod (mo+1)=c:=⟨_,rfl⟩;have n1:=qIb (o:=o1) v.out.1;have n2:=qIb (o:=o2) v.out.1;rw[bK]at n1;rw[bL]at n2;have av:=v.out;have s0:IntKind.i64.wrap (mo+1)=mo+1:=IntWalk.i64_in _ (by omega);have s1:IntKind.i64.wrap o1=o1:=IntWalk.i64_in _ (by omega);have s2:IntKind.i64.wrap o2=o2:=IntWalk.i64_in _ (by omega);have s3:IntKind.i64.wrap c1=c1:=IntWalk.i64_in _ (by omega);have s4:IntKind.i64.wrap c2=c2:=IntWalk.i64_in _ (by omega);have s5:IntKind.i64.wrap (Z+c1)=Z+c1:=IntWalk.i64_in _ (by omega);have s6:IntKind.i64.wrap (r2+c2)=r2+c2:=IntWalk.i64_in _ (by omega);have s7:IntKind.i64.wrap (2*(k:Int))=(i2:Int):=(IntWalk.i64_in _ (by omega)).trans (by omega);have s8:IntKind.i64.wrap ((i2:Int)+1)=(i3:Int):=(IntWalk.i64_in _ (by omega)).trans (by omega);have q1:¬mo+1=0:=by omega
   have q2:((mo+1)==0)=false:=by simpa using q1
   have q3:(0:Int)<=(i2:Int):=by omega
   have q4:(i2:Int)<(fl:Int):=by omega
   have q5:(0:Int)<=(i3:Int):=by omega
   have q6:(i3:Int)<(fl:Int):=by omega
   have⟨cf,bj,A,bZ,bQ,a8,aD,cl⟩:=hyd8 aI aJ aB aC k3 N B b1;have⟨cm,U⟩:=hyd2 b2 av;clear av b2 b1 B N k3 aC aB aJ aI;go_wp2_with (fail);clear bH;go_region
   obtain⟨W4,bb,ap,Q,k4⟩:∃V,(W3.setCell ⟨E.heap.size,0,none⟩ (.int .i64 (Z+c1))).drew =V/\Below W1.heap.size W1 V/\Below W.heap.size W V/\V.heap[E.heap.size]? =some (.cells #[.int .i64 (Z+c1),.int .i64 r2] 41):=
    ⟨_,rfl,(a8.out.setCell (p:=⟨E.heap.size,0,none⟩) A.out.size _).drew,(aD.out.setCell (p:=⟨E.heap.size,0,none⟩) (belT l.out A.out).size _).drew,by
     show(W3.setCell ⟨E.heap.size,0,none⟩ (.int .i64 (Z+c1))).heap[E.heap.size]? =_
     exact qBe bQ.out 0 _⟩
   rw[bb];have aS:=(Q.cell (p:=⟨fb,fo+i3,none⟩) R.out).trans (T.out i3 aG);rw[bj.out]at aS;obtain⟨e0,e1⟩:=pc2 k4;have bC:=pfrz k4 1;clear d0 d1 f0 f1 g1 g2;have⟨a9,aE,bR⟩:=hyd3 ap Q k4;clear k4 Q ap;go_wp2_with (fail);clear bb;go_region
   obtain⟨W5,bc,s,f,k5⟩:∃V,(W4.setCell ⟨E.heap.size,1,none⟩ (.int .i64 (r2+c2))).drew =V/\Below W1.heap.size W1 V/\Below W.heap.size W V/\V.heap[E.heap.size]? =some (.cells #[.int .i64 (Z+c1),.int .i64 (r2+c2)] 41):=
    ⟨_,rfl,(a9.out.setCell (p:=⟨E.heap.size,1,none⟩) A.out.size _).drew,(aE.out.setCell (p:=⟨E.heap.size,1,none⟩) (belT l.out A.out).size _).drew,by
     show(W4.setCell ⟨E.heap.size,1,none⟩ (.int .i64 (r2+c2))).heap[E.heap.size]? =_
     exact qBe bR.out 1 _⟩
   rw[bc];obtain⟨d0,d1⟩:=pc2 k5;clear bc e0 e1 bC aS s0 s1 s2 s3 s4 s5 s6 s7 s8;obtain⟨I,G⟩:∃p,Z+c1=p:=⟨_,rfl⟩;obtain⟨J,H⟩:∃p,r2+c2=p:=⟨_,rfl⟩;rw[G]at k5 d0;rw[H]at k5 d1;have s1:IntKind.i64.wrap (-I)= -I:=IntWalk.i64_in _ (by have:=U.out;omega);have s2:IntKind.i64.wrap (-J)= -J:=IntWalk.i64_in _ (by have:=U.out;omega);obtain⟨M,hM⟩:∃M,max I (max (-I) (max J (-J)))=M:=⟨_,rfl⟩;have ai:=belS D.out D.out.size f
   by_cases cb:(10000:Int)<M
   ·have⟨aA,aF,bS,bm,bn,a4⟩:=hyd6 s f k5 G H ai;clear ai H G k5 f s;go_wp2_with (fail);go_ret;exact⟨rfl,a4.out⟩
   ·obtain⟨Wa,cq,ad,ka⟩:=newb W5 (.cells #[.int .i64 I,.int .i64 J] 41);have O:=belT s ad;have C:=belT f ad;have ah:=qAK Y.out O;have bq:W.heap.size<=Wa.heap.size:=C.size
    have aw:∀(i:Nat) (y:Value),(qDo (I,J))[i]? =some y->Wa.cell? ⟨W5.heap.size,i,none⟩=some y:=λi y hu=>by
     have bg:i<2:=(List.getElem?_eq_some_iff.1 hu).1;obtain⟨n0,n1⟩:=pc2 ka
     match i,bg with
     | 0,_=>rw[n0];simpa[qDo]using hu
     | 1,_=>rw[n1];simpa[qDo]using hu
    have ag:(S++[((I,J):Sp)]).length =k+1:=by rw[List.length_append,b.out];rfl
    have aV:SeenG P mo w9 (S++[((I,J):Sp)]):=by
     rw[<-G,<-H];exact ac.out.add b.out bP.out n1 n2 (by omega)
    have az:∀w7 v7,Wa.grownBy w7 (Value.slice SA k sc).ownBlock ->w7.ownsRow W.heap.size 41 2 v7 (S++[((I,J):Sp)]).length ((S++[((I,J):Sp)]).flatMap qDo)->∃A7 c7,v7= .slice A7 (k+1) c7/\(Hid (w7.ownsRow W.heap.size 41 2 (.slice A7 (k+1) c7) (k+1) ((S++[((I,J):Sp)]).flatMap qDo))/\Hid (Below W.heap.size W w7)):=λw7 v7 hg q1=>by
     rw[ag]at q1;obtain⟨A7,c7,rfl⟩:=qCk q1;exact⟨A7,c7,rfl,Lib.hid q1,Lib.hid (C.trans (qM8 ah hg bq))⟩
    have ax:Wa.ownsRow W.heap.size 41 2 (.slice SA k sc) S.length (S.flatMap qDo):=by rw[b.out];exact ah
    have aZ:S.length<=1000000:=by rw[b.out];omega
    have⟨aA,aF,bS,bm,bn,a4,ca,cy⟩:=hyd8 s f k5 G H ai ad ka;have⟨bI,bJ,cg,aH,bi,aW,aL,aK⟩:=hyd8 O C ah aw ag aV az ax;have ba:=hyd1 aZ;clear aZ ax az aV ag aw ah C O ka ad ai H G k5 f s;go_wp2_with (first | (at_builtin;go_must (refine qF1 (enc:=qDo) (k:=2) (bytes:=16) _ rfl _ _ 23 (λ_=>rfl) (λx u hu=>by simp[qDo]at hu;rcases hu with rfl|rfl<;>rfl) (by decide) rfl (by decide) rfl W.heap.size 41 Tryz.underlying23 qQ9 (.slice SA k sc) S rfl aK.out W5.heap.size (I,J) rfl aH.out ba.out bq ?_);intro v7 w7 q1 q2 q3;obtain⟨A7,c7,rfl,bE,bF⟩:=aL.out w7 _ q2 q1;clear q1 q2 q3));exact⟨⟨_,k+1,A7,c7,S++[(I,J)],rfl,qAL _ _ (by kernel_rfl),by omega,bi.out,bE.out,bF.out,aW.out⟩,by simp[intOf];omega⟩
  ·obtain rfl:k=m:=by omega
   have aM:SpotsV W1 (.slice SA k sc) S:=SpotsV.of_row (by rw[F];exact z) (by omega);obtain⟨sb,so,cB,bf,-⟩:=SpotsV.at aM (show 0<S.length by omega);rw[F]at bf;injection bf with e1 e2 e3;subst e1;clear e2 e3;have bd:=belS D.out D.out.size g;have d:=blk g ao.out;have ar:=aq.out;have hA:=qR5 (paths:=paths) (n:=ea) hG (by have:=a5.out;have:=ay.out;omega) (by omega) (by have:=X.out;omega) (by have:=v.out;omega);have⟨b,Y,l,ac,L,bp,be,bD⟩:=hyd8 F z g hG d aM bd hA;have bM:=hyd1 ar;clear ar hA bd aM d hG g z F;go_upto_region 26 with(fail);exact qSW w pb po pl pc WB sb so k sc mo ea paths S w9 P W1 (bO.out.le l.out) ay.out hpl4 bp.out b.out (by omega) L.out (by have:=v.out;omega) ac.out.2 bD.out a5.out bG.out ae.out bo.out ac.out.fit be.out _ (qAL _ _ (by kernel_rfl)) _ (by assumption)
end Go.Proofs.YtabfaobakmjiaaaGreat

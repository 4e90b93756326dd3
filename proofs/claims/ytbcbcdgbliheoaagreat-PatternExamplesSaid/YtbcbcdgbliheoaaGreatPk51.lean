/- PatternExamples: what its calls answer; its last part (errors, and what is refused). -/
import Derived.Test.YtbcbcdgbliheoaaGreatPk50
namespace Go.Proofs.YtbcbcdgbliheoaaGreat
set_option maxRecDepth 100000
set_option maxHeartbeats 4000000
open Go.RowKit Go.Shelf
set_option linter.unusedVariables false
set_option linter.unusedSimpArgs false
theorem xnew (w:World) (o:Obj):∃V,w.alloc o=V/\Below w.heap.size w V/\V.heap[w.heap.size]? =some o:=⟨_,rfl,alc1 _ _,qAk _ _⟩
theorem xblk {w W:World} {B:Nat} {o:Obj} (h:Below w.heap.size w W) (hk:w.heap[B]? =some o):W.heap[B]? =some o:=(h.block B (gsl hk)).trans hk
theorem xT {w W:World} (h:Below w.heap.size w W) {V:World} (k:Below W.heap.size W V):Below w.heap.size w V:=h.trans (k.mono h.size)
theorem qCP {W:World} {b e:Nat} (xs:List Int) (n:Nat) (hn:xs.length=n) (h:W.heap[b]? =some (.cells (xs.map vint).toArray e)) (hm:n<=maxLen):Ints W (.slice (some ⟨b,0,none⟩) n n) xs:=
 ⟨_,n,by rw[hn],by omega,hm,(λh=>by cases h),λ_=>⟨b,0,rfl,gsl h,λj hj=>by
  rw[Nat.zero_add,cell_of_row W b j _ e (0,0) h]
  simp[hj]⟩⟩
section
variable {W:World} {X:Nat} {v0 v1 v2 v3 v4 v5:Value} {t:TypeId}
theorem xc6 (h:W.heap[X]? =some (Obj.cells #[v0,v1,v2,v3,v4,v5] t)):W.cell? ⟨X,0,none⟩=some v0/\W.cell? ⟨X,1,none⟩=some v1/\W.cell? ⟨X,2,none⟩=some v2/\W.cell? ⟨X,3,none⟩=some v3/\W.cell? ⟨X,4,none⟩=some v4/\W.cell? ⟨X,5,none⟩=some v5:=⟨cell_of_row W X 0 _ _ _ h,cell_of_row W X 1 _ _ _ h,cell_of_row W X 2 _ _ _ h,cell_of_row W X 3 _ _ _ h,cell_of_row W X 4 _ _ _ h,cell_of_row W X 5 _ _ _ h⟩
theorem xc4 (h:W.heap[X]? =some (Obj.cells #[v0,v1,v2,v3] t)):W.cell? ⟨X,0,none⟩=some v0/\W.cell? ⟨X,1,none⟩=some v1/\W.cell? ⟨X,2,none⟩=some v2/\W.cell? ⟨X,3,none⟩=some v3:=⟨cell_of_row W X 0 _ _ _ h,cell_of_row W X 1 _ _ _ h,cell_of_row W X 2 _ _ _ h,cell_of_row W X 3 _ _ _ h⟩
end
theorem xfrz {W:World} {B:Nat} {cs:Array Value} {t:TypeId} (h:W.heap[B]? =some (.cells cs t)) (i:Nat):W.frozen? ⟨B,i,none⟩=false:=by simp[World.frozen?,h]
theorem xset {W:World} {B:Nat} {cs:Array Value} {t:TypeId} (h:W.heap[B]? =some (.cells cs t)) (i:Nat) (v:Value):(W.setCell ⟨B,i,none⟩ v).heap[B]? =some (.cells (cs.setIfInBounds i v) t):=by
 simp only[World.setCell,Array.getElem?_modify,h];simp
theorem IsProg.six {w:World} {v:Value} {p:Prog} (h:IsProg w v p):∃A0 c0 A1 c1 A5 c5,v= .agg #[.slice A0 p.ros.length c0,.slice A1 p.rub.length c1,.int .i64 p.start,.int .i64 p.throw,.int .i64 p.adv,.slice A5 p.shifts.length c5]:=by
 obtain⟨v0,v1,v5,rfl,⟨A0,c0,rfl,_⟩,⟨A1,c1,rfl,_⟩,⟨A5,c5,rfl,_⟩⟩:=h;exact⟨A0,c0,A1,c1,A5,c5,rfl⟩
theorem qHP {w W:World} {X b:Nat} {D0 D1 D5:Option Addr} {e0 e1 e5:Nat} {t e:TypeId} (x:Int) (hlt:w.heap.size<=X) (hw:IsProg w (.agg #[.slice D0 6 e0,.slice D1 1 e1,.int .i64 100,.int .i64 2,.int .i64 10,.slice D5 1 e5]) qAG) (hb:Below w.heap.size w W)
  (hk:W.heap[X]? =some (.cells #[.slice D0 6 e0,.slice D1 1 e1,.int .i64 100,.int .i64 2,.int .i64 10,.slice D5 1 e5] t)) (hx:W.heap[b]? =some (.cells #[.int .i64 x] e)) (hne:b≠X):
  ∃V,W.setCell ⟨X,5,none⟩ (.slice (some ⟨b,0,none⟩) 1 1)=V/\Below w.heap.size w V/\V.heap[X]? =some (.cells #[.slice D0 6 e0,.slice D1 1 e1,.int .i64 100,.int .i64 2,.int .i64 10,.slice (some ⟨b,0,none⟩) 1 1] t)∧
   IsProg V (.agg #[.slice D0 6 e0,.slice D1 1 e1,.int .i64 100,.int .i64 2,.int .i64 10,.slice (some ⟨b,0,none⟩) 1 1]) {qAG with shifts:=[x]}:=by
 have c:Below w.heap.size w (W.setCell ⟨X,5,none⟩ (.slice (some ⟨b,0,none⟩) 1 1)):=Below.setCell hb (p:=⟨X,5,none⟩) hlt _;have g:=hw.below c;obtain⟨v0,v1,v5,e1,d,f,h⟩:=g;injection e1 with e1;simp only[Array.mk.injEq,List.cons.injEq,and_true]at e1;obtain⟨rfl,rfl,-,-,-,rfl⟩:=e1;exact⟨_,rfl,c,xset hk 5 _,_,_,_,rfl,d,f,qCP [x] 1 rfl ((Below.heap_setCell _ ⟨X,5,none⟩ _ b hne).trans hx) (by decide)⟩
def qC0 (w:World) (e:Ending) (w':World):Prop:=e= .returned (.bool true)/\Below w.heap.size w w'
def lfX:Code->Code
 | .seq a _=>a
 | c=>c
def rtX:Code->Code
 | .seq _ b=>b
 | c=>c
theorem qD6 (W:World):Calls Tryz.prog 5 #[] W λe w'=>∃A0 c0 A1 c1 A5 c5,e= .returned (.agg #[.slice A0 6 c0,.slice A1 1 c1,.int .i64 100,.int .i64 2,.int .i64 10,.slice A5 1 c5])/\Below W.heap.size W w'/\IsProg w' (.agg #[.slice A0 6 c0,.slice A1 1 c1,.int .i64 100,.int .i64 2,.int .i64 10,.slice A5 1 c5]) qAG:=
 (qDc W).mono λe w' ⟨v,h1,h2,h3⟩=>by
  obtain⟨A0,c0,A1,c1,A5,c5,rfl⟩:=IsProg.six h3;exact⟨A0,c0,A1,c1,A5,c5,h1,h2,h3⟩
theorem qI0 (xs:List Int) (vs:Value) (W:World) (hs:Ints W vs xs):Calls Tryz.prog 9 #[vs] W λe w'=>∃v,e= .returned v/\Below W.heap.size W w'/\IsProg w' v ⟨[0,1,2,1],[0],0,1,0,xs⟩:=by
 have b:=Lib.hid hs;obtain⟨A,c,rfl,_,_,_,_⟩:=hs;go_enter Tryz.func9,Tryz.ntmps9;go_wp2;refine bodyPost_ret (v:= .agg #[.slice (some ⟨W.heap.size+1,0,none⟩) 4 4,.slice (some ⟨W.heap.size+1+1,0,none⟩) 1 1,.int .i64 0,.int .i64 1,.int .i64 0,.slice A xs.length c]) (by simp[results,Tryz.results9,go_sem]) rfl ?_;refine⟨_,rfl,alc3 _ _ _ _,_,_,_,rfl,?_,?_,?_⟩
 ·exact(lit1 (W.alloc _) [0,1,2,1] 3 (W.heap.size+1) (by simp) (by simp[maxLen])).below (alc1 _ _)
 ·exact lit1 ((W.alloc _).alloc _) [0] 3 (W.heap.size+1+1) (by simp) (by simp[maxLen])
 ·exact b.out.below (alc3 _ _ _ _)
theorem qM8 (v:Value) (j E:Int) (W:World) (h:IsProg W v qAG) (hE:cutE qAG j=E):Calls Tryz.prog 4 #[v,.int .i64 j] W λe w'=>∃A n c,e= .returned (.tuple #[.slice A n c,.int .i64 E])/\Below W.heap.size W w'/\Ints w' (.slice A n c) (onOk E (cutL qAG j)):=
 (qGm v qAG j W h E hE).mono λe w' ⟨v',h1,h2,h3⟩=>by
  have hi:=qCR h3;obtain⟨A,c,rfl,-⟩:=id hi;exact⟨A,_,c,h1,h2,hi⟩
theorem qJX (v:Value) (l:List Int) (n E:Int) (xs:List Int) (W:World) (h:Ints W v l) (hE:fitE l n=E) (hx:fitL l n=xs):Calls Tryz.prog 13 #[v,.int .i64 n] W λe w'=>∃A n c,e= .returned (.tuple #[.slice A n c,.int .i64 E])/\Below W.heap.size W w'/\Ints w' (.slice A n c) xs:=by
 subst hE hx
 exact(qKm v l n W h).mono λe w' ⟨i,d,f,g⟩=>by
  have b:=qCR g;obtain⟨A,c,rfl,-⟩:=id b;exact⟨A,_,c,d,f,b⟩
theorem qN0 (ps:List Int) (num den:Int) (v:Value) (w:World) (hv:Ints w v ps):Calls Tryz.prog 14 #[v,.int .i64 num,.int .i64 den] w (IdxPost ps num den w):=by
 by_cases h:idxE ps num den=0
 ·exact qHL ps num den v w hv h
 ·exact qG3 ps num den v w hv h
theorem qJY (v:Value) (ps:List Int) (n d i k E:Int) (res:Except Int Rat) (W:World) (h:Ints W v ps) (hE:idxE ps n d=E) (hV:idxV ps n d=(i,k,res)):Calls Tryz.prog 14 #[v,.int .i64 n,.int .i64 d] W λe w'=>Le W w'/\∃v,e= .returned (.tuple #[.int .i64 i,.int .i64 k,v,.int .i64 E])/\IsRes (λ_=>True) w' v E res:=by
 have:=qN0 ps n d v W h;unfold IdxPost at this
 rwa[hE,hV]at this
theorem qJZ (v:Value) (p:Prog) (E:Int) (W:World) (h:IsProg W v p) (hE:qAJ p=E):Calls Tryz.prog 20 #[v] W λe w'=>e= .returned (.int .i64 E)/\Below W.heap.size W w':=qCz v p W h E hE
noncomputable def px29:Code:=(qAa 29 ((Tryz.f3).body.getD .skip)).getD 0 .skip
theorem qPD (w W:World) (hbw:Below w.heap.size w W) (t:Array Value) (ht:∃u:Nat->Value,t=#[u 0,(u 1),(u 2),(u 3),(u 4),(u 5),(u 6),(u 7),(u 8),(u 9),(u 10),(u 11),(u 12),(u 13),.bool true,(u 15),(u 16),(u 17),(u 18),.bool true,(u 20),(u 21),(u 22),(u 23),(u 24),(u 25),(u 26),(u 27),(u 28),.bool true,(u 30),.bool true,(u 32),(u 33),(u 34),(u 35),(u 36),(u 37),(u 38),(u 39),(u 40),(u 41),(u 42),(u 43),(u 44),(u 45),(u 46),(u 47),(u 48),(u 49),(u 50),(u 51),(u 52),(u 53),(u 54),(u 55),(u 56),(u 57),(u 58),(u 59),(u 60),(u 61),(u 62),(u 63),(u 64),(u 65),(u 66),(u 67),(u 68),(u 69),(u 70),(u 71),(u 72),(u 73),(u 74),(u 75),(u 76),(u 77),(u 78),(u 79),(u 80),(u 81),(u 82),(u 83),(u 84),(u 85),(u 86),(u 87),(u 88),(u 89),(u 90),(u 91),(u 92),(u 93),(u 94),(u 95),(u 96),(u 97),(u 98),(u 99),(u 100),(u 101),(u 102),(u 103),(u 104),(u 105),(u 106),(u 107),(u 108),(u 109),(u 110),(u 111),(u 112),(u 113),(u 114),(u 115),(u 116),(u 117),(u 118),(u 119),(u 120),(u 121),(u 122),(u 123),(u 124),(u 125),(u 126),(u 127),(u 128),(u 129),(u 130),(u 131),(u 132),(u 133),(u 134),(u 135),(u 136),(u 137),(u 138),(u 139),(u 140),(u 141),(u 142),(u 143),(u 144),(u 145),(u 146),(u 147),(u 148),(u 149),(u 150),(u 151),(u 152),(u 153),(u 154),(u 155),(u 156),(u 157),(u 158),(u 159),(u 160),(u 161),(u 162),(u 163),(u 164),(u 165),(u 166),(u 167),(u 168),(u 169),(u 170),(u 171),(u 172),(u 173),(u 174),(u 175),(u 176),(u 177),(u 178),(u 179),(u 180),(u 181),(u 182),(u 183),(u 184),(u 185),(u 186),(u 187),(u 188),(u 189),(u 190),(u 191),(u 192),(u 193),(u 194),(u 195),(u 196),(u 197),(u 198),(u 199),(u 200),(u 201),(u 202),(u 203),(u 204),(u 205),(u 206),(u 207),(u 208),(u 209),(u 210),(u 211),(u 212),(u 213),(u 214),(u 215),(u 216),(u 217),(u 218),(u 219),(u 220),(u 221),(u 222),(u 223),(u 224),(u 225),(u 226),(u 227),(u 228),(u 229),(u 230),(u 231),(u 232),(u 233),(u 234),(u 235),(u 236),(u 237),(u 238),(u 239),(u 240),(u 241),(u 242),(u 243),(u 244),(u 245),(u 246),(u 247),(u 248),(u 249),(u 250),(u 251),(u 252),(u 253),(u 254),(u 255),(u 256),(u 257),(u 258),(u 259),(u 260),(u 261),(u 262),(u 263),(u 264),(u 265),(u 266),(u 267),(u 268),(u 269),(u 270),(u 271),(u 272),(u 273),(u 274),(u 275),(u 276),(u 277),(u 278),(u 279),(u 280),(u 281),(u 282),(u 283),(u 284),(u 285),(u 286),(u 287),(u 288),(u 289),(u 290),(u 291),(u 292),(u 293),(u 294),(u 295),(u 296),(u 297),(u 298),(u 299),(u 300),(u 301),(u 302),(u 303),(u 304),(u 305),(u 306),(u 307),(u 308),(u 309),(u 310),(u 311),(u 312),(u 313),(u 314),(u 315),(u 316),(u 317),(u 318),(u 319),(u 320),(u 321),(u 322),(u 323),(u 324),(u 325),(u 326),(u 327),(u 328),(u 329),(u 330),(u 331),(u 332),(u 333),(u 334),(u 335),(u 336),(u 337),(u 338),(u 339),(u 340),(u 341),(u 342),(u 343),(u 344),(u 345),(u 346),(u 347),(u 348),(u 349),(u 350),(u 351),(u 352),(u 353),(u 354),(u 355),(u 356),(u 357),(u 358),(u 359),(u 360),(u 361),(u 362),(u 363),(u 364),(u 365),(u 366),(u 367),(u 368),(u 369),(u 370),(u 371),(u 372),(u 373)]):
  ∀K:Act->World->Prop,(∀a w1,(rtX px29).wp Tryz.prog (bodyPost Tryz.prog Tryz.f3 (qC0 w)) a w1->K a w1)->(lfX px29).wp Tryz.prog (Exit.then K (bodyPost Tryz.prog Tryz.f3 (qC0 w))) {tmps:=t,defers:=[]} W:=by
 intro K hK;obtain⟨u,rfl⟩:=ht
 conv=>arg 2;whnf
 have aS:=qD6 W;have⟨aH,aT⟩:=hyd2 hbw aS;clear aS hbw;go_wp2_with (fail);go_at_call 5;refine aT.out.mono ?_;rintro e W1 ⟨D0,e0,D1,e1,D5,e5,rfl,ay,a4⟩;obtain⟨W2,bm,az,k2⟩:=xnew W1 (.cells #[.slice D0 6 e0,.slice D1 1 e1,.int .i64 100,.int .i64 2,.int .i64 10,.slice D5 1 e5] 27);obtain⟨W3,bn,T,k3⟩:=xnew W2 (.cells #[.int .i64 6] 3);have v:=xT az T;have I:=xblk T k2;have cn:=gsl k2;obtain⟨W4,bo,a0,k4,aI⟩:=qHP 6 (Nat.le_refl _) a4 v I k3 (by omega);have f5:=xfrz I 5;obtain⟨c0,c1,c2,c3,c4,c5⟩:=xc6 I;have ag:=xT ay a0;have ap:=qD6 W4;have⟨bE,bL,bF,co,bG,cp,bt,bP⟩:=hyd8 ay a4 az k2 T k3 v I;have⟨bH,b6,aJ,au,a9⟩:=hyd5 a0 k4 aI ag ap;clear ap ag aI k4 a0 I v k3 T k2 az a4 ay;go_wp2_with (fail)
 conv=>arg 2;whnf
 go_wp2_with (fail);clear bm bn bo f5 c0 c1 c2 c3 c4 c5;go_at_call 5;refine a9.out.mono ?_;rintro e W5 ⟨F0,g0,F1,g1,F5,g5,rfl,a3,a6⟩;have kc:=qM8 _ 5001 2 W5 a6 qOg;have ah:=xT au.out a3;have⟨aD,bM,b9,av⟩:=hyd4 a3 a6 kc ah;clear ah kc a6 a3;go_wp2_with (fail);go_at_call 4;refine b9.out.mono ?_;rintro e W6 ⟨A6,n6,c6,rfl,ac,-⟩;obtain⟨W7,bp,ad,k7⟩:=xnew W6 (.cells #[.int .i64 1] 3);have kf:=qJX _ [1] 6 2 [] W7 (qCP [1] 1 rfl k7 (by decide)) qOy qOW;have ai:=xT av.out (xT ac ad);have ak:=xT aD.out (xT ac ad);have⟨bI,bJ,cq,bA,aw,a1⟩:=hyd6 ac ad k7 kf ai ak;clear ak ai kf k7 ad ac;go_wp2_with (fail);clear bp;go_at_call 13;refine bA.out.mono ?_;rintro e W8 ⟨A8,n8,c8,rfl,ae,-⟩;have aj:=xT aw.out ae;have al:=xT a1.out ae;have aq:=qD6 W8;have⟨bK,ax,a2,aA⟩:=hyd4 ae aj al aq;clear aq al aj ae;go_wp2_with (fail);go_at_call 5;refine aA.out.mono ?_;rintro e W9 ⟨P0,q0,P1,q1,P5,q5,rfl,aE,aK⟩;have ar:=qD6 W9;have⟨am,aL,aB⟩:=hyd3 aE aK ar;clear ar aK aE;go_wp2_with (fail);go_at_call 5;refine aB.out.mono ?_;rintro e aX ⟨R0,r0,R1,r1,R5,r5,rfl,d,F⟩;have ks:=qE4 _ _ qAG qAG 4 aX (aL.out.below d) F 2 qOv;have l:=xT ax.out (xT am.out d);have z:=xT a2.out (xT am.out d);have⟨bq,b1,bD,L,U⟩:=hyd5 d F ks l z
 clear z l ks F d;go_wp2_with (fail);go_at_call 12;refine bD.out.mono ?_;rintro e aY ⟨rfl,g⟩;have m:=xT L.out g;have A:=xT U.out g;have J:=qD6 aY;have⟨br,M,V,af⟩:=hyd4 g m A J;clear J A m g;go_wp2_with (fail);go_at_call 5;refine af.out.mono ?_;rintro e aZ ⟨S0,s0,S1,s1,S5,s5,rfl,h,G⟩;obtain⟨ba,aC,b,a7⟩:=xnew aZ (.cells #[.int .i64 2] 3);have kb:=qI0 [2] _ ba (qCP [2] 1 rfl a7 (by decide));have an:=G.below b;have n:=xT M.out (xT h b);have B:=xT V.out (xT h b);have⟨bs,b2,aU,bN,b8,a5,N,Y⟩:=hyd8 h G b a7 kb an n B;clear B n an kb a7 b G h;go_wp2_with (fail);clear aC;go_at_call 9;refine b8.out.mono ?_;rintro e bb ⟨cr,rfl,f,H⟩;have km:=qF5 _ _ qAG qCe bb (a5.out.below f) H 2 qOr;have o:=xT N.out f;have C:=xT Y.out f;have⟨bu,b3,bC,O,Z⟩:=hyd5 f H km o C;clear C o km H f;go_wp2_with (fail);go_at_call 11;refine bC.out.mono ?_;rintro e bc ⟨rfl,i⟩;have p:=xT O.out i;have D:=xT Z.out i;have ki:=qJY (.slice none 0 0) [] 0 1 0 0 2 (.error 2) bc (Arr.nil _ _) qPB qOX;have⟨bv,P,aa,bB⟩:=hyd4 i p D ki;clear ki D p i;go_wp2_with (fail);go_at_call 14;refine bB.out.mono ?_
 rintro e bd ⟨j,cs,rfl,ao⟩;have q:=xT P.out j;have E:=xT aa.out j;have aM:=qMz bd;have⟨bw,b4,Q,ab,aN⟩:=hyd5 j ao q E aM;clear aM E q ao j;go_wp2_with (fail);go_at_call 19;refine aN.out.mono ?_;rintro e be ⟨rfl,k⟩;have r:=xT Q.out k;have c:=xT ab.out k;have a8:=xblk c b6.out;obtain⟨c0,c1,c2,c3,c4,c5⟩:=xc6 a8;have aQ:=qJZ _ qKM 40 be (aJ.out.below c) qOc;have⟨bx,R,aV,bO,aR⟩:=hyd5 k r c a8 aQ;clear aQ a8 c r k;go_wp2_with (fail);clear c0 c1 c2 c3 c4 c5;go_at_call 20;refine aR.out.mono ?_;rintro e bf ⟨rfl,x⟩;have s:=xT R.out x;have aO:=qJZ (.agg #[.slice none 0 0,.slice none 0 0,.int .i64 0,.int .i64 0,.int .i64 0,.slice none 0 0]) qM5 30 bf ⟨_,_,_,rfl,Arr.nil _ _,Arr.nil _ _,Arr.nil _ _⟩ qOd;have⟨bz,S,aP⟩:=hyd3 x s aO;clear aO s x;go_wp2_with (fail);go_at_call 20;refine aP.out.mono ?_;rintro e cb ⟨rfl,y⟩;have aF:=xT S.out y;have⟨b0,aG⟩:=hyd2 y aF;clear aF y;go_wp2;go_ret;exact⟨rfl,xT aH.out aG.out⟩
end Go.Proofs.YtbcbcdgbliheoaaGreat

/- The law PatternExamples. -/
import Derived.Test.YtbcbcdgbliheoaaGreatPk53
namespace Go.Proofs.YtbcbcdgbliheoaaGreat
set_option maxRecDepth 100000
set_option maxHeartbeats 4000000
open Go.RowKit Go.Shelf
set_option linter.unusedVariables false
set_option linter.unusedSimpArgs false
def MPred.flm:MPred:=⟨λv w=>∃A0 c0 A1 c1 A5 c5,v= .agg #[.slice A0 6 c0,.slice A1 1 c1,.int .i64 100,.int .i64 2,.int .i64 10,.slice A5 1 c5]/\IsProg w (.agg #[.slice A0 6 c0,.slice A1 1 c1,.int .i64 100,.int .i64 2,.int .i64 10,.slice A5 1 c5]) qAG,λ_ _ _ hb ⟨A0,c0,A1,c1,A5,c5,e,h⟩=>⟨A0,c0,A1,c1,A5,c5,e,h.below hb⟩⟩
def qM9:WRel:=⟨λ_ _=>True,λ_=>trivial,λ_ _=>trivial,λ_=>trivial⟩
def qHe:Array Value:=#[.int .i64 0,.int .i64 0,.bool false,.bool false]
def GMov (V1:World) (t:TypeId) (C:Array Value):JRel:=λD x W=>Le V1 W/\((D 7=true->D 4=true)/\(D 4=true->D 3=true)/\(D 3=true->D 2=true)/\(D 2=true->D 0=true))/\(D 0=true->D 7=false->IsProg W (x 0) qAG)∧
 (D 7=true->D 6=true)/\(D 6=true->∃k,x 6= .pointer (some ⟨k,0,none⟩)/\V1.heap.size<=k/\((D 7=false/\W.heap[k]? =some (.cells qHe t))∨(D 7=true/\W.heap[k]? =some (.cells C t))))
section
variable {V1:World} {t:TypeId} {C:Array Value} {D:Nat->Bool} {x:Nat->Value} {W W':World} {v:Value}
theorem qDx {D:Nat->Bool} {i j:Nat} (h:j≠i):updB D i j=D j:=by unfold updB;rw[if_neg h]
theorem qKN {x:Nat->Value} {i j:Nat} {v:Value} (h:j≠i):updV x i v j=x j:=by unfold updV;rw[if_neg h]
theorem qAj {D:Nat->Bool} {i j:Nat} (h:D j=true):updB D i j=true:=by unfold updB;split<;>first |rfl|exact h
theorem GMov.start (V1:World) (t:TypeId) (C:Array Value):∀D x,(∀j,j<9->D j=false)->GMov V1 t C D x {V1 with drawn:=V1.drawn+1}:=λD x h=>
 ⟨Le.drew,⟨λk=>(by rw[h 7 (by decide)]at k;cases k),λk=>(by rw[h 4 (by decide)]at k;cases k),λk=>(by rw[h 3 (by decide)]at k;cases k),λk=>(by rw[h 2 (by decide)]at k;cases k)⟩,λk=>(by rw[h 0 (by decide)]at k;cases k),λk=>(by rw[h 7 (by decide)]at k;cases k),λk=>(by rw[h 6 (by decide)]at k;cases k)⟩
theorem GMov.keep {i:Nat} (h:GMov V1 t C D x W) (hi:i≠0/\i≠6/\i≠7) (g4:i=4->D 3=true) (g3:i=3->D 2=true) (g2:i=2->D 0=true) (hle:Le W W'):GMov V1 t C (updB D i) (updV x i v) W':=by
 obtain⟨a,⟨p,q,r,s⟩,c,d,e⟩:=h;have f:updB D i 7=D 7:=qDx (Ne.symm hi.2.2);have o:updB D i 6=D 6:=qDx (Ne.symm hi.2.1);have B:updB D i 0=D 0:=qDx (Ne.symm hi.1);have F:updV x i v 6=x 6:=qKN (Ne.symm hi.2.1);have E:updV x i v 0=x 0:=qKN (Ne.symm hi.1);refine⟨a.trans hle,⟨λk=>?_,λk=>?_,λk=>?_,λk=>?_⟩,λm n=>?_,λk=>?_,λk=>?_⟩
 ·rw[f]at k;exact qAj (p k)
 ·by_cases l:i=4
  ·exact qAj (g4 l)
  ·rw[qDx (Ne.symm l)]at k;exact qAj (q k)
 ·by_cases j:i=3
  ·exact qAj (g3 j)
  ·rw[qDx (Ne.symm j)]at k;exact qAj (r k)
 ·by_cases g:i=2
  ·exact qAj (g2 g)
  ·rw[qDx (Ne.symm g)]at k;exact qAj (s k)
 ·rw[B]at m;rw[f]at n;rw[E];exact(c m n).below hle
 ·rw[f]at k;rw[o];exact d k
 ·rw[o]at k;rw[F,f];obtain⟨b,y,z,A⟩:=e k;exact⟨b,y,z,A.imp (λh=>⟨h.1,xblk hle h.2⟩) (λh=>⟨h.1,xblk hle h.2⟩)⟩
theorem GMov.flames (h:GMov V1 t C D x W) (hD:D 0=false) (hle:Le W W') (hp:IsProg W' v qAG):GMov V1 t C (updB D 0) (updV x 0 v) W':=by
 obtain⟨a,⟨f,g,i,n⟩,c,d,e⟩:=h;refine⟨a.trans hle,⟨λk=>qAj (f k),λk=>qAj (g k),λk=>qAj (i k),λ_=>rfl⟩,λ_ _=>hp,λk=>d k,λk=>?_⟩;obtain⟨b,j,l,m⟩:=e k;exact⟨b,j,l,m.imp (λh=>⟨h.1,xblk hle h.2⟩) (λh=>⟨h.1,xblk hle h.2⟩)⟩
theorem GMov.prog (h:GMov V1 t C D x W) (hD:D 2=false) (h0:D 0=true):IsProg W (x 0) qAG:=by
 obtain⟨a,⟨b,f,g,i⟩,c,d,e⟩:=h;refine c h0 ?_
 cases e7:D 7 with
 | false=>rfl
 | true=>have:=g (f (b e7));rw[hD]at this;cases this
theorem GMov.make (h:GMov V1 t C D x W) (hD:D 6=false):GMov V1 t C (updB D 6) (updV x 6 (.pointer (some ⟨W.heap.size,0,none⟩))) (W.alloc (.cells qHe t)):=by
 obtain⟨a,⟨g,i,j,l⟩,c,d,e⟩:=h
 have f:D 7=false:=by
  cases f:D 7 with
  | false=>rfl
  | true=>have:=d f;rw[hD]at this;cases this
 have b:=qAA W (.cells qHe t);exact⟨a.trans b,⟨λk=>qAj (g k),λk=>qAj (i k),λk=>qAj (j k),λk=>qAj (l k)⟩,λm n=>(c m n).below b,λk=>qAj (d k),λ_=>⟨W.heap.size,rfl,a.size,.inl ⟨f,qAk _ _⟩⟩⟩
theorem GMov.ready (h:GMov V1 t C D x W) (h6:D 6=true) (h7:D 7=false):∃k,x 6= .pointer (some ⟨k,0,none⟩)/\V1.heap.size<=k/\W.heap[k]? =some (.cells #[.int .i64 0,.int .i64 0,.bool false,.bool false] t):=by
 obtain⟨a,b,c,d,e⟩:=h;obtain⟨k,g,i,f|f⟩:=e h6
 ·exact⟨k,g,i,f.2⟩
 ·rw[h7]at f;cases f.1
theorem GMov.put {u0 u1 u2 u3:Value} {k:Nat} (h:GMov V1 t #[u0,u1,u2,u3] D x W) (h4:D 4=true) (h6:D 6=true) (hx:x 6= .pointer (some ⟨k,0,none⟩)) (hk:V1.heap.size<=k) (hz:W.heap[k]? =some (.cells #[.int .i64 0,.int .i64 0,.bool false,.bool false] t)):
  GMov V1 t #[u0,u1,u2,u3] (updB D 7) (updV x 7 v) ((((W.setCell ⟨k,0,none⟩ u0).setCell ⟨k,1,none⟩ u1).setCell ⟨k,2,none⟩ u2).setCell ⟨k,3,none⟩ u3):=by
 obtain⟨a,⟨l,f,g,i⟩,c,d,e⟩:=h;have b:=(((Below.setCell a (p:=⟨k,0,none⟩) hk u0).setCell (p:=⟨k,1,none⟩) hk u1).setCell (p:=⟨k,2,none⟩) hk u2).setCell (p:=⟨k,3,none⟩) hk u3;exact⟨b,⟨λ_=>qAj h4,λk=>qAj (f k),λk=>qAj (g k),λk=>qAj (i k)⟩,λ_ j=>(by cases j),λ_=>qAj h6,λ_=>⟨k,hx,hk,.inr ⟨rfl,xset (xset (xset (xset hz 0 u0) 1 u1) 2 u2) 3 u3⟩⟩⟩
theorem GMov.full (h:GMov V1 t C D x W) (h6:D 6=true) (h7:D 7=true):∃k,x 6= .pointer (some ⟨k,0,none⟩)/\V1.heap.size<=k/\W.heap[k]? =some (.cells C t):=by
 obtain⟨a,b,c,d,e⟩:=h;obtain⟨k,g,i,f|f⟩:=e h6
 ·rw[h7]at f;cases f.1
 ·exact⟨k,g,i,f.2⟩
end
theorem qN1 (v v':Value) (W:World) (h:IsProg W v qAG) (h2:IsProg W v' qAm):Calls Tryz.prog 11 #[v,v'] W λe w'=>e= .returned (.tuple #[.int .i64 3,.int .i64 3,.int .i64 0])/\Below W.heap.size W w':=by
 have k:=qF5 v v' qAG qAm W h h2 0 qOn
 rwa[qOo,qOq]at k
theorem qKO (v v':Value) (how:Nat) (m:Mv) (W:World) (h:IsProg W v qAG) (h2:IsProg W v' qAm) (hE:qC5 qAG qAm how=0) (hm:qCl qAG qAm how=m):Calls Tryz.prog 12 #[v,v',.int .u8 how] W λe w'=>e= .returned (.tuple #[.agg #[.int .i64 m.cuts,.int .i64 m.turn,.bool m.mirror,.bool m.back],.int .i64 0])/\Below W.heap.size W w':=by
 subst hm;exact qE4 v v' qAG qAm how W h h2 0 hE
theorem qN2 (v v':Value) (W:World) (h:IsProg W v qAG) (h2:IsProg W v' qAm):Calls Tryz.prog 12 #[v,v',.int .u8 0] W λe w'=>e= .returned (.tuple #[(qCl qAG qAm 0).val,.int .i64 6])/\Below W.heap.size W w':=qE4 v v' qAG qAm 0 W h h2 6 qOu
noncomputable def px10:Code:=(qAa 10 ((Tryz.f3).body.getD .skip)).getD 0 .skip
theorem qPI (w W:World) (D0 D1:Option Addr) (e0 e1 bS b15:Nat) (t1:TypeId) (hbw:Below w.heap.size w W) (kb:W.heap[b15]? =some (.cells #[.slice D0 6 e0,.slice D1 1 e1,.int .i64 100,.int .i64 2,.int .i64 10,.slice (some ⟨bS,0,none⟩) 1 1] t1))
  (hq:IsProg W (.agg #[.slice D0 6 e0,.slice D1 1 e1,.int .i64 100,.int .i64 2,.int .i64 10,.slice (some ⟨bS,0,none⟩) 1 1]) qAm) (t:Array Value) (ht:∃u:Nat->Value,t=#[u 0,(u 1),(u 2),(u 3),(u 4),(u 5),(u 6),(u 7),(u 8),(u 9),(u 10),(u 11),(u 12),(u 13),.bool true,.pointer (some ⟨b15,0,none⟩),(u 16),(u 17),(u 18),(u 19),(u 20),(u 21),(u 22),(u 23),(u 24),(u 25),(u 26),(u 27),(u 28),(u 29),(u 30),(u 31),(u 32),(u 33),(u 34),(u 35),(u 36),(u 37),(u 38),(u 39),(u 40),(u 41),(u 42),(u 43),(u 44),(u 45),(u 46),(u 47),(u 48),(u 49),(u 50),(u 51),(u 52),(u 53),(u 54),(u 55),(u 56),(u 57),(u 58),(u 59),(u 60),(u 61),(u 62),(u 63),(u 64),(u 65),(u 66),(u 67),(u 68),(u 69),(u 70),(u 71),(u 72),(u 73),(u 74),(u 75),(u 76),(u 77),(u 78),(u 79),(u 80),(u 81),(u 82),(u 83),(u 84),(u 85),(u 86),(u 87),(u 88),(u 89),(u 90),(u 91),(u 92),(u 93),(u 94),(u 95),(u 96),(u 97),(u 98),(u 99),(u 100),(u 101),(u 102),(u 103),(u 104),(u 105),(u 106),(u 107),(u 108),(u 109),(u 110),(u 111),(u 112),(u 113),(u 114),(u 115),(u 116),(u 117),(u 118),(u 119),(u 120),(u 121),(u 122),(u 123),(u 124),(u 125),(u 126),(u 127),(u 128),(u 129),(u 130),(u 131),(u 132),(u 133),(u 134),(u 135),(u 136),(u 137),(u 138),(u 139),(u 140),(u 141),(u 142),(u 143),(u 144),(u 145),(u 146),(u 147),(u 148),(u 149),(u 150),(u 151),(u 152),(u 153),(u 154),(u 155),(u 156),(u 157),(u 158),(u 159),(u 160),(u 161),(u 162),(u 163),(u 164),(u 165),(u 166),(u 167),(u 168),(u 169),(u 170),(u 171),(u 172),(u 173),(u 174),(u 175),(u 176),(u 177),(u 178),(u 179),(u 180),(u 181),(u 182),(u 183),(u 184),(u 185),(u 186),(u 187),(u 188),(u 189),(u 190),(u 191),(u 192),(u 193),(u 194),(u 195),(u 196),(u 197),(u 198),(u 199),(u 200),(u 201),(u 202),(u 203),(u 204),(u 205),(u 206),(u 207),(u 208),(u 209),(u 210),(u 211),(u 212),(u 213),(u 214),(u 215),(u 216),(u 217),(u 218),(u 219),(u 220),(u 221),(u 222),(u 223),(u 224),(u 225),(u 226),(u 227),(u 228),(u 229),(u 230),(u 231),(u 232),(u 233),(u 234),(u 235),(u 236),(u 237),(u 238),(u 239),(u 240),(u 241),(u 242),(u 243),(u 244),(u 245),(u 246),(u 247),(u 248),(u 249),(u 250),(u 251),(u 252),(u 253),(u 254),(u 255),(u 256),(u 257),(u 258),(u 259),(u 260),(u 261),(u 262),(u 263),(u 264),(u 265),(u 266),(u 267),(u 268),(u 269),(u 270),(u 271),(u 272),(u 273),(u 274),(u 275),(u 276),(u 277),(u 278),(u 279),(u 280),(u 281),(u 282),(u 283),(u 284),(u 285),(u 286),(u 287),(u 288),(u 289),(u 290),(u 291),(u 292),(u 293),(u 294),(u 295),(u 296),(u 297),(u 298),(u 299),(u 300),(u 301),(u 302),(u 303),(u 304),(u 305),(u 306),(u 307),(u 308),(u 309),(u 310),(u 311),(u 312),(u 313),(u 314),(u 315),(u 316),(u 317),(u 318),(u 319),(u 320),(u 321),(u 322),(u 323),(u 324),(u 325),(u 326),(u 327),(u 328),(u 329),(u 330),(u 331),(u 332),(u 333),(u 334),(u 335),(u 336),(u 337),(u 338),(u 339),(u 340),(u 341),(u 342),(u 343),(u 344),(u 345),(u 346),(u 347),(u 348),(u 349),(u 350),(u 351),(u 352),(u 353),(u 354),(u 355),(u 356),(u 357),(u 358),(u 359),(u 360),(u 361),(u 362),(u 363),(u 364),(u 365),(u 366),(u 367),(u 368),(u 369),(u 370),(u 371),(u 372),(u 373)]):
  ∀K:Act->World->Prop,(∀a w1,(rtX px10).wp Tryz.prog (bodyPost Tryz.prog Tryz.f3 (qC0 w)) a w1->K a w1)->(lfX px10).wp Tryz.prog (Exit.then K (bodyPost Tryz.prog Tryz.f3 (qC0 w))) {tmps:=t,defers:=[]} W:=by
 intro K hK;obtain⟨u,rfl⟩:=ht
 conv=>arg 2;whnf
 obtain⟨ag,L⟩:∃v,(qCl qAG qAm 0).val =v:=⟨_,rfl⟩;have af:=λv v' W h h2=>qN2 v v' W h h2;rw[L]at af;have⟨U,o,n,aK,a2⟩:=hyd5 hbw kb hq L af;clear af L hq kb hbw;refine qCM (R:=leRel) 9 [some 126,some 127,some 128,some 125,some 129,some 130,some 131,some 8,some 16,some 2] [[],[],[0,1],[2],[3],[3],[3],[4],[5],[6]]
  [MPred.flm,.eq (.agg #[.slice D0 6 e0,.slice D1 1 e1,.int .i64 100,.int .i64 2,.int .i64 10,.slice (some ⟨bS,0,none⟩) 1 1]),.eq (.tuple #[.int .i64 3,.int .i64 3,.int .i64 0]),.eq (.tuple #[.int .i64 3,.int .i64 3,.int .i64 0]),.eq (.int .i64 3),.eq (.int .i64 3),.eq (.int .i64 0),.eq (.int .i64 3),.eq (.int .i64 3)] (λ_ _=>False) (by kernel_rfl) (by kernel_rfl) (by kernel_rfl) (by kernel_rfl) (by kernel_rfl) ?_ (λ_ _ _ _ h=>h.elim) ?_
 ·simp only[List.take_succ_cons,List.take_zero];refine sMc rfl ?_ (sMc rfl ?_ (sMc rfl ?_ (sMc rfl ?_ (sMc rfl ?_ (sMc rfl ?_ (sMc rfl ?_ (sMc rfl ?_ (sMc rfl ?_ (qC9)))))))))
  ·intro i W g b Q hK m;simp only[fA]at hK ⊢;have N:=qD6 W;have G:=hyd1 N;clear N;go_wp2_with (fail);go_at_call 5;refine G.out.mono ?_;rintro e w' ⟨X0,x0,X1,x1,X5,x5,rfl,p,J⟩;have⟨l,H⟩:=hyd2 p J;clear J p;go_wp2;exact hK _ _ l.out ⟨_,_,_,_,_,_,rfl,H.out⟩
  ·intro i W g b Q hK m;obtain⟨O,P,c2,c3,c4,S⟩:=xc6 (xblk g o.out);simp only[fA]at hK ⊢;go_wp2;exact hK _ _ lrR rfl
  ·intro i W g b Q hK m;obtain⟨e0,e1,-⟩:=b;change _=_ at e1;replace e0:∃A0 O A1 P A5 S,(i 0)= .agg #[.slice A0 6 O,.slice A1 1 P,.int .i64 100,.int .i64 2,.int .i64 10,.slice A5 1 S]/\IsProg W (.agg #[.slice A0 6 O,.slice A1 1 P,.int .i64 100,.int .i64 2,.int .i64 10,.slice A5 1 S]) qAG:=e0;obtain⟨X0,x0,X1,x1,X5,x5,q9,B⟩:=e0;simp only[fA,e1,q9]at hK ⊢;have M:=qN1 _ _ W B (n.out.below g);have⟨F,ab⟩:=hyd2 M B;clear B M;go_wp2_with (fail);go_at_call 11;refine F.out.mono ?_;rintro e w' ⟨rfl,p⟩;have l:=hyd1 p;clear p;go_wp2;exact hK _ _ l.out rfl
  ·intro i W g b Q hK m;obtain⟨e0,-⟩:=b;change _=_ at e0;simp only[fA,e0]at hK ⊢;go_wp2;exact hK _ _ lrR rfl
  ·intro i W g b Q hK m;obtain⟨e0,-⟩:=b;change _=_ at e0;simp only[fA,e0]at hK ⊢;go_wp2;exact hK _ _ lrR rfl
  ·intro i W g b Q hK m;obtain⟨e0,-⟩:=b;change _=_ at e0;simp only[fA,e0]at hK ⊢;go_wp2;exact hK _ _ lrR rfl
  ·intro i W g b Q hK m;obtain⟨e0,-⟩:=b;change _=_ at e0;simp only[fA,e0]at hK ⊢;go_wp2;exact hK _ _ lrR rfl
  ·intro i W g b Q hK m;obtain⟨e0,-⟩:=b;change _=_ at e0;simp only[fA,e0]at hK ⊢;go_wp2;exact hK _ _ lrR rfl
  ·intro i W g b Q hK m;obtain⟨e0,-⟩:=b;change _=_ at e0;simp only[fA,e0]at hK ⊢;go_wp2;exact hK _ _ lrR rfl
 ·intro i W1 g b Q' q _;have f4:i 4= .int .i64 3:=b 4 (by decide);have T:i 5= .int .i64 3:=b 5 (by decide);have f6:i 6= .int .i64 0:=b 6 (by decide);have f7:i 7= .int .i64 3:=b 7 (by decide);have f8:i 8= .int .i64 3:=b 8 (by decide);simp only[List.drop_succ_cons,List.drop_zero];rw[show List.range 9=[0,1,2,3,4,5,6,7,8]from rfl];simp only[fA,f4,T,f6,f7,f8];clear b;have am:=xT U.out g;have a0:=xblk g o.out;have aH:=n.out.below g;clear o n U;have kb:=a0;have hq:=aH;have⟨o,n,an,aE⟩:=hyd4 kb hq am g;clear g am hq kb;go_wp2;refine q _ _ ?_;clear q;go_wp2
  conv=>arg 2;whnf
  go_wp2_with (fail);refine qDJ (R:=qM9) 8 [some 133,some 134,some 135,some 132,some 136,some 137,some 17,none,some 5] [[],[],[0,1],[2],[3],[3],[],[4,6],[5]]
   [MPredR.any,.eq (.agg #[.slice D0 6 e0,.slice D1 1 e1,.int .i64 100,.int .i64 2,.int .i64 10,.slice (some ⟨bS,0,none⟩) 1 1]),.eq (.tuple #[.agg #[.int .i64 0,.int .i64 0,.bool false,.bool true],.int .i64 0]),.eq (.tuple #[.agg #[.int .i64 0,.int .i64 0,.bool false,.bool true],.int .i64 0]),.eq (.agg #[.int .i64 0,.int .i64 0,.bool false,.bool true]),.eq (.int .i64 0),MPredR.any,MPredR.any] (GMov W1 39 #[.int .i64 0,.int .i64 0,.bool false,.bool true]) (λ_ _=>False) (by kernel_rfl) (by kernel_rfl) (by kernel_rfl) (by kernel_rfl) (by kernel_rfl) (GMov.start _ _ _) ?_ (λ_ _ _ _ h=>h.elim) ?_
  ·simp only[List.take_succ_cons,List.take_zero];refine sGc rfl ?_ (sGc rfl ?_ (sGc rfl ?_ (sGc rfl ?_ (sGc rfl ?_ (sGc rfl ?_ (sGc rfl ?_ (sGc rfl ?_ (qC9))))))))
   ·intro y i W k f g b c Q hK m;have N:=qD6 W;simp only[fA]at hK ⊢;have⟨d,G⟩:=hyd2 c N;clear N c;go_wp2_with (fail);go_at_call 5;refine G.out.mono ?_;rintro e w' ⟨X0,x0,X1,x1,X5,x5,rfl,p,J⟩;have⟨l,H⟩:=hyd2 p J;clear J p;go_wp2;exact hK _ _ trivial trivial (d.out.flames k l.out H.out)
   ·intro y i W k f g b c Q hK m;have r:=c.1;obtain⟨O,P,c2,c3,c4,S⟩:=xc6 (xblk r o.out);clear r;simp only[fA]at hK ⊢;have d:=hyd1 c;clear c;go_wp2;exact hK _ _ trivial rfl (d.out.keep (by decide) (λh=>by cases h) (λh=>by cases h) (λh=>by cases h) (Le.refl _))
   ·intro y i W k f g b c Q hK m;obtain⟨-,e1,-⟩:=b;change _=_ at e1;have B:=c.prog k (f 0 (by decide));have d0:=f 0 (by decide);have r:=c.1;have M:=qKO _ _ 3 _ W B (n.out.below r) qOs qOS;simp only[fA,e1]at hK ⊢;clear r;have⟨d,F,ab⟩:=hyd3 c M B;clear B M c;go_wp2_with (fail);go_at_call 12;refine F.out.mono ?_;rintro e w' ⟨rfl,p⟩;have l:=hyd1 p;clear p;go_wp2;exact hK _ _ trivial rfl (d.out.keep (by decide) (λh=>by cases h) (λh=>by cases h) (λ_=>d0) l.out)
   ·intro y i W k f g b c Q hK m;obtain⟨e0,-⟩:=b;change _=_ at e0;have d2:=f 2 (by decide);simp only[fA,e0]at hK ⊢;have d:=hyd1 c;clear c;go_wp2;exact hK _ _ trivial rfl (d.out.keep (by decide) (λh=>by cases h) (λ_=>d2) (λh=>by cases h) (Le.refl _))
   ·intro y i W k f g b c Q hK m;obtain⟨e0,-⟩:=b;change _=_ at e0;have d3:=f 3 (by decide);simp only[fA,e0]at hK ⊢;have d:=hyd1 c;clear c;go_wp2;exact hK _ _ trivial rfl (d.out.keep (by decide) (λ_=>d3) (λh=>by cases h) (λh=>by cases h) (Le.refl _))
   ·intro y i W k f g b c Q hK m;obtain⟨e0,-⟩:=b;change _=_ at e0;simp only[fA,e0]at hK ⊢;have d:=hyd1 c;clear c;go_wp2;exact hK _ _ trivial rfl (d.out.keep (by decide) (λh=>by cases h) (λh=>by cases h) (λh=>by cases h) (Le.refl _))
   ·intro y i W k f g b c Q hK m;simp only[fA]at hK ⊢;have d:=hyd1 c;clear c;go_wp2;exact hK _ _ trivial trivial (d.out.make k)
   ·intro y i W k f g b c Q hK m;obtain⟨e0,-,-⟩:=b;change _=_ at e0;have d4:=f 4 (by decide);have d6:=f 6 (by decide);obtain⟨aM,I,aa,j⟩:=c.ready d6 k;have A:=c.put (v:=undef) d4 d6 I aa j;simp only[fA,e0,I]at hK ⊢;obtain⟨z0,z1,z2,z3⟩:=xc4 j;have y0:=xfrz j 0;have p:=xfrz j 1;have J:=xfrz j 2;have y3:=xfrz j 3;clear I e0;have⟨E,d,aw⟩:=hyd3 A c j;clear j c A;go_wp2;exact hK undef _ trivial trivial E.out
  ·intro y i W2 k g b c Q' q _;have T:i 5= .int .i64 0:=b 5 (by decide);obtain⟨a0,I,aO,ax⟩:=c.full (k 6 (by decide)) (k 7 (by decide));have z:=c.1;simp only[List.drop_succ_cons,List.drop_zero];rw[show List.range 8=[0,1,2,3,4,5,6,7]from rfl];simp only[fA,T,I];clear I T b c k g;have ao:=xT an.out z;have a1:=xblk z o.out;have aI:=n.out.below z;clear o n;have kb:=a1;have hq:=aI;have⟨o,n,ap,aF,V⟩:=hyd5 kb hq ao z ax;clear ax z ao hq kb;go_wp2;refine q _ _ ?_;clear q;go_wp2;refine qDJ (R:=qM9) 8 [some 139,some 140,some 141,some 138,some 142,some 143,some 18,none,some 7] [[],[],[0,1],[2],[3],[3],[],[4,6],[5]]
    [MPredR.any,.eq (.agg #[.slice D0 6 e0,.slice D1 1 e1,.int .i64 100,.int .i64 2,.int .i64 10,.slice (some ⟨bS,0,none⟩) 1 1]),.eq (.tuple #[.agg #[.int .i64 0,.int .i64 2,.bool true,.bool false],.int .i64 0]),.eq (.tuple #[.agg #[.int .i64 0,.int .i64 2,.bool true,.bool false],.int .i64 0]),.eq (.agg #[.int .i64 0,.int .i64 2,.bool true,.bool false]),.eq (.int .i64 0),MPredR.any,MPredR.any] (GMov W2 39 #[.int .i64 0,.int .i64 2,.bool true,.bool false]) (λ_ _=>False) (by kernel_rfl) (by kernel_rfl) (by kernel_rfl) (by kernel_rfl) (by kernel_rfl) (GMov.start _ _ _) ?_ (λ_ _ _ _ h=>h.elim) ?_
   ·simp only[List.take_succ_cons,List.take_zero];refine sGc rfl ?_ (sGc rfl ?_ (sGc rfl ?_ (sGc rfl ?_ (sGc rfl ?_ (sGc rfl ?_ (sGc rfl ?_ (sGc rfl ?_ (qC9))))))))
    ·intro y i W k f g b c Q hK m;have N:=qD6 W;simp only[fA]at hK ⊢;have⟨d,G⟩:=hyd2 c N;clear N c;go_wp2_with (fail);go_at_call 5;refine G.out.mono ?_;rintro e w' ⟨X0,x0,X1,x1,X5,x5,rfl,p,J⟩;have⟨l,H⟩:=hyd2 p J;clear J p;go_wp2;exact hK _ _ trivial trivial (d.out.flames k l.out H.out)
    ·intro y i W k f g b c Q hK m;have r:=c.1;obtain⟨O,P,c2,c3,c4,S⟩:=xc6 (xblk r o.out);clear r;simp only[fA]at hK ⊢;have d:=hyd1 c;clear c;go_wp2;exact hK _ _ trivial rfl (d.out.keep (by decide) (λh=>by cases h) (λh=>by cases h) (λh=>by cases h) (Le.refl _))
    ·intro y i W k f g b c Q hK m;obtain⟨-,e1,-⟩:=b;change _=_ at e1;have B:=c.prog k (f 0 (by decide));have d0:=f 0 (by decide);have r:=c.1;have M:=qKO _ _ 1 _ W B (n.out.below r) qOt qOT;simp only[fA,e1]at hK ⊢;clear r;have⟨d,F,ab⟩:=hyd3 c M B;clear B M c;go_wp2_with (fail);go_at_call 12;refine F.out.mono ?_;rintro e w' ⟨rfl,p⟩;have l:=hyd1 p;clear p;go_wp2;exact hK _ _ trivial rfl (d.out.keep (by decide) (λh=>by cases h) (λh=>by cases h) (λ_=>d0) l.out)
    ·intro y i W k f g b c Q hK m;obtain⟨e0,-⟩:=b;change _=_ at e0;have d2:=f 2 (by decide);simp only[fA,e0]at hK ⊢;have d:=hyd1 c;clear c;go_wp2;exact hK _ _ trivial rfl (d.out.keep (by decide) (λh=>by cases h) (λ_=>d2) (λh=>by cases h) (Le.refl _))
    ·intro y i W k f g b c Q hK m;obtain⟨e0,-⟩:=b;change _=_ at e0;have d3:=f 3 (by decide);simp only[fA,e0]at hK ⊢;have d:=hyd1 c;clear c;go_wp2;exact hK _ _ trivial rfl (d.out.keep (by decide) (λ_=>d3) (λh=>by cases h) (λh=>by cases h) (Le.refl _))
    ·intro y i W k f g b c Q hK m;obtain⟨e0,-⟩:=b;change _=_ at e0;simp only[fA,e0]at hK ⊢;have d:=hyd1 c;clear c;go_wp2;exact hK _ _ trivial rfl (d.out.keep (by decide) (λh=>by cases h) (λh=>by cases h) (λh=>by cases h) (Le.refl _))
    ·intro y i W k f g b c Q hK m;simp only[fA]at hK ⊢;have d:=hyd1 c;clear c;go_wp2;exact hK _ _ trivial trivial (d.out.make k)
    ·intro y i W k f g b c Q hK m;obtain⟨e0,-,-⟩:=b;change _=_ at e0;have d4:=f 4 (by decide);have d6:=f 6 (by decide);obtain⟨aM,I,aa,j⟩:=c.ready d6 k;have A:=c.put (v:=undef) d4 d6 I aa j;simp only[fA,e0,I]at hK ⊢;obtain⟨z0,z1,z2,z3⟩:=xc4 j;have y0:=xfrz j 0;have p:=xfrz j 1;have J:=xfrz j 2;have y3:=xfrz j 3;clear I e0;have⟨E,d,aw⟩:=hyd3 A c j;clear j c A;go_wp2;exact hK undef _ trivial trivial E.out
   ·intro y i W3 k g b c Q' q _;have T:i 5= .int .i64 0:=b 5 (by decide);obtain⟨a1,I,aP,ay⟩:=c.full (k 6 (by decide)) (k 7 (by decide));have s:=c.1;simp only[List.drop_succ_cons,List.drop_zero];rw[show List.range 8=[0,1,2,3,4,5,6,7]from rfl];simp only[fA,T,I];clear I T b c k g;have aq:=xT ap.out s;have aL:=xblk s o.out;have aJ:=n.out.below s;have X:=xblk s V.out;clear o n V;have kb:=aL;have hq:=aJ;have⟨o,n,ar,aG,ac,az⟩:=hyd6 kb hq aq s X ay;clear ay X s aq hq kb;go_wp2;refine q _ _ ?_;clear q;go_wp2;refine qCM (R:=leRel) 6 [some 145,some 146,some 147,some 144,some 148,some 149,some 9] [[],[],[0,1],[2],[3],[3],[5]]
     [MPred.flm,.eq (.agg #[.slice D0 6 e0,.slice D1 1 e1,.int .i64 100,.int .i64 2,.int .i64 10,.slice (some ⟨bS,0,none⟩) 1 1]),.eq (.tuple #[ag,.int .i64 6]),.eq (.tuple #[ag,.int .i64 6]),.eq (ag),.eq (.int .i64 6)] (λ_ _=>False) (by kernel_rfl) (by kernel_rfl) (by kernel_rfl) (by kernel_rfl) (by kernel_rfl) ?_ (λ_ _ _ _ h=>h.elim) ?_
    ·simp only[List.take_succ_cons,List.take_zero];refine sMc rfl ?_ (sMc rfl ?_ (sMc rfl ?_ (sMc rfl ?_ (sMc rfl ?_ (sMc rfl ?_ (qC9))))))
     ·intro i W g b Q hK m;simp only[fA]at hK ⊢;have N:=qD6 W;have G:=hyd1 N;clear N;go_wp2_with (fail);go_at_call 5;refine G.out.mono ?_;rintro e w' ⟨X0,x0,X1,x1,X5,x5,rfl,p,J⟩;have⟨l,H⟩:=hyd2 p J;clear J p;go_wp2;exact hK _ _ l.out ⟨_,_,_,_,_,_,rfl,H.out⟩
     ·intro i W g b Q hK m;obtain⟨O,P,c2,c3,c4,S⟩:=xc6 (xblk g o.out);simp only[fA]at hK ⊢;go_wp2;exact hK _ _ lrR rfl
     ·intro i W g b Q hK m;obtain⟨e0,e1,-⟩:=b;change _=_ at e1;replace e0:∃A0 O A1 P A5 S,(i 0)= .agg #[.slice A0 6 O,.slice A1 1 P,.int .i64 100,.int .i64 2,.int .i64 10,.slice A5 1 S]/\IsProg W (.agg #[.slice A0 6 O,.slice A1 1 P,.int .i64 100,.int .i64 2,.int .i64 10,.slice A5 1 S]) qAG:=e0;obtain⟨X0,x0,X1,x1,X5,x5,q9,B⟩:=e0;simp only[fA,e1,q9]at hK ⊢;have M:=a2.out _ _ W B (n.out.below g);have⟨F,ab⟩:=hyd2 M B;clear B M;go_wp2_with (fail);go_at_call 12;refine F.out.mono ?_;rintro e w' ⟨rfl,p⟩;have l:=hyd1 p;clear p;go_wp2;exact hK _ _ l.out rfl
     ·intro i W g b Q hK m;obtain⟨e0,-⟩:=b;change _=_ at e0;simp only[fA,e0]at hK ⊢;go_wp2;exact hK _ _ lrR rfl
     ·intro i W g b Q hK m;obtain⟨e0,-⟩:=b;change _=_ at e0;simp only[fA,e0]at hK ⊢;go_wp2;exact hK _ _ lrR rfl
     ·intro i W g b Q hK m;obtain⟨e0,-⟩:=b;change _=_ at e0;simp only[fA,e0]at hK ⊢;go_wp2;exact hK _ _ lrR rfl
    ·intro i W4 g b Q' q _;have T:i 5= .int .i64 6:=b 5 (by decide);simp only[List.drop_succ_cons,List.drop_zero];rw[show List.range 6=[0,1,2,3,4,5]from rfl];simp only[fA,T];clear b;have au:=xT ar.out g;have Y:=xblk g ac.out;have Z:=xblk g az.out;have⟨av,ad,ae,aE⟩:=hyd4 au Y Z g;clear g Z Y au;go_wp2;refine q _ _ ?_;clear q;go_upto_region 14 with(fail);exact qPH w _ _ _ _ av.out ad.out ae.out _ (qAV _ _ (by kernel_rfl)) _ (by assumption)
theorem law_PatternExamples (w:World):Calls Tryz.prog 3 #[] w λe w'=>e= .returned (.bool true)/\Below w.heap.size w w':=by
 show Calls Tryz.prog 3 #[] w (qC0 w)
 have bd:=λW=>qD6 W
 have aj:∀v W,IsProg W v qAG->Calls Tryz.prog 4 #[v,.int .i64 0] W λe w'=>∃A n c,e= .returned (.tuple #[.slice A n c,.int .i64 0])/\Below W.heap.size W w'/\Ints w' (.slice A n c) [100,106,100,100,106,100]:=λv W h=>by
  have:=qM8 v 0 0 W h qOe
  rwa[qOf]at this
 have bi:∀v W,IsProg W v qAG->Calls Tryz.prog 6 #[v] W λe w'=>e= .returned (.tuple #[.int .i64 1,.int .i64 1,.int .i64 0])/\Below W.heap.size W w':=λv W h=>by
  have:=qF2 v qAG W h 0 qNb
  rwa[qOh,qOi]at this
 have be:∀v W,IsProg W v qAG->Calls Tryz.prog 7 #[v] W λe w'=>e= .returned (.tuple #[.int .u8 4,.int .i64 0])/\Below W.heap.size W w':=λv W h=>by
  have:=qE5 v qAG W h 0 qNb
  rwa[qOj]at this
 have bg:∀v W,IsProg W v qCe->Calls Tryz.prog 7 #[v] W λe w'=>e= .returned (.tuple #[.int .u8 3,.int .i64 0])/\Below W.heap.size W w':=λv W h=>by
  have:=qE5 v qCe W h 0 qNc
  rwa[qOk]at this
 have aZ:∀v W,IsProg W v qCe->Calls Tryz.prog 8 #[v] W λe w'=>e= .returned (.tuple #[.int .i64 2,.int .i64 0])/\Below W.heap.size W w':=λv W h=>by
  have:=qDe v qCe W h 0 qNc
  rwa[qOl]at this
 have bb:∀v W,IsProg W v qGG->Calls Tryz.prog 8 #[v] W λe w'=>e= .returned (.tuple #[.int .i64 4,.int .i64 0])/\Below W.heap.size W w':=λv W h=>by
  have:=qDe v qGG W h 0 qOb
  rwa[qOm]at this
 have⟨k,a9,bj,bf,bh,ba,bc⟩:=hyd7 bd aj bi be bg aZ bb;clear bb aZ bg be bi aj bd;go_enter Tryz.func3,Tryz.ntmps3;go_wp2_with (fail);go_at_call 5;refine(k.out w).mono ?_;rintro e W1 ⟨A0,a0,A1,a1,A5,a5,rfl,aE,aN⟩;have⟨aF,aO⟩:=hyd2 aE aN;clear aN aE;go_wp2_with (fail);go_at_call 4;refine(a9.out _ W1 aO.out).mono ?_;rintro e W2 ⟨C1,n1,c1,rfl,am,aL⟩;have Z:=xT aF.out am;have⟨bR,aM,al⟩:=hyd3 am aL Z;clear Z aL am;go_wp2_with (fail);go_at_call 5;refine(k.out W2).mono ?_;rintro e W3 ⟨B0,b0,B1,b1,B5,b5,rfl,aH,aP⟩;have⟨aI,aQ⟩:=hyd2 aH aP;clear aP aH;go_wp2_with (fail);go_at_call 6;refine(bj.out _ W3 aQ.out).mono ?_;rintro e W4 ⟨rfl,aq⟩;have aa:=xT aI.out aq;have⟨bS,an⟩:=hyd2 aq aa;clear aa aq;go_wp2_with (fail);go_at_call 5;refine(k.out W4).mono ?_;rintro e W5 ⟨E0,e0,E1,e1,E5,e5,rfl,aJ,aR⟩;have⟨aK,aS⟩:=hyd2 aJ aR;clear aR aJ;go_wp2_with (fail);go_at_call 7;refine(bf.out _ W5 aS.out).mono ?_;rintro e W6 ⟨rfl,ar⟩;have N:=xT an.out (xT aK.out ar);obtain⟨W7,b2,au,k7⟩:=xnew W6 (.cells #[.int .i64 2] 3);have aX:=qI0 [2] _ W7 (qCP [2] 1 rfl k7 (by decide));have ab:=xT N au;have⟨bT,bG,bU,cq,aY,ao⟩:=hyd6 ar N au k7 aX ab;clear ab aX k7 au N ar;go_wp2_with (fail);clear b2;go_at_call 9;refine aY.out.mono ?_;rintro e W8 ⟨v8,rfl,av,aT⟩
 have ac:=xT ao.out av;have⟨bV,aU,ap⟩:=hyd3 av aT ac;clear ac aT av;go_wp2_with (fail);go_at_call 8;refine(ba.out _ W8 aU.out).mono ?_;rintro e W9 ⟨rfl,aw⟩;have O:=xT ap.out aw;obtain⟨bo,aB,p,a2⟩:=xnew W9 (.cells #[.int .i64 2] 3);have ah:=qI0 [2] _ bo (qCP [2] 1 rfl a2 (by decide));have I:=xT O p;have⟨bW,bH,b3,bX,a7,T⟩:=hyd6 aw O p a2 ah I;clear I ah a2 p O aw;go_wp2_with (fail);clear aB;go_at_call 9;refine a7.out.mono ?_;rintro e bp ⟨cs,rfl,q,ae⟩;have J:=xT T.out q;have⟨b4,ax,U⟩:=hyd3 q ae J;clear J ae q;go_wp2_with (fail);go_at_call 7;refine(bh.out _ bp ax.out).mono ?_;rintro e bq ⟨rfl,r⟩;have g:=xT U.out r;obtain⟨br,aC,s,a3⟩:=xnew bq (.cells #[.int .i64 0,.int .i64 2] 3);have ai:=qI0 [0,2] _ br (qCP [0,2] 2 rfl a3 (by decide));have L:=xT g s;have⟨b6,bk,b7,bY,a8,V⟩:=hyd6 r g s a3 ai L;clear L ai a3 s g r;go_wp2_with (fail);clear aC;go_at_call 9;refine a8.out.mono ?_;rintro e bs ⟨ct,rfl,y,af⟩;have M:=xT V.out y;have⟨b8,ay,X⟩:=hyd3 y af M;clear M af y;go_wp2_with (fail);go_at_call 8;refine(bc.out _ bs ay.out).mono ?_;rintro e bt ⟨rfl,z⟩;have i:=xT X.out z;obtain⟨ak,aD,B,a4⟩:=xnew bt (.cells #[.int .i64 100,.int .i64 106,.int .i64 100,.int .i64 100,.int .i64 106,.int .i64 100] 3)
 have f:=xT i B;have ks:=qEy _ _ [100,106,100,100,106,100] ak (aM.out.below f) (qCP [100,106,100,100,106,100] 6 rfl a4 (by decide));have l:=xT al.out f;have⟨b9,bl,bA,bZ,bm,bK,Q⟩:=hyd7 z i B a4 f ks l;clear l ks f a4 B i z;go_wp2_with (fail);clear aD;go_at_call 10;refine bK.out.mono ?_;rintro e aA ⟨rfl,cr,ad⟩;have E:Below ak.heap.size ak aA:=by rw[ad];exact Below.of_drewN _ _
 clear ad;have m:=xT Q.out E;have⟨bB,R⟩:=hyd2 E m;clear m E;go_wp2_with (fail);go_at_call 5;refine(k.out aA).mono ?_;rintro e bu ⟨D0,e0,D1,e1,D5,e5,rfl,F,P⟩;obtain⟨bv,bO,G,Y⟩:=xnew bu (.cells #[.slice D0 6 e0,.slice D1 1 e1,.int .i64 100,.int .i64 2,.int .i64 10,.slice D5 1 e5] 27);obtain⟨cg,bP,j,a6⟩:=xnew bv (.cells #[.int .i64 2] 3);have d:=xT G j;have b:=xblk j Y;have cp:=gsl Y;obtain⟨bw,bQ,H,aV,ag⟩:=qHP 2 (Nat.le_refl _) P d b a6 (by omega);have f5:=xfrz b 5;obtain⟨c0,c1,c2,c3,c4,c5⟩:=xc6 b;have o:=xT R.out (xT F H);have⟨bC,bI,bD,ca,bE,cb,aG,bn⟩:=hyd8 F P G Y j a6 d b;have⟨bF,aW,az,S⟩:=hyd4 H aV ag o;clear o ag aV H b d a6 j Y G P F;go_upto_region 10 with(fail);exact qPI w bw D0 D1 e0 e1 _ _ _ S.out aW.out az.out _ (qAV _ _ (by kernel_rfl)) _ (by assumption)
end Go.Proofs.YtbcbcdgbliheoaaGreat

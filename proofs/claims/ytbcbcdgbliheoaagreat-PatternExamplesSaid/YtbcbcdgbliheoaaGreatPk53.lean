/- PatternExamples: fitted shifts and index plates. -/
import Derived.Test.YtbcbcdgbliheoaaGreatPk52
namespace Go.Proofs.YtbcbcdgbliheoaaGreat
set_option maxRecDepth 100000
set_option maxHeartbeats 4000000
open Go.RowKit Go.Shelf
set_option linter.unusedVariables false
set_option linter.unusedSimpArgs false
def MPred.intsX (xs:List Int) (n:Nat):MPred:=⟨λv w=>∃A c,v= .slice A n c/\Ints w (.slice A n c) xs,λ_ _ _ hb ⟨A,c,e,h⟩=>⟨A,c,e,h.below hb⟩⟩
def MPred.isA (F:FracA):MPred:=⟨λv w=>∃A c B d,v= .agg #[.bool F.sn,.slice A F.gn.length c,.bool F.sd,.slice B F.gd.length d]/\IsFracA (λ_=>True) w (.agg #[.bool F.sn,.slice A F.gn.length c,.bool F.sd,.slice B F.gd.length d]) F,λ_ _ _ hb ⟨A,c,B,d,e,h⟩=>⟨A,c,B,d,e,h.le hb⟩⟩
theorem Arr.len_any {α:Type} {f:α->Value} {w:World} {A:Option Addr} {n c:Nat} {xs:List α} (h:Arr f w (.slice A n c) xs):n=xs.length:=by
 obtain⟨b,d,e,-⟩:=h;injection e
theorem qO1:qCi 1 336= .ok (((1:Int):Rat) / ((336:Int):Rat)):=by
 unfold qCi;rw[if_neg (by decide)];refine qH6 ?_;have b:rnum (((1:Int):Rat) / ((336:Int):Rat))=1:=by decide+kernel
 have c:(((1:Int):Rat) / ((336:Int):Rat)).den =336:=by decide+kernel
 unfold Rsz;rw[b,c];have d:=qA5;exact⟨Nat.le_trans (qBA (k:=1) (by rw[Nat.pow_one];omega)) (by decide),Nat.le_trans (qBA (k:=1) (by rw[Nat.pow_one];omega)) (by decide)⟩
noncomputable def px20:Code:=(qAa 20 ((Tryz.f3).body.getD .skip)).getD 0 .skip
theorem qPG (w W:World) (A1 A2 A3 B3 A4 B4 A5 B5:Option Addr) (c1 c2 c3 d3 c4 d4 c5 d5 b23 b26 b27:Nat) (t1:TypeId) (F0 F1:FracA) (hbw:Below w.heap.size w W) (i1:Ints W (.slice A1 2 c1) [0,2]) (i2:Ints W (.slice A2 1 c2) [1]) (hF0:qBX ((0:Int):Rat)=F0)
  (h23:IsFracA (λ_=>True) W (.agg #[.bool F1.sn,.slice A3 F1.gn.length c3,.bool F1.sd,.slice B3 F1.gd.length d3]) F1) (k23:W.heap[b23]? =some (.cells #[.bool F1.sn,.slice A3 F1.gn.length c3,.bool F1.sd,.slice B3 F1.gd.length d3] t1))
  (h27:IsFracA (λ_=>True) W (.agg #[.bool F1.sn,.slice A4 F1.gn.length c4,.bool F1.sd,.slice B4 F1.gd.length d4]) F1) (k27:W.heap[b27]? =some (.cells #[.bool F1.sn,.slice A4 F1.gn.length c4,.bool F1.sd,.slice B4 F1.gd.length d4] t1))
  (h26:IsFracA (λ_=>True) W (.agg #[.bool F0.sn,.slice A5 F0.gn.length c5,.bool F0.sd,.slice B5 F0.gd.length d5]) F0) (k26:W.heap[b26]? =some (.cells #[.bool F0.sn,.slice A5 F0.gn.length c5,.bool F0.sd,.slice B5 F0.gd.length d5] t1)) (t:Array Value) (ht:∃u:Nat->Value,t=#[u 0,.slice A1 2 c1,.int .i64 0,(u 3),(u 4),.int .i64 0,(u 6),.int .i64 0,(u 8),.int .i64 0,(u 10),(u 11),(u 12),(u 13),.bool true,(u 15),(u 16),(u 17),(u 18),.bool true,.slice A2 1 c2,.int .i64 0,.int .i64 14,.pointer (some ⟨b23,0,none⟩),.int .i64 0,.int .i64 40,.pointer (some ⟨b26,0,none⟩),.pointer (some ⟨b27,0,none⟩),(u 28),(u 29),(u 30),(u 31),(u 32),(u 33),(u 34),(u 35),(u 36),(u 37),(u 38),(u 39),(u 40),(u 41),(u 42),(u 43),(u 44),(u 45),(u 46),(u 47),(u 48),(u 49),(u 50),(u 51),(u 52),(u 53),(u 54),(u 55),(u 56),(u 57),(u 58),(u 59),(u 60),(u 61),(u 62),(u 63),(u 64),(u 65),(u 66),(u 67),(u 68),(u 69),(u 70),(u 71),(u 72),(u 73),(u 74),(u 75),(u 76),(u 77),(u 78),(u 79),(u 80),(u 81),(u 82),(u 83),(u 84),(u 85),(u 86),(u 87),(u 88),(u 89),(u 90),(u 91),(u 92),(u 93),(u 94),(u 95),(u 96),(u 97),(u 98),(u 99),(u 100),(u 101),(u 102),(u 103),(u 104),(u 105),(u 106),(u 107),(u 108),(u 109),(u 110),(u 111),(u 112),(u 113),(u 114),(u 115),(u 116),(u 117),(u 118),(u 119),(u 120),(u 121),(u 122),(u 123),(u 124),(u 125),(u 126),(u 127),(u 128),(u 129),(u 130),(u 131),(u 132),(u 133),(u 134),(u 135),(u 136),(u 137),(u 138),(u 139),(u 140),(u 141),(u 142),(u 143),(u 144),(u 145),(u 146),(u 147),(u 148),(u 149),(u 150),(u 151),(u 152),(u 153),(u 154),(u 155),(u 156),(u 157),(u 158),(u 159),(u 160),(u 161),(u 162),(u 163),(u 164),(u 165),(u 166),(u 167),(u 168),(u 169),(u 170),(u 171),(u 172),(u 173),(u 174),(u 175),(u 176),(u 177),(u 178),(u 179),(u 180),(u 181),(u 182),(u 183),(u 184),(u 185),(u 186),(u 187),(u 188),(u 189),(u 190),(u 191),(u 192),(u 193),(u 194),(u 195),(u 196),(u 197),(u 198),(u 199),(u 200),(u 201),(u 202),(u 203),(u 204),(u 205),(u 206),(u 207),(u 208),(u 209),(u 210),(u 211),(u 212),(u 213),(u 214),(u 215),(u 216),(u 217),(u 218),(u 219),(u 220),(u 221),(u 222),(u 223),(u 224),(u 225),(u 226),(u 227),(u 228),(u 229),(u 230),(u 231),(u 232),(u 233),(u 234),(u 235),(u 236),(u 237),(u 238),(u 239),(u 240),(u 241),(u 242),(u 243),(u 244),(u 245),(u 246),(u 247),(u 248),(u 249),(u 250),(u 251),(u 252),(u 253),(u 254),(u 255),(u 256),(u 257),(u 258),(u 259),(u 260),(u 261),(u 262),(u 263),(u 264),(u 265),(u 266),(u 267),(u 268),(u 269),(u 270),(u 271),(u 272),(u 273),(u 274),(u 275),(u 276),(u 277),(u 278),(u 279),(u 280),(u 281),(u 282),(u 283),(u 284),(u 285),(u 286),(u 287),(u 288),(u 289),(u 290),(u 291),(u 292),(u 293),(u 294),(u 295),(u 296),(u 297),(u 298),(u 299),(u 300),(u 301),(u 302),(u 303),(u 304),(u 305),(u 306),(u 307),(u 308),(u 309),(u 310),(u 311),(u 312),(u 313),(u 314),(u 315),(u 316),(u 317),(u 318),(u 319),(u 320),(u 321),(u 322),(u 323),(u 324),(u 325),(u 326),(u 327),(u 328),(u 329),(u 330),(u 331),(u 332),(u 333),(u 334),(u 335),(u 336),(u 337),(u 338),(u 339),(u 340),(u 341),(u 342),(u 343),(u 344),(u 345),(u 346),(u 347),(u 348),(u 349),(u 350),(u 351),(u 352),(u 353),(u 354),(u 355),(u 356),(u 357),(u 358),(u 359),(u 360),(u 361),(u 362),(u 363),(u 364),(u 365),(u 366),(u 367),(u 368),(u 369),(u 370),(u 371),(u 372),(u 373)]):
  ∀K:Act->World->Prop,(∀a w1,(rtX px20).wp Tryz.prog (bodyPost Tryz.prog Tryz.f3 (qC0 w)) a w1->K a w1)->(lfX px20).wp Tryz.prog (Exit.then K (bodyPost Tryz.prog Tryz.f3 (qC0 w))) {tmps:=t,defers:=[]} W:=by
 intro K hK;obtain⟨u,rfl⟩:=ht
 conv=>arg 2;whnf
 have⟨I,Y,Z,E,z,J,D,M⟩:=hyd8 hbw i1 i2 hF0 h23 k23 h27 k27;have⟨C,L⟩:=hyd2 h26 k26;clear k26 h26 k27 h27 k23 h23 hF0 i2 i1 hbw;refine qA6 (R:=leRel) 50 [some 210,some 211,some 212,some 213,some 214,some 215,some 216,some 217,some 218,some 219,some 220,some 221,some 222,some 223,some 224,some 225,some 226,some 227,some 228,some 229,some 230,some 231,some 232,some 233,some 234,some 235,some 236,some 237,some 238,some 239,some 240,some 241,some 242,some 243,some 244,some 245,some 246,some 247,some 248,some 249,some 250,some 251,some 252,some 253,some 254,some 255,some 256,some 257,some 258,some 259,some 29] [[],[0],[1],[2],[2],[2,3,4],[2,5],[6],[7],[7,8],[7,9],[10],[11],[11],[11,12,13],[11,14],[15],[16],[16,17],[16,18],[19],[20],[20,21],[20,22],[23],[24],[24,25],[24,26],[27],[28],[28],[28,29,30],[28,31],[32],[33],[33,34],[33,35],[36],[37],[37,38],[37,39],[40],[41],[41,42],[41,43],[44],[45],[45],[45,46,47],[45,48],[49]]
  [.eq (.int .i64 0),.eq (.bool true),.eq (.bool true),.eq (.slice A1 2 c1),MPred.intsX [0,2] 2,.eq (.bool true),.eq (.bool true),.eq (.bool true),.eq (.int .i64 0),.eq (.bool true),.eq (.bool true),.eq (.bool true),.eq (.slice A2 1 c2),MPred.intsX [1] 1,.eq (.bool true),.eq (.bool true),.eq (.bool true),.eq (.int .i64 0),.eq (.bool true),.eq (.bool true),.eq (.bool true),.eq (.int .i64 0),.eq (.bool true),.eq (.bool true),.eq (.bool true),.eq (.int .i64 14),.eq (.bool true),.eq (.bool true),.eq (.bool true),.eq (.agg #[.bool F1.sn,.slice A3 F1.gn.length c3,.bool F1.sd,.slice B3 F1.gd.length d3]),.eq (.agg #[.bool F1.sn,.slice A4 F1.gn.length c4,.bool F1.sd,.slice B4 F1.gd.length d4]),.eq (.bool true),.eq (.bool true),.eq (.bool true),.eq (.int .i64 0),.eq (.bool true),.eq (.bool true),.eq (.bool true),.eq (.int .i64 0),.eq (.bool true),.eq (.bool true),.eq (.bool true),.eq (.int .i64 40),.eq (.bool true),.eq (.bool true),.eq (.bool true),.eq (.agg #[.bool F0.sn,.slice A5 F0.gn.length c5,.bool F0.sd,.slice B5 F0.gd.length d5]),MPred.isA F0,.eq (.bool true),.eq (.bool true)] (λ_ _=>False) (by kernel_rfl) (by kernel_rfl) (by kernel_rfl) (by kernel_rfl) ?_ (λ_ _ _ _ _ h=>h.elim) ?_
 ·simp only[List.take_succ_cons,List.take_zero];refine mSc ?_ (mSc ?_ (mSc ?_ (mSc ?_ (mSc ?_ (mSc ?_ (mSc ?_ (mSc ?_ (mSc ?_ (mSc ?_ (mSc ?_ (mSc ?_ (mSc ?_ (mSc ?_ (mSc ?_ (mSc ?_ (mSc ?_ (mSc ?_ (mSc ?_ (mSc ?_ (mSc ?_ (mSc ?_ (mSc ?_ (mSc ?_ (mSc ?_ (mSc ?_ (mSc ?_ (mSc ?_ (mSc ?_ (mSc ?_ (mSc ?_ (mSc ?_ (mSc ?_ (mSc ?_ (mSc ?_ (mSc ?_ (mSc ?_ (mSc ?_ (mSc ?_ (mSc ?_ (mSc ?_ (mSc ?_ (mSc ?_ (mSc ?_ (mSc ?_ (mSc ?_ (mSc ?_ (mSc ?_ (mSc ?_ (mSc ?_ (qA7))))))))))))))))))))))))))))))))))))))))))))))))))
  ·refine mSl rfl λj W k g Q b _=>?_;simp only[fA]at b ⊢;go_wp2;exact b _ _ lrR rfl
  ·refine mSl rfl λj W k g Q b _=>?_;obtain⟨f,-⟩:=g;change _=_ at f;simp only[fA,f]at b ⊢;go_wp2;exact b _ _ lrR rfl
  ·refine mSl rfl λj W k g Q b _=>?_;obtain⟨f,-⟩:=g;change _=_ at f;simp only[fA,f]at b ⊢;go_wp2;exact b _ _ lrR rfl
  ·refine qAE (λj W g=>?_) λj W k g Q b _=>?_
   ·obtain⟨f,-⟩:=g;change _=_ at f;simp only[fA,f]
    kernel_rfl
   obtain⟨f,-⟩:=g;change _=_ at f;simp only[fA,f]at b ⊢;go_wp2;exact b _ _ lrR rfl
  ·refine qAE (λj W g=>?_) λj W k g Q b _=>?_
   ·obtain⟨f,-⟩:=g;change _=_ at f;simp only[fA,f]
    kernel_rfl
   obtain⟨f,-⟩:=g;change _=_ at f;simp only[fA,f]at b ⊢;go_wp2;exact b _ _ (qAA _ _) ⟨_,2,rfl,qCP [0,2] 2 rfl (qAk _ _) (by decide)⟩
  ·refine qAE (λj W g=>?_) λj W k g Q b _=>?_
   ·obtain⟨f,i,o,-⟩:=g;change _=_ at f i;simp only[fA,f,i]
    kernel_rfl
   obtain⟨f,i,o,-⟩:=g;change _=_ at f i;replace o:∃A c,(j 4)= .slice A 2 c/\Ints W (.slice A 2 c) [0,2]:=o;obtain⟨O,P,N,U⟩:=o;simp only[fA,f,i,N]at b ⊢;have l:=qEy _ _ [0,2] W (Y.out.below k) U;have m:=hyd1 l;clear l;go_wp2_with (fail);go_at_call 10;refine m.out.mono ?_;rintro e S ⟨rfl,n,rfl⟩;go_wp2;exact b _ _ (Below.of_drewN W n) rfl
  ·refine mSl rfl λj W k g Q b _=>?_;obtain⟨f,i,-⟩:=g;change _=_ at f i;simp only[fA,f,i]at b ⊢;go_wp2;exact b _ _ lrR rfl
  ·refine mSl rfl λj W k g Q b _=>?_;obtain⟨f,-⟩:=g;change _=_ at f;simp only[fA,f]at b ⊢;go_wp2;exact b _ _ lrR rfl
  ·refine qAE (λj W g=>?_) λj W k g Q b _=>?_
   ·obtain⟨f,-⟩:=g;change _=_ at f;simp only[fA,f]
    kernel_rfl
   obtain⟨f,-⟩:=g;change _=_ at f;simp only[fA,f]at b ⊢;go_wp2;exact b _ _ lrR rfl
  ·refine qAE (λj W g=>?_) λj W k g Q b _=>?_
   ·obtain⟨f,i,-⟩:=g;change _=_ at f i;simp only[fA,f,i]
    kernel_rfl
   obtain⟨f,i,-⟩:=g;change _=_ at f i;simp only[fA,f,i]at b ⊢;go_wp2;exact b _ _ lrR rfl
  ·refine mSl rfl λj W k g Q b _=>?_;obtain⟨f,i,-⟩:=g;change _=_ at f i;simp only[fA,f,i]at b ⊢;go_wp2;exact b _ _ lrR rfl
  ·refine mSl rfl λj W k g Q b _=>?_;obtain⟨f,-⟩:=g;change _=_ at f;simp only[fA,f]at b ⊢;go_wp2;exact b _ _ lrR rfl
  ·refine qAE (λj W g=>?_) λj W k g Q b _=>?_
   ·obtain⟨f,-⟩:=g;change _=_ at f;simp only[fA,f]
    kernel_rfl
   obtain⟨f,-⟩:=g;change _=_ at f;simp only[fA,f]at b ⊢;go_wp2;exact b _ _ lrR rfl
  ·refine qAE (λj W g=>?_) λj W k g Q b _=>?_
   ·obtain⟨f,-⟩:=g;change _=_ at f;simp only[fA,f]
    kernel_rfl
   obtain⟨f,-⟩:=g;change _=_ at f;simp only[fA,f]at b ⊢;go_wp2;exact b _ _ (qAA _ _) ⟨_,1,rfl,qCP [1] 1 rfl (qAk _ _) (by decide)⟩
  ·refine qAE (λj W g=>?_) λj W k g Q b _=>?_
   ·obtain⟨f,i,o,-⟩:=g;change _=_ at f i;simp only[fA,f,i]
    kernel_rfl
   obtain⟨f,i,o,-⟩:=g;change _=_ at f i;replace o:∃A c,(j 13)= .slice A 1 c/\Ints W (.slice A 1 c) [1]:=o;obtain⟨O,P,N,V⟩:=o;simp only[fA,f,i,N]at b ⊢;have l:=qEy _ _ [1] W (Z.out.below k) V;have m:=hyd1 l;clear l;go_wp2_with (fail);go_at_call 10;refine m.out.mono ?_;rintro e S ⟨rfl,n,rfl⟩;go_wp2;exact b _ _ (Below.of_drewN W n) rfl
  ·refine mSl rfl λj W k g Q b _=>?_;obtain⟨f,i,-⟩:=g;change _=_ at f i;simp only[fA,f,i]at b ⊢;go_wp2;exact b _ _ lrR rfl
  ·refine mSl rfl λj W k g Q b _=>?_;obtain⟨f,-⟩:=g;change _=_ at f;simp only[fA,f]at b ⊢;go_wp2;exact b _ _ lrR rfl
  ·refine qAE (λj W g=>?_) λj W k g Q b _=>?_
   ·obtain⟨f,-⟩:=g;change _=_ at f;simp only[fA,f]
    kernel_rfl
   obtain⟨f,-⟩:=g;change _=_ at f;simp only[fA,f]at b ⊢;go_wp2;exact b _ _ lrR rfl
  ·refine qAE (λj W g=>?_) λj W k g Q b _=>?_
   ·obtain⟨f,i,-⟩:=g;change _=_ at f i;simp only[fA,f,i]
    kernel_rfl
   obtain⟨f,i,-⟩:=g;change _=_ at f i;simp only[fA,f,i]at b ⊢;go_wp2;exact b _ _ lrR rfl
  ·refine mSl rfl λj W k g Q b _=>?_;obtain⟨f,i,-⟩:=g;change _=_ at f i;simp only[fA,f,i]at b ⊢;go_wp2;exact b _ _ lrR rfl
  ·refine mSl rfl λj W k g Q b _=>?_;obtain⟨f,-⟩:=g;change _=_ at f;simp only[fA,f]at b ⊢;go_wp2;exact b _ _ lrR rfl
  ·refine qAE (λj W g=>?_) λj W k g Q b _=>?_
   ·obtain⟨f,-⟩:=g;change _=_ at f;simp only[fA,f]
    kernel_rfl
   obtain⟨f,-⟩:=g;change _=_ at f;simp only[fA,f]at b ⊢;go_wp2;exact b _ _ lrR rfl
  ·refine qAE (λj W g=>?_) λj W k g Q b _=>?_
   ·obtain⟨f,i,-⟩:=g;change _=_ at f i;simp only[fA,f,i]
    kernel_rfl
   obtain⟨f,i,-⟩:=g;change _=_ at f i;simp only[fA,f,i]at b ⊢;go_wp2;exact b _ _ lrR rfl
  ·refine mSl rfl λj W k g Q b _=>?_;obtain⟨f,i,-⟩:=g;change _=_ at f i;simp only[fA,f,i]at b ⊢;go_wp2;exact b _ _ lrR rfl
  ·refine mSl rfl λj W k g Q b _=>?_;obtain⟨f,-⟩:=g;change _=_ at f;simp only[fA,f]at b ⊢;go_wp2;exact b _ _ lrR rfl
  ·refine qAE (λj W g=>?_) λj W k g Q b _=>?_
   ·obtain⟨f,-⟩:=g;change _=_ at f;simp only[fA,f]
    kernel_rfl
   obtain⟨f,-⟩:=g;change _=_ at f;simp only[fA,f]at b ⊢;go_wp2;exact b _ _ lrR rfl
  ·refine qAE (λj W g=>?_) λj W k g Q b _=>?_
   ·obtain⟨f,i,-⟩:=g;change _=_ at f i;simp only[fA,f,i]
    kernel_rfl
   obtain⟨f,i,-⟩:=g;change _=_ at f i;simp only[fA,f,i]at b ⊢;go_wp2;exact b _ _ lrR rfl
  ·refine mSl rfl λj W k g Q b _=>?_;obtain⟨f,i,-⟩:=g;change _=_ at f i;simp only[fA,f,i]at b ⊢;go_wp2;exact b _ _ lrR rfl
  ·refine mSl rfl λj W k g Q b _=>?_;obtain⟨f,-⟩:=g;change _=_ at f;simp only[fA,f]at b ⊢;go_wp2;exact b _ _ lrR rfl
  ·refine qAE (λj W g=>?_) λj W k g Q b _=>?_
   ·obtain⟨f,-⟩:=g;change _=_ at f;simp only[fA,f]
    kernel_rfl
   obtain⟨f,-⟩:=g;change _=_ at f;obtain⟨q,r,s,x⟩:=xc4 (xblk k J.out);simp only[fA,f]at b ⊢;go_wp2;exact b _ _ lrR rfl
  ·refine qAE (λj W g=>?_) λj W k g Q b _=>?_
   ·obtain⟨f,-⟩:=g;change _=_ at f;simp only[fA,f]
    kernel_rfl
   obtain⟨f,-⟩:=g;change _=_ at f;obtain⟨q,r,s,x⟩:=xc4 (xblk k M.out);simp only[fA,f]at b ⊢;go_wp2;exact b _ _ lrR rfl
  ·refine qAE (λj W g=>?_) λj W k g Q b _=>?_
   ·obtain⟨f,i,o,-⟩:=g;change _=_ at f i o;simp only[fA,f,i,o]
    kernel_rfl
   obtain⟨f,i,o,-⟩:=g;change _=_ at f i o;simp only[fA,f,i,o]at b ⊢;have l:=qFS _ _ F1 F1 _ _ W (z.out.le k) (D.out.le k);have m:=hyd1 l;clear l;go_wp2_with (fail);go_at_call 16;refine m.out.mono ?_;rintro e S ⟨rfl,p⟩;rw[qHG];go_wp2;exact b _ _ p rfl
  ·refine mSl rfl λj W k g Q b _=>?_;obtain⟨f,i,-⟩:=g;change _=_ at f i;simp only[fA,f,i]at b ⊢;go_wp2;exact b _ _ lrR rfl
  ·refine mSl rfl λj W k g Q b _=>?_;obtain⟨f,-⟩:=g;change _=_ at f;simp only[fA,f]at b ⊢;go_wp2;exact b _ _ lrR rfl
  ·refine qAE (λj W g=>?_) λj W k g Q b _=>?_
   ·obtain⟨f,-⟩:=g;change _=_ at f;simp only[fA,f]
    kernel_rfl
   obtain⟨f,-⟩:=g;change _=_ at f;simp only[fA,f]at b ⊢;go_wp2;exact b _ _ lrR rfl
  ·refine qAE (λj W g=>?_) λj W k g Q b _=>?_
   ·obtain⟨f,i,-⟩:=g;change _=_ at f i;simp only[fA,f,i]
    kernel_rfl
   obtain⟨f,i,-⟩:=g;change _=_ at f i;simp only[fA,f,i]at b ⊢;go_wp2;exact b _ _ lrR rfl
  ·refine mSl rfl λj W k g Q b _=>?_;obtain⟨f,i,-⟩:=g;change _=_ at f i;simp only[fA,f,i]at b ⊢;go_wp2;exact b _ _ lrR rfl
  ·refine mSl rfl λj W k g Q b _=>?_;obtain⟨f,-⟩:=g;change _=_ at f;simp only[fA,f]at b ⊢;go_wp2;exact b _ _ lrR rfl
  ·refine qAE (λj W g=>?_) λj W k g Q b _=>?_
   ·obtain⟨f,-⟩:=g;change _=_ at f;simp only[fA,f]
    kernel_rfl
   obtain⟨f,-⟩:=g;change _=_ at f;simp only[fA,f]at b ⊢;go_wp2;exact b _ _ lrR rfl
  ·refine qAE (λj W g=>?_) λj W k g Q b _=>?_
   ·obtain⟨f,i,-⟩:=g;change _=_ at f i;simp only[fA,f,i]
    kernel_rfl
   obtain⟨f,i,-⟩:=g;change _=_ at f i;simp only[fA,f,i]at b ⊢;go_wp2;exact b _ _ lrR rfl
  ·refine mSl rfl λj W k g Q b _=>?_;obtain⟨f,i,-⟩:=g;change _=_ at f i;simp only[fA,f,i]at b ⊢;go_wp2;exact b _ _ lrR rfl
  ·refine mSl rfl λj W k g Q b _=>?_;obtain⟨f,-⟩:=g;change _=_ at f;simp only[fA,f]at b ⊢;go_wp2;exact b _ _ lrR rfl
  ·refine qAE (λj W g=>?_) λj W k g Q b _=>?_
   ·obtain⟨f,-⟩:=g;change _=_ at f;simp only[fA,f]
    kernel_rfl
   obtain⟨f,-⟩:=g;change _=_ at f;simp only[fA,f]at b ⊢;go_wp2;exact b _ _ lrR rfl
  ·refine qAE (λj W g=>?_) λj W k g Q b _=>?_
   ·obtain⟨f,i,-⟩:=g;change _=_ at f i;simp only[fA,f,i]
    kernel_rfl
   obtain⟨f,i,-⟩:=g;change _=_ at f i;simp only[fA,f,i]at b ⊢;go_wp2;exact b _ _ lrR rfl
  ·refine mSl rfl λj W k g Q b _=>?_;obtain⟨f,i,-⟩:=g;change _=_ at f i;simp only[fA,f,i]at b ⊢;go_wp2;exact b _ _ lrR rfl
  ·refine mSl rfl λj W k g Q b _=>?_;obtain⟨f,-⟩:=g;change _=_ at f;simp only[fA,f]at b ⊢;go_wp2;exact b _ _ lrR rfl
  ·refine qAE (λj W g=>?_) λj W k g Q b _=>?_
   ·obtain⟨f,-⟩:=g;change _=_ at f;simp only[fA,f]
    kernel_rfl
   obtain⟨f,-⟩:=g;change _=_ at f;obtain⟨q,r,s,x⟩:=xc4 (xblk k L.out);simp only[fA,f]at b ⊢;go_wp2;exact b _ _ lrR rfl
  ·refine qAE (λj W g=>?_) λj W k g Q b _=>?_
   ·obtain⟨f,-⟩:=g;change _=_ at f;simp only[fA,f]
    kernel_rfl
   obtain⟨f,-⟩:=g;change _=_ at f;simp only[fA,f]at b ⊢;have l:=qDO (λ_=>True) 0 W (Up.any _) (by decide) (by decide);have m:=hyd1 l;clear l;go_wp2_with (fail);go_at_call 17;refine m.out.mono ?_;rintro e S ⟨v,rfl,p,y2⟩;have T:=y2.isA;rw[E.out]at T;obtain⟨O,P,B9,d9,rfl,-,-⟩:=id T;have⟨aa,af,ac⟩:=hyd3 p y2 T;clear T y2 p;go_wp2;exact b _ _ aa.out ⟨O,P,B9,d9,rfl,ac.out⟩
  ·refine qAE (λj W g=>?_) λj W k g Q b _=>?_
   ·obtain⟨f,i,o,-⟩:=g;change _=_ at f i;simp only[fA,f,i]
    kernel_rfl
   obtain⟨f,i,o,-⟩:=g;change _=_ at f i;replace o:∃A c B d,(j 47)= .agg #[.bool F0.sn,.slice A F0.gn.length c,.bool F0.sd,.slice B F0.gd.length d]/\IsFracA (λ_=>True) W (.agg #[.bool F0.sn,.slice A F0.gn.length c,.bool F0.sd,.slice B F0.gd.length d]) F0:=o;obtain⟨O,P,B9,d9,N,X⟩:=o;simp only[fA,f,i,N]at b ⊢;have l:=qFS _ _ F0 F0 _ _ W (C.out.le k) (X);have m:=hyd1 l;clear l;go_wp2_with (fail);go_at_call 16;refine m.out.mono ?_;rintro e S ⟨rfl,p⟩;rw[qHG];go_wp2;exact b _ _ p rfl
  ·refine mSl rfl λj W k g Q b _=>?_;obtain⟨f,i,-⟩:=g;change _=_ at f i;simp only[fA,f,i]at b ⊢;go_wp2;exact b _ _ lrR rfl
 ·intro j W' k g Q' F _;have y:=g 49 (by decide);change _=_ at y;simp only[List.drop_succ_cons,List.drop_zero];rw[show List.range 50=[0,1,2,3,4,5,6,7,8,9,10,11,12,13,14,15,16,17,18,19,20,21,22,23,24,25,26,27,28,29,30,31,32,33,34,35,36,37,38,39,40,41,42,43,44,45,46,47,48,49]from rfl];simp only[fA,y];clear g;have G:=xT I.out k;have⟨H,ae⟩:=hyd2 G k;clear k G;go_wp2;refine F _ _ ?_;clear F;go_wp2
  conv=>arg 2;whnf
  go_upto_region 21 with(fail);exact qPF w _ H.out _ (qAV _ _ (by kernel_rfl)) _ (by assumption)
noncomputable def px14:Code:=(qAa 14 ((Tryz.f3).body.getD .skip)).getD 0 .skip
theorem qPH (w W:World) (b17 b18:Nat) (tm:TypeId) (hbw:Below w.heap.size w W) (k17:W.heap[b17]? =some (.cells #[.int .i64 0,.int .i64 0,.bool false,.bool true] tm)) (k18:W.heap[b18]? =some (.cells #[.int .i64 0,.int .i64 2,.bool true,.bool false] tm)) (t:Array Value) (ht:∃u:Nat->Value,t=#[u 0,(u 1),.int .i64 0,(u 3),(u 4),.int .i64 0,(u 6),.int .i64 0,.int .i64 3,.int .i64 6,(u 10),(u 11),(u 12),(u 13),.bool true,(u 15),.int .i64 3,.pointer (some ⟨b17,0,none⟩),.pointer (some ⟨b18,0,none⟩),(u 19),(u 20),(u 21),(u 22),(u 23),(u 24),(u 25),(u 26),(u 27),(u 28),(u 29),(u 30),(u 31),(u 32),(u 33),(u 34),(u 35),(u 36),(u 37),(u 38),(u 39),(u 40),(u 41),(u 42),(u 43),(u 44),(u 45),(u 46),(u 47),(u 48),(u 49),(u 50),(u 51),(u 52),(u 53),(u 54),(u 55),(u 56),(u 57),(u 58),(u 59),(u 60),(u 61),(u 62),(u 63),(u 64),(u 65),(u 66),(u 67),(u 68),(u 69),(u 70),(u 71),(u 72),(u 73),(u 74),(u 75),(u 76),(u 77),(u 78),(u 79),(u 80),(u 81),(u 82),(u 83),(u 84),(u 85),(u 86),(u 87),(u 88),(u 89),(u 90),(u 91),(u 92),(u 93),(u 94),(u 95),(u 96),(u 97),(u 98),(u 99),(u 100),(u 101),(u 102),(u 103),(u 104),(u 105),(u 106),(u 107),(u 108),(u 109),(u 110),(u 111),(u 112),(u 113),(u 114),(u 115),(u 116),(u 117),(u 118),(u 119),(u 120),(u 121),(u 122),(u 123),(u 124),(u 125),(u 126),(u 127),(u 128),(u 129),(u 130),(u 131),(u 132),(u 133),(u 134),(u 135),(u 136),(u 137),(u 138),(u 139),(u 140),(u 141),(u 142),(u 143),(u 144),(u 145),(u 146),(u 147),(u 148),(u 149),(u 150),(u 151),(u 152),(u 153),(u 154),(u 155),(u 156),(u 157),(u 158),(u 159),(u 160),(u 161),(u 162),(u 163),(u 164),(u 165),(u 166),(u 167),(u 168),(u 169),(u 170),(u 171),(u 172),(u 173),(u 174),(u 175),(u 176),(u 177),(u 178),(u 179),(u 180),(u 181),(u 182),(u 183),(u 184),(u 185),(u 186),(u 187),(u 188),(u 189),(u 190),(u 191),(u 192),(u 193),(u 194),(u 195),(u 196),(u 197),(u 198),(u 199),(u 200),(u 201),(u 202),(u 203),(u 204),(u 205),(u 206),(u 207),(u 208),(u 209),(u 210),(u 211),(u 212),(u 213),(u 214),(u 215),(u 216),(u 217),(u 218),(u 219),(u 220),(u 221),(u 222),(u 223),(u 224),(u 225),(u 226),(u 227),(u 228),(u 229),(u 230),(u 231),(u 232),(u 233),(u 234),(u 235),(u 236),(u 237),(u 238),(u 239),(u 240),(u 241),(u 242),(u 243),(u 244),(u 245),(u 246),(u 247),(u 248),(u 249),(u 250),(u 251),(u 252),(u 253),(u 254),(u 255),(u 256),(u 257),(u 258),(u 259),(u 260),(u 261),(u 262),(u 263),(u 264),(u 265),(u 266),(u 267),(u 268),(u 269),(u 270),(u 271),(u 272),(u 273),(u 274),(u 275),(u 276),(u 277),(u 278),(u 279),(u 280),(u 281),(u 282),(u 283),(u 284),(u 285),(u 286),(u 287),(u 288),(u 289),(u 290),(u 291),(u 292),(u 293),(u 294),(u 295),(u 296),(u 297),(u 298),(u 299),(u 300),(u 301),(u 302),(u 303),(u 304),(u 305),(u 306),(u 307),(u 308),(u 309),(u 310),(u 311),(u 312),(u 313),(u 314),(u 315),(u 316),(u 317),(u 318),(u 319),(u 320),(u 321),(u 322),(u 323),(u 324),(u 325),(u 326),(u 327),(u 328),(u 329),(u 330),(u 331),(u 332),(u 333),(u 334),(u 335),(u 336),(u 337),(u 338),(u 339),(u 340),(u 341),(u 342),(u 343),(u 344),(u 345),(u 346),(u 347),(u 348),(u 349),(u 350),(u 351),(u 352),(u 353),(u 354),(u 355),(u 356),(u 357),(u 358),(u 359),(u 360),(u 361),(u 362),(u 363),(u 364),(u 365),(u 366),(u 367),(u 368),(u 369),(u 370),(u 371),(u 372),(u 373)]):
  ∀K:Act->World->Prop,(∀a w1,(rtX px14).wp Tryz.prog (bodyPost Tryz.prog Tryz.f3 (qC0 w)) a w1->K a w1)->(lfX px14).wp Tryz.prog (Exit.then K (bodyPost Tryz.prog Tryz.f3 (qC0 w))) {tmps:=t,defers:=[]} W:=by
 intro K hK;obtain⟨u,rfl⟩:=ht
 conv=>arg 2;whnf
 obtain⟨a0,a1,a2,a3⟩:=xc4 k17;obtain⟨b0,b1,b2,b3⟩:=xc4 k18;obtain⟨W1,bb,ac,k1⟩:=xnew W (.cells #[.int .i64 0,.int .i64 0,.int .i64 2,.int .i64 2,.int .i64 0,.int .i64 0,.int .i64 2] 3);have kf:=qJX _ [0,0,2,2,0,0,2] 4 0 [0,2] W1 (qCP [0,0,2,2,0,0,2] 7 rfl k1 (by decide)) qOw qOU;have E:=xT hbw ac;have⟨bM,bV,bW,bD,cy,bt,Y⟩:=hyd7 hbw k17 k18 ac k1 kf E;clear E kf k1 ac k18 k17 hbw;go_wp2_with (fail)
 conv=>arg 2;whnf
 go_wp2_with (fail);clear bb a0 a1 a2 a3 b0 b1 b2 b3;go_at_call 13;refine bt.out.mono ?_;rintro e W2 ⟨A1,n1,c1,rfl,ad,A⟩;obtain rfl:n1=2:=Arr.len_any A;obtain⟨W3,bc,x,k3⟩:=xnew W2 (.cells #[.int .i64 0,.int .i64 1,.int .i64 2,.int .i64 3] 3);have aS:=qJX _ [0,1,2,3] 6 0 [1] W3 (qCP [0,1,2,3] 4 rfl k3 (by decide)) qOx qOV;have G:=xT Y.out (xT ad x);have a8:=A.below x;have⟨bE,bN,bF,cz,aT,Z,a9⟩:=hyd7 ad A x k3 aS G a8;clear a8 G aS k3 x A ad;go_wp2_with (fail);clear bc;go_at_call 13;refine aT.out.mono ?_;rintro e W4 ⟨A2,n2,c2,rfl,ae,B⟩;obtain rfl:n2=1:=Arr.len_any B;obtain⟨W5,bd,y,k5⟩:=xnew W4 (.cells #[.int .i64 96,.int .i64 72,.int .i64 60] 3);have ki:=qJY _ [96,72,60] 1 7 0 14 0 _ W5 (qCP [96,72,60] 3 rfl k5 (by decide)) qOz qOY;have h:=xT ae y;have H:=xT Z.out h;have aA:=a9.out.below h;have aE:=B.below y;have⟨bG,bQ,bH,c0,bu,bl,aa,aB⟩:=hyd8 ae B y k5 ki h H aA;have aF:=hyd1 aE;clear aE aA H h ki k5 y B ae;go_wp2_with (fail);clear bd;go_at_call 14;refine bu.out.mono ?_;rintro e W6 ⟨o,v6,rfl,aq⟩;obtain⟨r,X⟩:∃F,qBX (((1:Int):Rat) / ((336:Int):Rat))=F:=⟨_,rfl⟩;have ai:=aB.out.below o;have am:=aF.out.below o;have l:=xT aa.out o;have hr:=aq.1.isA;rw[X]at hr;obtain⟨A3,c3,B3,d3,rfl,-,-⟩:=id hr
 obtain⟨W7,be,af,k7⟩:=xnew W6 (.cells #[.bool r.sn,.slice A3 r.gn.length c3,.bool r.sd,.slice B3 r.gd.length d3] 47);obtain⟨W8,bf,z,k8⟩:=xnew W7 (.cells #[.int .i64 96,.int .i64 72,.int .i64 60] 3);have aU:=qJY _ [96,72,60] 5 12 0 40 0 _ W8 (qCP [96,72,60] 3 rfl k8 (by decide)) qPA qOZ;have d:=xT af z;have I:=xT l d;have aC:=ai.below d;have aG:=am.below d;have aJ:=hr.le d;have aQ:=xblk z k7;have⟨bI,bT,a5,bO,bR,bg,cv,bJ⟩:=hyd8 o aq X ai am l hr af;have⟨c6,bK,c7,aV,bm,ab,aD,aH⟩:=hyd8 k7 z k8 aU d I aC aG;have⟨aK,aR⟩:=hyd2 aJ aQ;clear aQ aJ aG aC I d aU k8 z k7 af hr l am ai X aq o;go_wp2_with (fail);clear be bf;go_at_call 14;refine aV.out.mono ?_;rintro e W9 ⟨i,v9,rfl,ar⟩;obtain⟨F0,V⟩:∃F,qBX ((0:Int):Rat)=F:=⟨_,rfl⟩;have aj:=aD.out.below i;have an:=aH.out.below i;have m:=xT ab.out i;have hs:=ar.1.isA;rw[V]at hs;obtain⟨A5,c5,B5,d5,rfl,-,-⟩:=id hs;obtain⟨aY,a6,c,aM⟩:=xnew W9 (.cells #[.bool F0.sn,.slice A5 F0.gn.length c5,.bool F0.sd,.slice B5 F0.gd.length d5] 47);have D:=qJM (λ_=>True) 1 336 aY (Up.any _) (by decide) (by decide) (by decide) (by decide);have j:=xT m c;have f:=xT i c;have J:=aj.below c;have M:=an.below c;have O:=aK.out.le f;have Q:=hs.le c
 have T:=xblk f aR.out;unfold qKH at D;rw[qO1]at D;have⟨bL,bU,a4,bP,bS,bh,cw,bi⟩:=hyd8 i ar V aj an m hs c;have⟨aN,aW,s,aX,ag,ak,ao,au⟩:=hyd8 aM D j f J M O Q;have ax:=hyd1 T;clear T Q O M J f j D aM c hs m an aj V ar i;go_wp2_with (fail);clear a6;go_at_call 15;refine aW.out.mono ?_;rintro e aZ ⟨n,cA,cc,rfl,p,rfl⟩;have ht:=p.isA;rw[a5.out]at ht;obtain⟨A4,c4,B4,d4,rfl,-,-⟩:=id ht;obtain⟨ba,bC,g,aO⟩:=xnew aZ (.cells #[.bool r.sn,.slice A4 r.gn.length c4,.bool r.sd,.slice B4 r.gd.length d4] 47);have b:=xT n g;have k:=xT s.out b;have L:=ag.out.below b;have N:=ak.out.below b;have P:=ao.out.le b;have R:=au.out.le b;have S:=ht.le g;have U:=xblk b ax.out;have q:=xblk b aN.out;have⟨bj,bn,cx,bk,aP,a7,v,ah⟩:=hyd8 n p ht g aO b k L;have⟨al,ap,av,aw,ay,C⟩:=hyd6 N P R S U q;clear q U S R P N L k b aO g ht p n;go_upto_region 20 with(fail);exact qPG w ba A1 A2 A3 B3 A4 B4 A5 B5 c1 c2 c3 d3 c4 d4 c5 d5 _ _ _ _ F0 r v.out ah.out al.out a4.out ap.out ay.out aw.out aP.out av.out C.out _ (qAV _ _ (by kernel_rfl)) _ (by assumption)
end Go.Proofs.YtbcbcdgbliheoaaGreat

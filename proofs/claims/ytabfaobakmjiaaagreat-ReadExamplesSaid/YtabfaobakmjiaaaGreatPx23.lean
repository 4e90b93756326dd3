/- qAY laws of what is under a list of heights: a height is the least of heights plus drops; it is a rosette again. The reference of layer 3: Below. Contracts of .. -/
import Derived.Test.YtabfaobakmjiaaaGreatPx10
namespace Go.Proofs.YtabfaobakmjiaaaGreat
set_option maxRecDepth 100000
set_option maxHeartbeats 2000000
set_option linter.unusedVariables false
theorem qQe (N:Nat) (X:Nat->Int):∀k j,j<k->qC6 N X qDH k<=X j:=by
 intro k
 induction k with
 | zero=>intro j h;omega
 | succ k ih=>
  intro j h
  rcases Nat.eq_zero_or_pos k with h0|h0
  ·subst h0
   obtain rfl:j=0:=by omega
   rw[qF5];omega
  ·rw[qEq _ _ _ _ h0,qIT]
   by_cases b:j=k
   ·subst b;omega
   ·have:=ih j (by omega);omega
theorem qOQ (N:Nat) (X:Nat->Int):∀k,0<k->∃j,j<k/\qC6 N X qDH k=X j:=by
 intro k
 induction k with
 | zero=>intro h;omega
 | succ k ih=>
  intro _
  rcases Nat.eq_zero_or_pos k with h0|h0
  ·subst h0;exact⟨0,by omega,qF5 _ _ _⟩
  ·rw[qEq _ _ _ _ h0,qIT];obtain⟨j,c,b⟩:=ih h0
   by_cases h:X k<=qC6 N X qDH k
   ·exact⟨k,by omega,by omega⟩
   ·exact⟨j,by omega,by omega⟩
theorem qJY (f b:List Int) (p:Nat) (h:p<f.length):(qBv f b)[p]'(by rw[qBs];exact h)=qC6 b.length (qB5 f b (-1) qDm p) qDH b.length:=by
 simp[qBv,qBn,qIS]
theorem qHk (f b:List Int) (p j:Nat):qB5 f b (-1) qDm p j=atR f ((p:Int) - ((j:Int) - (b.length:Int) / 2))+b.getD j 0:=by
 unfold qB5 qDm atR;rw[Int.neg_one_mul,<-Int.sub_eq_add_neg]
theorem qQf {f b:List Int} (hf:qAX f=true) (hb:qAk b f.length=true):qAX (qBv f b)=true:=by
 obtain⟨h,i,k⟩:=rosOk_iff.1 hf;obtain⟨r,s,t,n,v⟩:=rubOk_iff.1 hb;have m:=qNJ hb;refine rosOk_iff.2 ⟨by rw[qBs];exact h,by rw[qBs];exact i,λp c=>?_⟩;have d:p<f.length:=by rw[qBs]at c;exact c
 rw[qJY f b p d];constructor
 ·obtain⟨j,g,l⟩:=qOQ b.length (qB5 f b (-1) qDm p) b.length (by omega);rw[l,qHk];have o:=qIU hf ((p:Int) - ((j:Int) - (b.length:Int) / 2));have q:=n j g;simp[g];omega
 ·have:=qQe b.length (qB5 f b (-1) qDm p) b.length (b.length / 2) (by omega);rw[qHk,m]at this;rw[show(p:Int) - (((b.length / 2:Nat):Int) - (b.length:Int) / 2)=(p:Int)from by omega,qFq p d]at this;have:=k p d;omega
def qDa (X Y:List Int) (n:Nat):Option Nat:=(List.range n).find? λi=>decide (X.getD i 0<Y.getD i 0)
theorem qIi {X Y:List Int} {n:Nat} (h:∀i,i<n->Y.getD i 0<=X.getD i 0):qDa X Y n=none:=by
 unfold qDa;rw[List.find?_eq_none];intro i b;simpa using h i (List.mem_range.1 b)
theorem qIj {X Y:List Int} {n i:Nat} (hi:i<n) (h:X.getD i 0<Y.getD i 0) (hb:∀j,j<i->Y.getD j 0<=X.getD j 0):qDa X Y n=some i:=by
 unfold qDa;have f:n=i+(n - i):=by omega
 rw[f,List.range_add,List.find?_append]
 have b:(List.range i).find? (λi=>decide (X.getD i 0<Y.getD i 0))=none:=by
  rw[List.find?_eq_none];intro j d;simpa using hb j (List.mem_range.1 d)
 rw[b];have c:n - i=(n - i - 1)+1:=by omega
 rw[c,List.range_succ_eq_map];simp only[List.map_cons,Nat.add_zero,List.find?_cons,Option.none_or];rw[decide_eq_true h]
def qBF (f b:List Int):List Int:=qAs (qBv f b) b
theorem qJZ (f b:List Int):(qBF f b).length =f.length:=by rw[qBF,qAb,qBs]
def rebE (low high rub:List Int):Int:=
 if qAX low then
  if qAt high rub=0 then
   if low.length=high.length then
    if (qDa high low low.length).isSome then 2 else if (qDa (qBF high rub) low low.length).isSome then 6 else 0
   else 2
  else qAt high rub
 else 30
def rebN (low high rub:List Int):Nat:=if rebE low high rub=6 then(qDa (qBF high rub) low low.length).getD 0 else 0
def rebL (low high rub:List Int):List Int:=if rebE low high rub=0 then qBv high rub else[]
theorem qOR {f b:List Int} (h:qAt f b=0):qAX f=true/\qAk b f.length=true:=by
 unfold qAt at h
 cases h1:qAX f<;>cases h2:qAk b f.length<;>simp_all
theorem qP3 (f b:List Int):qAt f b≠6:=by
 unfold qAt
 cases qAX f<;>cases qAk b f.length<;>simp
open Go.RowKit
set_option linter.unusedSimpArgs false
theorem qP4 (h d:Int) (W:World) (hh:0<=h/\h<=10000) (hd:0<=d/\d<=10000):Calls Tryz.prog 158 #[.int .i64 h,.int .i64 d] W λe w'=>e= .returned (.int .i64 (qDm h d))/\W=w':=by
 obtain⟨b,c⟩:=hh;obtain⟨f,g⟩:=hd;go_enter Tryz.func158,Tryz.ntmps158;go_wp2;go_ret;exact⟨rfl,rfl⟩
theorem qP5 (x y:Int) (W:World):Calls Tryz.prog 159 #[.int .i64 x,.int .i64 y] W λe w'=>e= .returned (.int .i64 (qDH x y))/\W=w':=by
 unfold qDH
 by_cases h:y<x
 ·rw[if_pos h];go_enter Tryz.func159,Tryz.ntmps159;go_wp2;go_ret;exact⟨rfl,rfl⟩
 ·rw[if_neg h];have b:x<=y:=by omega
  go_enter Tryz.func159,Tryz.ntmps159;go_wp2;go_ret;exact⟨rfl,rfl⟩
theorem qLk (vf vb:Value) (f b:List Int) (w:World) (hf:Ints w vf f) (hb:Ints w vb b) (hfo:qAX f=true) (hbo:qAk b f.length=true):
  Calls Tryz.prog 102 #[vf,vb] w λe w'=>∃v',e= .returned v'/\Below w.heap.size w w'/\w'.ownsRow w.heap.size 3 1 v' (qBv f b).length ((qBv f b).map vint):=by
 have k:=Lib.hid hf;have j:=Lib.hid hb;obtain⟨A,c,rfl,p,o,_,q⟩:=hf;obtain⟨r,s,rfl,n,m,_,l⟩:=hb;clear q l;go_enter Tryz.func102,Tryz.ntmps102;go_wp2_with (first | (go_at_call 157;refine(qJq f b _ _ _ k.out j.out (-1) 158 159 qDm qDH hfo hbo (.inr rfl) (λ_ _=>by kernel_rfl) (λ_ _=>by kernel_rfl) (λh d W g i=>qP4 h d W g i) (λh d g i=>by unfold Near qDm;omega) (λx y W _ _=>qP5 x y W) (λx y g i=>by unfold Near qDH at*;split<;>omega)).mono ?_;rintro e w' ⟨v',rfl,g,i⟩));go_ret;exact⟨v',rfl,g,i⟩
theorem qQg (g1 g2:Nat) (G1 G2:List Int->List Int->List Int) (vf vb:Value) (f b:List Int) (w:World) (ba:Nat) (hf:Ints w vf f) (hb:Ints w vb b) (hba:ba<w.heap.size)
  (hc:w.cell? ⟨ba,0,none⟩=some (.func (.func g1) #[] #[])) (hc2:w.cell? ⟨ba,1,none⟩=some (.func (.func g2) #[] #[])) (hg:qAY Tryz.prog g1) (hg2:qAY Tryz.prog g2)
  (hok1:qAX f=true->qAk b f.length=true->qAX (G1 f b)=true/\qAk b (G1 f b).length =true)
  (hG:∀(vf' vb':Value) (W:World),Ints W vf' f->Ints W vb' b->qAX f=true->qAk b f.length=true->Calls Tryz.prog g1 #[vf',vb'] W λe w'=>∃v',e= .returned v'/\Below W.heap.size W w'/\w'.ownsRow W.heap.size 3 1 v' (G1 f b).length ((G1 f b).map vint))
  (hG2:∀(vf' vb':Value) (W:World),Ints W vf' (G1 f b)->Ints W vb' b->qAX (G1 f b)=true->qAk b (G1 f b).length =true->Calls Tryz.prog g2 #[vf',vb'] W λe w'=>∃v',e= .returned v'/\Below W.heap.size W w'/\w'.ownsRow W.heap.size 3 1 v' (G2 (G1 f b) b).length ((G2 (G1 f b) b).map vint))
  (E:Int) (hE:qAt f b=E):
  Calls Tryz.prog 101 #[vf,vb,.slice (some ⟨ba,0,none⟩) 2 2] w λe w'=>∃v',e= .returned (.tuple #[v',.int .i64 E])/\Below w.heap.size w w'∧
   (E=0->w'.ownsRow w.heap.size 3 1 v' (G2 (G1 f b) b).length ((G2 (G1 f b) b).map vint))/\(E≠0->v'= .slice none 0 0):=by
 have v:=Lib.hid hf;have m:=Lib.hid hb;obtain⟨A,c,rfl,M,J,_,O⟩:=hf;obtain⟨P,Q,rfl,I,H,_,G⟩:=hb;have F:=hg;have B:=hg2;unfold qAY at F B;have t:=hyd1 hE;clear O G hE
 by_cases x:E=0
 ·have n:=qOR (t.out.trans x);have q:=hok1 n.1 n.2;have⟨o,j⟩:=hyd2 n q;clear n q hok1;subst x;go_enter Tryz.func101,Tryz.ntmps101;go_wp2_with (first | (go_at_call 156;refine(qHO _ _ f b _ v.out m.out).mono ?_;rintro e w' ⟨rfl,rfl⟩;rw[t.out]));go_loopw [19,0] (λi s wr=>∃k:Nat,k<=2/\i= .int .i64 k/\Below w.heap.size w wr/\Hid ((k=0->s= .slice A f.length c/\wr=w)/\(k=1->wr.ownsRow w.heap.size 3 1 s (G1 f b).length ((G1 f b).map vint))/\(k=2->wr.ownsRow w.heap.size 3 1 s (G2 (G1 f b) b).length ((G2 (G1 f b) b).map vint)))) (λi _ _=>2 - (intOf i).toNat)
  case atStart=>exact⟨0,by omega,rfl,Below.refl _ _,⟨λ_=>⟨rfl,rfl⟩,λh=>absurd h (by omega),λh=>absurd h (by omega)⟩⟩
  case round=>
   obtain⟨k,R,rfl,g,d⟩:=hrel
   obtain rfl|rfl|rfl:k=0∨k=1∨k=2:=by omega
   ·obtain⟨rfl,rfl⟩:=d.out.1 rfl;clear d;go_wp2_with (first | (refine(hG _ _ _ v.out m.out o.out.1 o.out.2).mono ?_;rintro e w' ⟨v',rfl,D,y⟩;have r:=Lib.hid y;clear y));go_roundw
    case rel=>exact⟨1,by omega,by go_num,D,⟨λh=>absurd h (by omega),λ_=>r.out,λh=>absurd h (by omega)⟩⟩
    case measure=>simp[intOf]
   ·have l:=Lib.hid (d.out.2.1 rfl);clear d;have L:wr.cell? ⟨ba,1,none⟩=some (.func (.func g2) #[] #[]):=(g.cell (p:=⟨ba,1,none⟩) hba).trans hc2;have z:=g.size;clear hc hc2;go_wp2_with (first | (refine(hG2 _ _ _ (Arr.of_own l.out) (m.out.below g) j.out.1 j.out.2).mono ?_;rintro e w' ⟨v',rfl,D,y⟩;have r:=Lib.hid (qBr y z);clear y));go_roundw
    case rel=>exact⟨2,by omega,by go_num,g.trans (D.mono z),⟨λh=>absurd h (by omega),λh=>absurd h (by omega),λ_=>r.out⟩⟩
    case measure=>simp[intOf]
   ·have l:=Lib.hid (d.out.2.2 rfl);clear d;go_wp2;go_ret2;exact⟨_,rfl,g,λ_=>l.out,λh=>absurd rfl h⟩
 ·have N:(E != 0)=true:=by simpa using x
  have C:=hyd1 x;clear x;go_enter Tryz.func101,Tryz.ntmps101;go_wp2_with (first | (go_at_call 156;refine(qHO _ _ f b _ v.out m.out).mono ?_;rintro e w' ⟨rfl,rfl⟩;rw[t.out]));go_ret2;exact⟨_,rfl,Below.refl _ _,λh=>absurd h C.out,λ_=>rfl⟩
theorem qFT (vf vb:Value) (f b:List Int) (w:World) (hf:Ints w vf f) (hb:Ints w vb b) (E:Int) (hE:qAt f b=E):
  Calls Tryz.prog 51 #[vf,vb] w λe w'=>∃v',e= .returned (.tuple #[v',.int .i64 E])/\Below w.heap.size w w'∧
   (E=0->w'.ownsRow w.heap.size 3 1 v' (qBF f b).length ((qBF f b).map vint))/\(E≠0->v'= .slice none 0 0):=by
 unfold qBF;have o:=Lib.hid hf;have n:=Lib.hid hb;obtain⟨A,c,rfl,t,s,_,v⟩:=hf;obtain⟨x,y,rfl,r,q,_,p⟩:=hb;clear v p;have m:=hyd1 hE;clear hE;go_enter Tryz.func51,Tryz.ntmps51;go_wp2_with (first | (go_at_call 101;refine(qQg 102 103 qBv qAs _ _ f b _ w.heap.size (o.out.below (alc1 _ _)) (n.out.below (alc1 _ _)) (by simp) (World.cell?_alloc_at _ _ _ _ rfl) (World.cell?_alloc_at _ _ _ _ rfl) (λ_ _=>by kernel_rfl) (λ_ _=>by kernel_rfl) (λg d=>⟨qQf g d,by rw[qBs];exact d⟩) (λj i W g d k l=>qLk j i f b W g d k l) (λj i W g d k l=>qJr j i (qBv f b) b W g d k l) E m.out).mono ?_;rintro e w' ⟨v',rfl,g,d,k⟩));go_ret2;exact⟨v',rfl,(alc1 _ _).trans (g.mono (by simp)),λh=>qBr (d h) (by simp),k⟩
theorem qLl (vf vb:Value) (f b:List Int) (w:World) (hf:Ints w vf f) (hb:Ints w vb b) (E:Int) (hE:qAt f b=E):
  Calls Tryz.prog 52 #[vf,vb] w λe w'=>∃v',e= .returned (.tuple #[v',.int .i64 E])/\Below w.heap.size w w'∧
   (E=0->w'.ownsRow w.heap.size 3 1 v' (qBv f b).length ((qBv f b).map vint))/\(E≠0->v'= .slice none 0 0):=by
 have l:=Lib.hid hf;have k:=Lib.hid hb;obtain⟨A,c,rfl,t,s,_,v⟩:=hf;obtain⟨x,y,rfl,q,p,_,m⟩:=hb;clear v m;have j:=hyd1 hE;clear hE;go_enter Tryz.func52,Tryz.ntmps52;go_wp2_with (first | (go_at_call 101;refine(qLH 102 qBv _ _ f b _ w.heap.size (l.out.below (alc1 _ _)) (k.out.below (alc1 _ _)) (by simp) (World.cell?_alloc_at _ _ _ _ rfl) (λ_ _=>by kernel_rfl) (qBs f b) (λo n W d g i r=>qLk o n f b W d g i r) E j.out).mono ?_;rintro e w' ⟨v',rfl,d,g,i⟩));go_ret2;exact⟨v',rfl,(alc1 _ _).trans (d.mono (by simp)),λh=>qBr (g h) (by simp),i⟩
def qFy (w:World) (low high rub:List Int) (e:Ending) (w':World):Prop:=∃v',e= .returned (.tuple #[v',.int .i64 (rebN low high rub:Nat),.int .i64 (rebE low high rub)])/\Below w.heap.size w w'∧
 w'.ownsRow w.heap.size 3 1 v' (rebL low high rub).length ((rebL low high rub).map vint)
theorem qFU {w w':World} {low high rub:List Int} {E:Int} {N:Int} (hE:rebE low high rub=E) (h0:E≠0) (hN:(rebN low high rub:Int)=N) (hb:Below w.heap.size w w'):
  qFy w low high rub (.returned (.tuple #[.slice none 0 0,.int .i64 N,.int .i64 E])) w':=by
 refine⟨_,by rw[hE,hN],hb,?_⟩;have:rebL low high rub=[]:=by unfold rebL;rw[hE,if_neg h0]
 rw[this];exact World.ownsRow_nil _ _ _ _
theorem qGy {low high rub:List Int} {E:Int} (hE:rebE low high rub=E) (h6:E≠6):(rebN low high rub:Int)=0:=by
 unfold rebN;rw[hE,if_neg h6];rfl
theorem qQh {w w':World} {low high rub:List Int} {v:Value} (hE:rebE low high rub=0) (hb:Below w.heap.size w w') (ho:w'.ownsRow w.heap.size 3 1 v (qBv high rub).length ((qBv high rub).map vint)):
  qFy w low high rub (.returned (.tuple #[v,.int .i64 0,.int .i64 0])) w':=by
 refine⟨v,by rw[hE,qGy hE (by decide)],hb,?_⟩;have:rebL low high rub=qBv high rub:=by unfold rebL;rw[hE,if_pos rfl]
 rw[this];exact ho
theorem qQi {low high rub:List Int} (h:qAX low=false):rebE low high rub=30:=by unfold rebE;rw[h];rfl
theorem qP6 {low high rub:List Int} {E:Int} (h:qAX low=true) (hb:qAt high rub=E) (h0:E≠0):rebE low high rub=E:=by
 unfold rebE;rw[h,if_pos rfl,hb,if_neg h0]
theorem qQj {low high rub:List Int} (h:qAX low=true) (hb:qAt high rub=0) (hl:low.length≠high.length):rebE low high rub=2:=by
 unfold rebE;rw[h,if_pos rfl,hb,if_pos rfl,if_neg hl]
theorem qQk {low high rub:List Int} (h:qAX low=true) (hb:qAt high rub=0) (hl:low.length=high.length) {i:Nat} (hi:qDa high low low.length=some i):rebE low high rub=2:=by
 unfold rebE;rw[h,if_pos rfl,hb,if_pos rfl,if_pos hl,hi];rfl
theorem qP7 {low high rub:List Int} (h:qAX low=true) (hb:qAt high rub=0) (hl:low.length=high.length) (hi:qDa high low low.length=none) {i:Nat} (hj:qDa (qBF high rub) low low.length=some i):rebE low high rub=6/\(rebN low high rub:Int)=i:=by
 have b:rebE low high rub=6:=by unfold rebE;rw[h,if_pos rfl,hb,if_pos rfl,if_pos hl,hi,hj];rfl
 exact⟨b,by unfold rebN;rw[b,if_pos rfl,hj];rfl⟩
theorem qRz {low high rub:List Int} (h:qAX low=true) (hb:qAt high rub=0) (hl:low.length=high.length) (hi:qDa high low low.length=none) (hj:qDa (qBF high rub) low low.length=none):rebE low high rub=0:=by
 unfold rebE;rw[h,if_pos rfl,hb,if_pos rfl,if_pos hl,hi,hj];rfl
theorem looks {w:World} {A:Option Addr} {n c:Nat} {xs:List Int} (h:Ints w (.slice A n c) xs) {k:Nat} (hk:k<xs.length):
  ∃b off,A=some ⟨b,off,none⟩/\w.cell? ⟨b,off+k,none⟩=some (.int .i64 (xs.getD k 0)):=by
 obtain⟨b,off,d,_,f⟩:=h.look hk;exact⟨b,off,d,by rw[f];simp[hk]⟩
theorem qGP (vl vh vr:Value) (low high rub:List Int) (w:World) (hl:Ints w vl low) (hh:Ints w vh high) (hr:Ints w vr rub):
  Calls Tryz.prog 20 #[vl,vh,vr] w (qFy w low high rub):=by
 have s:=Lib.hid hl;have D:=Lib.hid hh;have J:=Lib.hid hr;obtain⟨A,c,rfl,ap,ai,_,_⟩:=hl;obtain⟨A',c',rfl,ak,U,_,_⟩:=hh;obtain⟨A2,c2,rfl,_,_,_,_⟩:=hr;unfold maxLen at ai U;obtain⟨B,t⟩:∃B,qAX low=B:=⟨_,rfl⟩;obtain⟨E,v⟩:∃E,qAt high rub=E:=⟨_,rfl⟩
 cases B with
 | false=>
  have p:=Lib.hid (qQi (high:=high) (rub:=rub) t);have⟨f,g⟩:=hyd2 t v;clear v t;go_enter Tryz.func20,Tryz.ntmps20;go_wp2_with (first | (go_at_call 50;((with_reducible refine(qAa _ low _ s.out false f.out).mono ?_);rintro e T ⟨rfl,rfl⟩)))
  go_ret3
  exact qFU p.out (by decide) (qGy p.out (by decide)) (Below.refl _ _)
 | true=>
  by_cases z:E=0
  ·subst z
   by_cases b:low.length=high.length
   ·have ad:((low.length:Int) != (high.length:Int))=false:=by simp[b]
    have ab:(qBF high rub).length =low.length:=by rw[qJZ,b]
    have⟨f,g,d,ac⟩:=hyd4 t v b ab;clear ab b v t;go_enter Tryz.func20,Tryz.ntmps20;go_wp2_with (first | (go_at_call 50;((with_reducible refine(qAa _ low _ s.out true f.out).mono ?_);rintro e T ⟨rfl,rfl⟩))| (go_at_call 51;((with_reducible refine(qFT _ _ high rub _ D.out J.out 0 g.out).mono ?_);rintro e T ⟨vg,rfl,n,m,-⟩;obtain⟨gA,gc,rfl,-,-,-,-⟩:=Arr.of_own (m rfl);have r:=Lib.hid (Arr.of_own (m rfl));clear m)));go_loopw [34] (λi wr=>∃k:Nat,k<=low.length/\i= .int .i64 k/\Below w.heap.size w wr/\Hid (Ints wr (.slice gA (qBF high rub).length gc) (qBF high rub))/\Hid (∀j,j<k->low.getD j 0<=high.getD j 0)) (λi _=>low.length - (intOf i).toNat)
    case atStart=>exact⟨0,Nat.zero_le _,rfl,n,r,Lib.hid λj h=>absurd h (by omega)⟩
    case round=>
     obtain⟨k,hk,rfl,o,hg,l⟩:=hrel;clear n r
     by_cases F:k<low.length
     ·have G:k<high.length:=by have:=d.out;omega
      obtain⟨b1,o1,rfl,O⟩:=looks (s.out.below o) F;obtain⟨b2,o2,rfl,P⟩:=looks (D.out.below o) G;obtain⟨x,Q⟩:∃x,low.getD k 0=x:=⟨_,rfl⟩;obtain⟨y,R⟩:∃y,high.getD k 0=y:=⟨_,rfl⟩;rw[Q]at O;rw[R]at P;have i1:(0:Int)<=(k:Int):=by omega
      have i2:(k:Int)<(low.length:Int):=by omega
      have i3:(k:Int)<(high.length:Int):=by omega
      have⟨H,I⟩:=hyd2 Q R;clear R Q
      by_cases S:y<x
      ·have V:=qIj (X:=high) (Y:=low) F (by rw[H.out,I.out];exact S) l.out;have p:=Lib.hid (qQk f.out g.out d.out V);clear V;go_wp2;go_quiet (fail);go_wp2
       go_ret3
       exact qFU p.out (by decide) (qGy p.out (by decide)) (qAL o _)
      ·go_wp2;go_quiet (fail);go_wp2;go_roundw
       case rel=>exact⟨k+1,by omega,by go_num,qAL o _,hg,Lib.hid λj h=>by
        by_cases N:j=k
        ·subst N;rw[H.out,I.out];omega
        ·exact l.out j (by omega)⟩
       case measure=>simp[intOf];omega
     ·obtain rfl:k=low.length:=by omega
      have Z:=Lib.hid (qIi l.out);have C:=o.size;clear l;go_wp2;generalize wr=w0 at o hg C ⊢;clear wr;go_loopw [49] (λi wr=>∃k:Nat,k<=low.length/\i= .int .i64 k/\Below w.heap.size w wr/\Hid (Ints wr (.slice gA (qBF high rub).length gc) (qBF high rub))/\Hid (∀j,j<k->low.getD j 0<=(qBF high rub).getD j 0)) (λi _=>low.length - (intOf i).toNat)
      case atStart=>exact⟨0,Nat.zero_le _,rfl,o,hg,Lib.hid λj h=>absurd h (by omega)⟩
      case round=>
       obtain⟨k,hk,rfl,q,M,l⟩:=hrel;clear o hg C
       by_cases F:k<low.length
       ·have G:k<(qBF high rub).length :=by have:=ac.out;omega
        obtain⟨b1,o1,rfl,O⟩:=looks (s.out.below q) F;obtain⟨b2,o2,rfl,P⟩:=looks M.out G;obtain⟨x,Q⟩:∃x,low.getD k 0=x:=⟨_,rfl⟩;obtain⟨y,R⟩:∃y,(qBF high rub).getD k 0=y:=⟨_,rfl⟩;rw[Q]at O;rw[R]at P;have i1:(0:Int)<=(k:Int):=by omega
        have i2:(k:Int)<(low.length:Int):=by omega
        have i3:(k:Int)<((qBF high rub).length :Int):=by omega
        have⟨H,I⟩:=hyd2 Q R;clear R Q
        by_cases S:y<x
        ·have V:=qIj (X:=qBF high rub) (Y:=low) F (by rw[H.out,I.out];exact S) l.out;have p:=Lib.hid (qP7 f.out g.out d.out Z.out V);clear V;go_wp2;go_quiet (fail);go_wp2
         go_ret3
         exact qFU p.out.1 (by decide) p.out.2 (qAL q _)
        ·go_wp2;go_quiet (fail);go_wp2;go_roundw
         case rel=>exact⟨k+1,by omega,by go_num,qAL q _,M,Lib.hid λj h=>by
          by_cases N:j=k
          ·subst N;rw[H.out,I.out];omega
          ·exact l.out j (by omega)⟩
         case measure=>simp[intOf];omega
       ·obtain rfl:k=low.length:=by omega
        have aa:=qIi l.out;have p:=Lib.hid (qRz f.out g.out d.out Z.out aa);have C:=q.size;clear l aa M;go_wp2_with (first | (go_at_call 52;((with_reducible refine(qLl _ _ high rub _ (D.out.below q) (J.out.below q) 0 g.out).mono ?_);rintro e T ⟨vu,rfl,n,m,-⟩;have r:=Lib.hid (m rfl);clear m)))
        go_ret3
        exact qQh p.out (q.trans (n.mono C)) (qBr r.out C)
   ·have p:=Lib.hid (qQj t v b);have ad:((low.length:Int) != (high.length:Int))=true:=by simp;omega
    have⟨f,g,d⟩:=hyd3 t v b;clear b v t;go_enter Tryz.func20,Tryz.ntmps20;go_wp2_with (first | (go_at_call 50;((with_reducible refine(qAa _ low _ s.out true f.out).mono ?_);rintro e T ⟨rfl,rfl⟩))| (go_at_call 51;((with_reducible refine(qFT _ _ high rub _ D.out J.out 0 g.out).mono ?_);rintro e T ⟨vg,rfl,n,m,-⟩;obtain⟨gA,gc,rfl,-,-,-,-⟩:=Arr.of_own (m rfl);clear m)))
    go_ret3
    exact qFU p.out (by decide) (qGy p.out (by decide)) n
  ·have p:=Lib.hid (qP6 t v z);have h6:E≠6:=by rw[<-v];exact qP3 high rub
   have aq:(E != 0)=true:=by simpa using z
   have⟨L,ah⟩:=hyd2 z h6;clear z h6;have⟨f,g⟩:=hyd2 t v;clear v t;go_enter Tryz.func20,Tryz.ntmps20;go_wp2_with (first | (go_at_call 50;((with_reducible refine(qAa _ low _ s.out true f.out).mono ?_);rintro e T ⟨rfl,rfl⟩))| (go_at_call 51;((with_reducible refine(qFT _ _ high rub _ D.out J.out E g.out).mono ?_);rintro e T ⟨vg,rfl,n,-,hv⟩;obtain rfl:=hv L.out)))
   go_ret3
   exact qFU p.out L.out (qGy p.out ah.out) n
theorem qSA (f:List Int) (h0:0<f.length) (i:Int):∃q,∃(h:q<f.length),i%(f.length:Int)=(q:Int)/\atR f i=f[q]:=by
 have b:=Int.emod_nonneg i (show(f.length:Int)≠0 by omega);have c:=Int.emod_lt_of_pos i (show(0:Int)<(f.length:Int)by omega);refine⟨(i%(f.length:Int)).toNat,by omega,by omega,?_⟩;unfold atR;rw[List.getD_eq_getElem?_getD,List.getElem?_eq_getElem (by omega)]
 rfl
end Go.Proofs.YtabfaobakmjiaaaGreat

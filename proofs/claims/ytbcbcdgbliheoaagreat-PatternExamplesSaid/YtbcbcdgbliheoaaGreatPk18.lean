/- pattern.Same. pattern.Same. -/
import Derived.Test.YtbcbcdgbliheoaaGreatPk17
namespace Go.Proofs.YtbcbcdgbliheoaaGreat
set_option maxRecDepth 100000
set_option maxHeartbeats 4000000
open Go.RowKit Go.Shelf Go.Sort Go.Lib
set_option linter.unusedVariables false
set_option linter.unusedSimpArgs false
attribute [local go_sem] Oper.semAt_some
attribute [local go_sem ↓] Go.wp_at_zero Go.wp_at_succ
def qFa:Mv:=⟨0,0,false,false⟩
def qCE (pre:List Mv):Mv:=pre.getLast?.getD qFa
def qEW (pre:List Mv):Int:=if pre.isEmpty then 6 else 0
def qDV (B C:Nat) (pre:List Mv) (W:World):Prop:=W.heap[B]? =some (.cells #[.int .i64 (qCE pre).cuts,.int .i64 (qCE pre).turn,.bool (qCE pre).mirror,.bool (qCE pre).back] 39)/\W.heap[C]? =some (.cells #[.int .i64 (qEW pre)] 23)
def qDw (B C:Nat) (_:World) (k:Nat):Prop:=k=B∨k=C
theorem qLr (B C:Nat) (pre:List Mv) (x:Mv) (W:World) (n0:Nat) (hB:n0<=B) (hC:n0<=C) (hne:B≠C) (h:qDV B C pre W):
  Calls Tryz.prog 31 #[x.val,.pointer (some ⟨B,0,none⟩),.pointer (some ⟨C,0,none⟩)] W λe w'=>e= .returned (.bool false)/\qDV B C (pre++[x]) w'/\Below n0 W w'/\qEu (qDw B C) W w'/\∀k,qDw B C w' k->qDw B C W k∨W.heap.size<=k:=by
 obtain⟨b,i⟩:=h;have E:qCE (pre++[x])=x:=by simp[qCE]
 have f:qEW (pre++[x])=0:=by simp[qEW]
 unfold qDV;rw[E,f];obtain⟨s,v,t,r⟩:=x;show Calls Tryz.prog 31 #[.agg #[.int .i64 s,.int .i64 v,.bool t,.bool r],.pointer (some ⟨B,0,none⟩),.pointer (some ⟨C,0,none⟩)] W _;have y:=(gsl b);have z:=(gsl i);generalize (qCE pre).cuts =z0 at b;generalize (qCE pre).turn =z1 at b;generalize (qCE pre).mirror =z2 at b;generalize (qCE pre).back =z3 at b;generalize qEW pre=z4 at i;obtain⟨L,M,N,O⟩:=qAT b;have P:=qAH i;have Q:=qAK b 0;have R:=qAK b 1;have S:=qAK b 2;have T:=qAK b 3;have U:=qAK i 0;have V:¬B=C:=hne;have X:¬C=B:=λe=>hne e.symm;have⟨A,D,J,G⟩:=hyd4 b i E f;clear f E i b;go_enter Tryz.func31,Tryz.ntmps31;go_wp2;go_ret;have q:=set4 (u0:= .int .i64 s) (u1:= .int .i64 v) (u2:= .bool t) (u3:= .bool r) A.out;have c:=qGq (u0:= .int .i64 s) (u1:= .int .i64 v) (u2:= .bool t) (u3:= .bool r) y;have l:=(c.block C z (λe=>hne (by injection e with e;exact e.symm))).trans D.out;generalize (((W.setCell ⟨B,0,none⟩ (.int .i64 s)).setCell ⟨B,1,none⟩ (.int .i64 v)).setCell ⟨B,2,none⟩ (.bool t)).setCell ⟨B,3,none⟩ (.bool r)=W4 at q c l ⊢;have g:(W4.setCell ⟨C,0,none⟩ (.int .i64 0)).heap[B]? =_:=(Below.heap_setCell W4 ⟨C,0,none⟩ _ B hne).trans q;have d:(W4.setCell ⟨C,0,none⟩ (.int .i64 0)).heap[C]? =some (.cells #[.int .i64 0] 23):=by rw[qAy l];rfl
 have j:Below n0 W (W4.setCell ⟨C,0,none⟩ (.int .i64 0)):=((Below.refl n0 W).grown c (by omega) (λk e=>by cases e;exact hB)).setCell (p:=⟨C,0,none⟩) hC _;have n:∀k,k<W.heap.size->k≠B->k≠C->(W4.setCell ⟨C,0,none⟩ (.int .i64 0)).heap[k]? =W.heap[k]? :=λk m H I=>(Below.heap_setCell W4 ⟨C,0,none⟩ _ k I).trans (c.block k m (λe=>H (by injection e)));have F:W.heap.size<=(W4.setCell ⟨C,0,none⟩ (.int .i64 0)).heap.size :=by have:=c.size;simpa[World.setCell]using this
 generalize W4.setCell ⟨C,0,none⟩ (.int .i64 0)=W5 at g d j n F ⊢;refine⟨rfl,⟨(Below.heap_alloc _ _ _ (gsl g)).trans g,(Below.heap_alloc _ _ _ (gsl d)).trans d⟩,j.alloc (by omega) _,?_,λk m=> .inl m⟩;intro k m o;exact(Below.heap_alloc _ _ _ (by omega)).trans (n k m (λe=>o (.inl e)) (λe=>o (.inr e)))
theorem qLs (n0 B C:Nat) (hB:n0<=B) (hC:n0<=C) (hne:B≠C):Recv Tryz.prog n0 31 #[.pointer (some ⟨B,0,none⟩),.pointer (some ⟨C,0,none⟩)] false (qDw B C) (qDV B C) where
 enters:=enters_of Tryz.func31 (by kernel_rfl) rfl
 own:=by
  rintro b W k ⟨c,d⟩ (rfl|rfl)
  ·exact⟨hB,(gsl c)⟩
  ·exact⟨hC,(gsl d)⟩
 cells:=by
  rintro b W k ⟨c,d⟩ (rfl|rfl)
  ·exact⟨_,c,rfl⟩
  ·exact⟨_,d,rfl⟩
 frame:=by
  rintro b W g ⟨c,d⟩ j f;exact⟨⟨(f B (.inl rfl)).trans c,(f C (.inr rfl)).trans d⟩,λk h=>h⟩
 call:=λb x W h i=>qLr B C b x W n0 hB hC hne h
def qC5 (p q:Prog) (how:Nat):Int:=if qAJ p≠0 then qAJ p else if qAJ q≠0 then qAJ q else if 3<how then 2 else qEW (qBk false (qBR p q how))
def qCl (p q:Prog) (how:Nat):Mv:=if qC5 p q how=0 then qCE (qBk false (qBR p q how))else qFa
theorem qEw {w W1:World} {B n:Nat} {v0 v1 v2 v3:Value} {t:TypeId} (hx:W1.heap[B]? =some (.cells #[v0,v1,v2,v3] t)) (hb:Below n w W1) (hn:n<=B) (u0 u1 u2 u3:Value):
  ∃W9,(((W1.setCell ⟨B,0,none⟩ u0).setCell ⟨B,1,none⟩ u1).setCell ⟨B,2,none⟩ u2).setCell ⟨B,3,none⟩ u3=W9/\(W9.cell? ⟨B,0,none⟩=some u0/\W9.cell? ⟨B,1,none⟩=some u1/\W9.cell? ⟨B,2,none⟩=some u2/\W9.cell? ⟨B,3,none⟩=some u3)/\Below n w W9:=
 ⟨_,rfl,qAT (set4 hx),(((hb.setCell (p:=⟨B,0,none⟩) hn u0).setCell (p:=⟨B,1,none⟩) hn u1).setCell (p:=⟨B,2,none⟩) hn u2).setCell (p:=⟨B,3,none⟩) hn u3⟩
structure SameSt (w:World) (p q:Prog) (B C:Nat) (e:Int) (vq:Value) (Q:Nat) (W:World):Prop where
 below:Below w.heap.size w W
 lb:w.heap.size<=B
 lc:B<C
 box:W.heap[B]? =some (.cells #[.int .i64 0,.int .i64 0,.bool false,.bool false] 39)
 err:W.heap[C]? =some (.cells #[.int .i64 e] 23)
theorem SameSt.next {w:World} {p q:Prog} {B C:Nat} {e:Int} {vq:Value} {Q:Nat} {W W':World} (h:SameSt w p q B C e vq Q W) (hb:Below W.heap.size W W'):SameSt w p q B C e vq Q W':=
 ⟨h.below.trans (hb.mono h.below.size),h.lb,h.lc,(hb.block _ (gsl h.box)).trans h.box,(hb.block _ (gsl h.err)).trans h.err⟩
theorem SameSt.put {w:World} {p q:Prog} {B C:Nat} {e:Int} {vq:Value} {Q:Nat} {W:World} (h:SameSt w p q B C e vq Q W) (e':Int):SameSt w p q B C e' vq Q (W.setCell ⟨C,0,none⟩ (.int .i64 e')):=
 ⟨h.below.setCell (p:=⟨C,0,none⟩) (by have:=h.lb;have:=h.lc;show w.heap.size<=C;omega) _,h.lb,h.lc,(Below.heap_setCell W ⟨C,0,none⟩ _ B (by have:=h.lc;show B≠C;omega)).trans h.box,by rw[qAy h.err];rfl⟩
theorem SameSt.start {w w':World} (p q:Prog) {a b:Array Value} (e:Int) (vq:Value) (Q:Nat) (hb:Below (((w.alloc (.cells a 27)).alloc (.cells b 27)).alloc (.cells #[.int .i64 0,.int .i64 0,.bool false,.bool false] 39)).heap.size (((w.alloc (.cells a 27)).alloc (.cells b 27)).alloc (.cells #[.int .i64 0,.int .i64 0,.bool false,.bool false] 39)) w'):
  SameSt w p q (w.heap.size+1+1) w'.heap.size e vq Q (w'.alloc (.cells #[.int .i64 e] 23))/\w'.heap[w.heap.size+1]? =some (.cells b 27):=by
 have d:=hb.size;simp only[World.size_alloc]at d;have f:=(alc3 w (.cells a 27) (.cells b 27) (.cells #[.int .i64 0,.int .i64 0,.bool false,.bool false] 39)).trans (hb.mono (by simp;omega));have c:=(hb.block (w.heap.size+1+1) (by simp)).trans (by have h:=heap_alloc_new ((w.alloc (.cells a 27)).alloc (.cells b 27)) (.cells #[.int .i64 0,.int .i64 0,.bool false,.bool false] 39);simpa only[World.size_alloc]using h);refine⟨⟨f.alloc f.size _,by omega,by omega,(Below.heap_alloc _ _ _ (by omega)).trans c,qAk _ _⟩,?_⟩;refine(hb.block (w.heap.size+1) (by simp)).trans ((Below.heap_alloc _ _ _ (by simp)).trans ?_);have h:=heap_alloc_new (w.alloc (.cells a 27)) (.cells b 27);simpa only[World.size_alloc]using h
theorem SameSt.start0 {w w':World} {a b:Array Value} (hb:Below (((w.alloc (.cells a 27)).alloc (.cells b 27)).alloc (.cells #[.int .i64 0,.int .i64 0,.bool false,.bool false] 39)).heap.size (((w.alloc (.cells a 27)).alloc (.cells b 27)).alloc (.cells #[.int .i64 0,.int .i64 0,.bool false,.bool false] 39)) w'):
  Below w.heap.size w w'/\w'.heap[w.heap.size+1+1]? =some (.cells #[.int .i64 0,.int .i64 0,.bool false,.bool false] 39)/\w.heap.size+1+1<w'.heap.size:=by
 have d:=hb.size;simp only[World.size_alloc]at d;have f:=(alc3 w (.cells a 27) (.cells b 27) (.cells #[.int .i64 0,.int .i64 0,.bool false,.bool false] 39)).trans (hb.mono (by simp;omega));have c:=(hb.block (w.heap.size+1+1) (by simp)).trans (by have h:=heap_alloc_new ((w.alloc (.cells a 27)).alloc (.cells b 27)) (.cells #[.int .i64 0,.int .i64 0,.bool false,.bool false] 39);simpa only[World.size_alloc]using h);exact⟨f,c,by omega⟩
theorem qJi (v0 v1 v5:Value) (p:Prog) (w:World) (h0:Ints w v0 p.ros) (h1:Ints w v1 p.rub) (h5:Ints w v5 p.shifts) (hE:qAJ p=0):
  Calls Tryz.prog 21 #[.agg #[v0,v1,.int .i64 p.start,.int .i64 p.throw,.int .i64 p.adv,v5]] w λe w'=>∃(b:Nat) (vl:Value),e= .returned (.tuple #[.pointer (some ⟨b,0,none⟩),.int .i64 0])/\Below w.heap.size w w'/\w.heap.size<=b/\w'.heap[b]? =some (.cells (qAq p v0 v1 v5 vl p.shifts.length) 68)/\w'.ownsRow w.heap.size 3 1 vl (qAP p.ros p.rub).length ((qAP p.ros p.rub).map vint):=by
 have aa:=Lib.hid (show IsProg w (.agg #[v0,v1,.int .i64 p.start,.int .i64 p.throw,.int .i64 p.adv,v5]) p from⟨v0,v1,v5,rfl,h0,h1,h5⟩);have C:=hyd1 hE
 ·have d:=qEq C.out;have⟨Q,R,S⟩:=hyd3 h0 h1 h5;obtain⟨A0,c0,rfl,aw,a5,_,_⟩:=h0;obtain⟨A1,c1,rfl,ax,a6,_,_⟩:=h1;obtain⟨A5,c5,rfl,ay,a7,_,a8⟩:=h5;clear hE;have U:qBx p.ros p.rub=0:=by unfold qBx;rw[d.1,d.2.1];rfl
  have Z:=Lib.hid (qDT d.1 d.2.1);go_enter Tryz.func21,Tryz.ntmps21;go_wp2_with (first | (go_at_call 20;refine(qCz _ p _ (aa.out.below (alc1 _ _)) 0 C.out).mono ?_;rintro e w1 ⟨rfl,E⟩;obtain⟨f,A,z,D⟩:=qL3 E;obtain⟨p0,p1,p2,p3,p4,p5⟩:=qAx z;clear E)| (go_at_call 51;refine(qGK _ _ p.ros p.rub _ (Q.out.below f) (R.out.below f) 0 U).mono ?_;rintro e w2 ⟨vl,rfl,l,v,-⟩;have q:=f.trans (l.mono D);have O:=(l.block w.heap.size A).trans z;have B:=Nat.lt_of_lt_of_le A l.size;have n:=Lib.hid (Arr.of_own (v rfl));have M:=Lib.hid (qBv (v rfl) f.size);obtain⟨lA,lc,L,Y,a4,_,_⟩:=n.out;rw[qAQ]at L Y;subst L;clear v l z A D p0 p1 p2 p3 p4 p5 f)| (go_at_call 52;refine(qFH _ _ _ n.out Z.out).mono ?_;rintro e o ⟨rfl,c⟩;have r:=q.trans (c.mono q.size);have ad:=(c.block w.heap.size B).trans O;have aC:=Nat.lt_of_lt_of_le B c.size;have a3:=Lib.hid (n.out.below c);have ab:=Lib.hid (qAN M.out c);obtain⟨p0,p1,p2,p3,p4,p5⟩:=qAx ad;clear c O B n q));have T:=progB_iff.1 d.2.2;have af:=T.2.2.2.1;have g:=r.size;have I:=(rosOk_iff.1 d.1)
  go_loopw [48] (λi wr=>∃k:Nat,k<=p.shifts.length/\i= .int .i64 k/\Below o.heap.size o wr/\o.heap.size<wr.heap.size∧
   Hid (wr.heap[o.heap.size]? =some (.cells (qAq p (.slice A0 p.ros.length c0) (.slice A1 p.rub.length c1) (.slice A5 p.shifts.length c5) (.slice lA p.ros.length lc) k) 68))) (λi _=>p.shifts.length - (intOf i).toNat)
  case atStart=>exact⟨0,by omega,rfl,alc1 _ _,by simp,Lib.hid ((qAk _ _).trans (by simp[qAq,qBK,qAw]))⟩
  case round=>
   obtain⟨k,hk,rfl,h,N,j⟩:=hrel
   by_cases t:k<p.shifts.length
   ·obtain⟨b,aF,rfl,av,H⟩:=(S.out.below (r.trans (h.mono g))).look t;obtain⟨V,X⟩:=T.2.2.2.2 k t;have s:=qCt j.out k (by omega);rw[show qBK p.shifts k k=qAw p.shifts k from if_pos (Nat.le_refl _)]at s;have G:=qDA j.out;have J:=qGU p.shifts p.ros.length (λi hi=>T.2.2.2.2 i hi) k (by omega);generalize hx:p.shifts[k]=x at H V X;have ac:=hyd1 hx;clear hx;generalize hy:qAw p.shifts k=y at s J;have ae:=hyd1 hy;clear hy;go_wp2;have a0:(k:Int)<13:=by omega
    have a1:(k:Int)+1<13:=by omega
    have a2:(0:Int)<=(k:Int)+1:=by omega
    have a9:IntKind.i64.wrap (k:Int)=(k:Int):=IntWalk.i64_in _ (by omega);have aA:IntKind.i64.wrap ((k:Int)+1)=(k:Int)+1:=IntWalk.i64_in _ (by omega);have aB:0<=y/\y<=1152:=qFY J I.2.1 (by omega);have M:IntKind.i64.wrap (y+x)=y+x:=IntWalk.i64_in _ (by omega)
    go_still_tail 14,(by kernel_rfl)
    change wpList _ _ _ _ _ wr.drew;have F:Below o.heap.size o wr.drew:=h.drew;have m:Hid (wr.drew.heap[o.heap.size]? =_):=j;have P:o.heap.size<wr.drew.heap.size:=N;clear j h N s G H;generalize wr.drew=w4 at F m P ⊢;have au:=qCt m.out (k+1) (by omega);have G:=qDA m.out;go_wp2;go_roundw
    case rel=>exact⟨k+1,by omega,by go_num,F.setCell (p:=⟨o.heap.size,10+(k+1),none⟩) (Nat.le_refl _) _,by simpa[World.setCell]using P,Lib.hid ((qAy m.out).trans (by rw[<-ac.out,<-ae.out,<-qEp _ _ t,qGe _ _ _ _ _ _ (by omega)]))⟩
    case measure=>simp[intOf];omega
   ·obtain rfl:k=p.shifts.length:=by omega
    go_wp2;go_ret2;exact⟨_,_,rfl,r.trans (h.mono g),g,j.out,qAN ab.out h⟩
end Go.Proofs.YtbcbcdgbliheoaaGreat
namespace Go.Proofs.YtbcbcdgbliheoaaGreat
set_option maxRecDepth 100000
set_option maxHeartbeats 4000000
open Go.RowKit Go.Shelf Go.Sort Go.Lib
set_option linter.unusedVariables false
set_option linter.unusedSimpArgs false
attribute [local go_sem] Oper.semAt_some
attribute [local go_sem ↓] Go.wp_at_zero Go.wp_at_succ
structure Bth (w' w2:World) (C b2 g:Nat) (W:World):Prop where
 below:Below C w' W
 size:w2.heap.size<=W.heap.size
 one:W.heap[b2]? =w2.heap[b2]?
 two:W.heap[g]? =w2.heap[g]?
theorem Bth.next {w' w2:World} {C b2 g:Nat} {W W':World} (h:Bth w' w2 C b2 g W) (hC:w'.heap.size=C) (h2:b2<w2.heap.size) (hg:g<w2.heap.size) (hb:Below W.heap.size W W'):Bth w' w2 C b2 g W':=
 ⟨h.below.trans (hb.mono (by have:=h.below.size;omega)),Nat.le_trans h.size hb.size,(hb.block _ (by have:=h.size;omega)).trans h.one,(hb.block _ (by have:=h.size;omega)).trans h.two⟩
theorem Bth.put {w' w2:World} {C b2 g:Nat} {W:World} (h:Bth w' w2 C b2 g W) (hb:C<b2) (hg:C<g) (v:Value):Bth w' w2 C b2 g (W.setCell ⟨C,0,none⟩ v):=
 ⟨h.below.setCell (p:=⟨C,0,none⟩) (Nat.le_refl _) _,by have:=h.size;simpa[World.setCell]using this,(Below.heap_setCell W ⟨C,0,none⟩ _ b2 (by show b2≠C;omega)).trans h.one,(Below.heap_setCell W ⟨C,0,none⟩ _ g (by show g≠C;omega)).trans h.two⟩
theorem Bth.save {w' w2:World} {C b2 g X:Nat} {W W':World} (h:Bth w' w2 C b2 g W) (hb:C<b2) (hg:C<g) (h2:b2<w2.heap.size) (hg2:g<w2.heap.size) (hX:w2.heap.size<=X) (hbl:Below C W W') (hs:qEu (qDw X C) W W'):Bth w' w2 C b2 g W':=
 ⟨h.below.trans hbl,Nat.le_trans h.size hbl.size,(hs _ (by have:=h.size;omega) (by rintro(rfl|rfl)<;>omega)).trans h.one,(hs _ (by have:=h.size;omega) (by rintro(rfl|rfl)<;>omega)).trans h.two⟩
theorem qLt {w2:World} {b2 C:Nat} {q:Prog} {u0 u1 u5 vl:Value} {w':World} (hC:w'.heap.size=C) (k0:Ints w' u0 q.ros) (k1:Ints w' u1 q.rub) (k5:Ints w' u5 q.shifts) (hb2:C<b2) (hcs:w2.heap[b2]? =some (.cells (qAq q u0 u1 u5 vl q.shifts.length) 68)) (how:w2.ownsRow (C+1) 3 1 vl (qAP q.ros q.rub).length ((qAP q.ros q.rub).map vint)):
  ∃g,C<g/\g<w2.heap.size/\∀W,Bth w' w2 C b2 g W->IsBench W b2 q:=by
 subst hC;have b:=(gsl hcs);obtain⟨c,d⟩:=how
 rcases d with⟨rfl,h0⟩| ⟨g,cap,cur,rfl,hbg,hg,r⟩
 ·exact⟨b2,hb2,b,λW h=>⟨u0,u1,u5,_,h.one.trans hcs,k0.below h.below,k1.below h.below,k5.below h.below,by rw[List.length_eq_zero_iff.1 h0];exact Arr.nil _ _⟩⟩
 ·exact⟨g,by omega,(gsl hg),λW h=>⟨u0,u1,u5,_,h.one.trans hcs,k0.below h.below,k1.below h.below,k5.below h.below,Arr.of_own (base:=w'.heap.size+1) (e:=3) ⟨c,.inr ⟨g,cap,cur,rfl,hbg,h.two.trans hg,r⟩⟩⟩⟩
theorem qMy {p q:Prog} {how:Nat} (hp:qAJ p=0) (hq:qAJ q=0) (hh:how<=3):qCl p q how=qCE (qBk false (qBR p q how))/\qC5 p q how=qEW (qBk false (qBR p q how)):=by
 have b:qC5 p q how=qEW (qBk false (qBR p q how)):=by unfold qC5;rw[if_neg (by simpa using hp),if_neg (by simpa using hq),if_neg (by omega)]
 refine⟨?_,b⟩;unfold qCl;rw[b];generalize qBk false (qBR p q how)=L
 cases L with
 | nil=>rfl
 | cons a l=>simp[qEW]
theorem qE4 (vp vq:Value) (p q:Prog) (how:Nat) (w:World) (hvp:IsProg w vp p) (hvq:IsProg w vq q) (E:Int) (hE:qC5 p q how=E):
  Calls Tryz.prog 12 #[vp,vq,.int .u8 how] w λe w'=>e= .returned (.tuple #[(qCl p q how).val,.int .i64 E])/\Below w.heap.size w w':=by
 have a9:=Lib.hid hvp;have br:=Lib.hid hvq;obtain⟨v0,v1,v5,rfl,h0,h1,h5⟩:=hvp;obtain⟨u0,u1,u5,rfl,k0,k1,k5⟩:=hvq;clear h0 h1 h5;obtain⟨F,hF⟩:∃F,qAJ p=F:=⟨_,rfl⟩;obtain⟨M,hM⟩:∃M,qCl p q how=M:=⟨_,rfl⟩;rw[hM]
 by_cases O:F=0
 ·subst O;obtain⟨G,hG⟩:∃F,qAJ q=F:=⟨_,rfl⟩
  by_cases P:G=0
  ·subst P;have aQ:=Lib.hid k0;have aR:=Lib.hid k1;have aS:=Lib.hid k5;have aU:=qAr hF;have aW:=qAr hG;clear k0 k1 k5;have⟨N,x,S,T,aV,aX⟩:=hyd6 hE hF hG hM aU aW;clear aW aU hM hG hF hE;go_enter Tryz.func12,Tryz.ntmps12;go_upto_region 2 with(go_at_call 21;((with_reducible refine(qAM _ p _ (a9.out.below (alc3 _ _ _ _)) 0 x.out).mono ?_);rintro e w' ⟨vb,rfl,o,-,ab⟩;obtain⟨b,rfl,-,H⟩:=ab rfl;have bk:=Lib.hid H;clear ab H));obtain⟨f,z⟩:=SameSt.start p q (a:=#[v0,v1,.int .i64 p.start,.int .i64 p.throw,.int .i64 p.adv,v5]) (b:=#[u0,u1,.int .i64 q.start,.int .i64 q.throw,.int .i64 q.adv,u5]) 0 (.int .i64 0) 0 o;obtain⟨aO,a5,ai⟩:=SameSt.start0 o;have i:=(Below.heap_alloc w' (.cells #[.int .i64 0] 23) _ (gsl z)).trans z;have ah:=alc1 w' (.cells #[.int .i64 0] 23);have an:(w'.alloc (.cells #[.int .i64 0] 23)).heap.size =w'.heap.size+1:=by simp
   clear z o;generalize w'.alloc (.cells #[.int .i64 0] 23)=W1 at f i ah an ⊢;obtain⟨C,hC⟩:∃C,w'.heap.size=C:=⟨_,rfl⟩;rw[hC]at f ah an ai ⊢;obtain⟨B,k⟩:∃B,w.heap.size+1+1=B:=⟨_,rfl⟩;rw[k]at f a5 ai ⊢;have y0:=qAH f.err;obtain⟨q0,q1,q2,q3,q4,q5⟩:=qAx i;have c:=hyd1 f;clear f;have⟨Q,A,r,av,aq,ao,J,L⟩:=hyd8 k i aO a5 ai ah an hC;clear hC an ah ai a5 aO i k;go_upto_region 5 with(go_at_call 21;((with_reducible refine(qJi _ _ _ q _ (aQ.out.below c.out.below) (aR.out.below c.out.below) (aS.out.below c.out.below) S.out).mono ?_);rintro e w2 ⟨b2,vl,rfl,o,aL,aP,ax⟩;have j:=c.out.next o;have aI:=ao.out.trans (o.mono (by have:=J.out;omega));have m:=Lib.hid j;have z0:=qAH j.err;have zf:=qAK j.err 0;have Y:=Lib.hid aP;have ac:=Lib.hid ax;have au:=Lib.hid aL;have ap:=Lib.hid aI;clear aP ax aL aI o j y0 q0 q1 q2 q3 q4 q5));have D:C<b2:=by have:=au.out;have:=J.out;omega
   obtain⟨g,a2,a8,aa⟩:=qLt (u0:=u0) (u1:=u1) (u5:=u5) (vl:=vl) (q:=q) L.out (aQ.out.below r.out) (aR.out.below r.out) (aS.out.below r.out) D Y.out (qBv ac.out (by have:=J.out;omega));have U:=(gsl Y.out);have aB:=Bth.put (w':=w') (w2:=w2) (b2:=b2) (g:=g) (C:=C) (W:=w2) ⟨ap.out,Nat.le_refl _,rfl,rfl⟩ D a2 (.int .i64 0);have d:=m.out.put 0;generalize w2.setCell ⟨C,0,none⟩ (.int .i64 0)=W3 at aB d ⊢;clear m z0 zf Y ac ap au c A ao J;have Z:=hyd1 aB;obtain⟨x0,x1,x2,x3⟩:=qAT d.box;have y0:=qAH d.err;have f0:=qAK d.box 0;have f1:=qAK d.box 1;have f2:=qAK d.box 2;have f3:=qAK d.box 3;have g0:=qAK d.err 0;have n1:¬B=C:=by have:=d.lc;omega
   have n2:¬C=B:=λe=>n1 e.symm;have⟨c,I⟩:=hyd2 d aa;clear d aB aa
   by_cases hh:3<how
   ·have R:E=2:=by rw[<-N.out];unfold qC5;rw[if_neg (by simp[x.out]),if_neg (by simp[S.out]),if_pos hh]
    subst R;have s:M=qFa:=by rw[<-T.out];unfold qCl;rw[N.out,if_neg (by decide)]
    subst s;have bq:(3:Int)<(how:Int):=by omega
    go_wp2;obtain⟨W9,y,⟨r0,r1,r2,r3⟩,n⟩:=qEw c.out.box c.out.below c.out.lb (.int .i64 0) (.int .i64 0) (.bool false) (.bool false)
    try rw[y]
    exact bodyPost_ret (v:= .tuple #[.agg #[.int .i64 0,.int .i64 0,.bool false,.bool false],.int .i64 2]) (by simp[results,Tryz.results12,go_sem,r0,r1,r2,r3]) rfl ⟨rfl,n⟩
   ·have bq:(how:Int)<=3:=by omega
    go_upto_region 10 with(fail);have t:=c.out.next (alc1 W3 (.cells #[.int .i64 0,.int .i64 0,.bool false,.bool false] 39));have aC:=Z.out.next L.out U a8 (alc1 W3 (.cells #[.int .i64 0,.int .i64 0,.bool false,.bool false] 39));have al:=qAk W3 (.cells #[.int .i64 0,.int .i64 0,.bool false,.bool false] 39);obtain⟨X,hX⟩:∃X,W3.heap.size=X:=⟨_,rfl⟩;have bo:w2.heap.size<=X:=by rw[<-hX];exact Z.out.size
    rw[hX]at al ⊢;clear c Z x0 x1 x2 x3 y0 f0 f1 f2 f3 g0;generalize W3.alloc (.cells #[.int .i64 0,.int .i64 0,.bool false,.bool false] 39)=W4 at t aC al ⊢;clear hX;have y0:=qAH t.err;have g0:=qAK t.err 0;have⟨ad,a1,ar⟩:=hyd3 t aC al;clear t aC al;go_upto_region 11 with(fail);have af:=a1.out.put D a2 (.int .i64 6);have ae:=ad.out.put 6;have a4:=(Below.heap_setCell W4 ⟨C,0,none⟩ (.int .i64 6) X (by show X≠C;omega)).trans ar.out;clear ad a1 ar y0 g0;generalize W4.setCell ⟨C,0,none⟩ (.int .i64 6)=W5 at af ae a4 ⊢;obtain⟨s,aA⟩:=qMy x.out S.out (Nat.le_of_not_lt hh);rw[T.out]at s;rw[N.out]at aA
    have aY:Calls Tryz.prog 30 #[.pointer (some ⟨b,0,none⟩),.pointer (some ⟨b2,0,none⟩),.int .u8 how,.func (.func 31) #[] #[.pointer (some ⟨X,0,none⟩),.pointer (some ⟨C,0,none⟩)]] W5 λe w9=>e= .returned (.tuple #[])/\Below C w' w9/\qDV X C (qBk false (qBR p q how)) w9:=
     qGr p q b b2 how 31 #[.pointer (some ⟨X,0,none⟩),.pointer (some ⟨C,0,none⟩)] false (qDw X C) (qDV X C) C (Bth w' w2 C b2 g) w' W5
      ⟨λW h=>bk.out.below (by rw[L.out];exact h.below),λW h=>I.out W h,λW W' h o=>h.next L.out U a8 o,λW W' h o hs=>h.save D a2 U a8 bo o hs⟩
      af aV.out aX.out (Nat.le_of_not_lt hh) (qLs C X C (by omega) (Nat.le_refl _) (by omega)) af.below (by have:=af.below.size;have:=L.out;omega) ⟨a4,ae.err⟩
    clear af ae a4;have⟨ay,a0,az⟩:=hyd3 aY s aA;clear aA s aY;go_upto_region 12 with(go_at_call 30;((with_reducible refine ay.out.mono ?_);rintro e w9 ⟨rfl,n,am⟩;unfold qDV at am;rw[<-a0.out,<-az.out]at am;have V:=Lib.hid n;have aw:=Lib.hid am;clear n am));obtain⟨aD,a7⟩:=aw.out;have l:=(V.out.block B aq.out).trans av.out;have bs:w.heap.size<=C:=by have:=r.out.size;have:=L.out;omega
    have aM:=r.out.trans (V.out.mono bs);have bl:w.heap.size<=B:=by have:=Q.out;omega
    clear ay a0 az V aw r av T N I;obtain⟨mc,mt,mm,mb⟩:=M;obtain⟨x0,x1,x2,x3⟩:=qAT l;obtain⟨m0,m1,m2,m3⟩:=qAT aD;have y0:=qAH a7;have f0:=qAK l 0;have f1:=qAK l 1;have f2:=qAK l 2;have f3:=qAK l 3;have n3:¬B=X:=by have:=aq.out;omega
    have n4:¬X=B:=λe=>n3 e.symm;have⟨bB,bA,a6,aN⟩:=hyd4 aD a7 l aM;clear aM l a7 aD;go_wp2;go_region
    all_goals
     go_wp2;obtain⟨W9,y,⟨r0,r1,r2,r3⟩,n⟩:=qEw a6.out aN.out bl (.int .i64 mc) (.int .i64 mt) (.bool mm) (.bool mb);rw[y];exact bodyPost_ret (v:= .tuple #[.agg #[.int .i64 mc,.int .i64 mt,.bool mm,.bool mb],.int .i64 E]) (by simp[results,Tryz.results12,go_sem,r0,r1,r2,r3]) rfl ⟨rfl,n.drew⟩
  ·have R:E=G:=by rw[<-hE];unfold qC5;rw[if_neg (by simpa using hF),if_pos (by rw[hG];exact P),hG]
   subst R;have s:M=qFa:=by rw[<-hM];unfold qCl;rw[hE,if_neg P]
   subst s;have bM:(E != 0)=true:=by simpa using P
   clear k0 k1 k5;have⟨N,x,S,T,aK⟩:=hyd5 hE hF hG hM P;clear P hM hG hF hE;go_enter Tryz.func12,Tryz.ntmps12;go_upto_region 2 with(go_at_call 21;((with_reducible refine(qAM _ p _ (a9.out.below (alc3 _ _ _ _)) 0 x.out).mono ?_);rintro e w' ⟨vb,rfl,o,-,ab⟩;obtain⟨b,rfl,-,-⟩:=ab rfl;clear ab));obtain⟨f,z⟩:=SameSt.start p q (a:=#[v0,v1,.int .i64 p.start,.int .i64 p.throw,.int .i64 p.adv,v5]) (b:=#[u0,u1,.int .i64 q.start,.int .i64 q.throw,.int .i64 q.adv,u5]) 0 (.int .i64 0) 0 o;have i:=(Below.heap_alloc w' (.cells #[.int .i64 0] 23) _ (gsl z)).trans z;clear z o;generalize w'.alloc (.cells #[.int .i64 0] 23)=W1 at f i ⊢;generalize w'.heap.size=C at f ⊢;clear w';obtain⟨B,k⟩:∃B,w.heap.size+1+1=B:=⟨_,rfl⟩;rw[k]at f ⊢;have y0:=qAH f.err;obtain⟨q0,q1,q2,q3,q4,q5⟩:=qAx i;have c:=hyd1 f;clear f;have⟨Q,A⟩:=hyd2 k i;clear i k;go_upto_region 5 with(go_at_call 21;((with_reducible refine(qAM _ q _ (br.out.below c.out.below) E S.out).mono ?_);rintro e w2 ⟨vb,rfl,o,hn,-⟩;obtain rfl:=hn aK.out;have j:=c.out.next o;have m:=Lib.hid j;have z0:=qAH j.err;have zf:=qAK j.err 0;clear o hn j y0 q0 q1 q2 q3 q4 q5));have d:=m.out.put E;generalize w2.setCell ⟨C,0,none⟩ (.int .i64 E)=W3 at d ⊢;clear m z0 zf c A;obtain⟨x0,x1,x2,x3⟩:=qAT d.box;have y0:=qAH d.err
   have f0:=qAK d.box 0;have f1:=qAK d.box 1;have f2:=qAK d.box 2;have f3:=qAK d.box 3;have n1:¬B=C:=by have:=d.lc;omega
   have n2:¬C=B:=λe=>n1 e.symm;have c:=hyd1 d;clear d;go_wp2;go_region
   all_goals
    go_wp2;obtain⟨W9,y,⟨r0,r1,r2,r3⟩,n⟩:=qEw c.out.box c.out.below c.out.lb (.int .i64 0) (.int .i64 0) (.bool false) (.bool false);rw[y];exact bodyPost_ret (v:= .tuple #[.agg #[.int .i64 0,.int .i64 0,.bool false,.bool false],.int .i64 E]) (by simp[results,Tryz.results12,go_sem,r0,r1,r2,r3]) rfl ⟨rfl,n.drew⟩
 ·have R:E=F:=by rw[<-hE];unfold qC5;rw[hF,if_pos O]
  subst R;have s:M=qFa:=by rw[<-hM];unfold qCl;rw[hE,if_neg O]
  subst s;have bL:(E != 0)=true:=by simpa using O
  have⟨N,aJ,T,x⟩:=hyd4 hE O hM hF;clear hF hM O hE;go_enter Tryz.func12,Tryz.ntmps12;go_upto_region 2 with(go_at_call 21;((with_reducible refine(qAM _ p _ (a9.out.below (alc3 _ _ _ _)) E x.out).mono ?_);rintro e w' ⟨vb,rfl,o,hn,-⟩;obtain rfl:=hn aJ.out;clear hn));obtain⟨f,-⟩:=SameSt.start p q (a:=#[v0,v1,.int .i64 p.start,.int .i64 p.throw,.int .i64 p.adv,v5]) (b:=#[u0,u1,.int .i64 q.start,.int .i64 q.throw,.int .i64 q.adv,u5]) E (.int .i64 0) 0 o;clear o;generalize w'.alloc (.cells #[.int .i64 E] 23)=W1 at f ⊢;generalize w'.heap.size=C at f ⊢;clear w';obtain⟨B,k⟩:∃B,w.heap.size+1+1=B:=⟨_,rfl⟩;rw[k]at f ⊢;obtain⟨x0,x1,x2,x3⟩:=qAT f.box;have y0:=qAH f.err;have f0:=qAK f.box 0;have f1:=qAK f.box 1;have f2:=qAK f.box 2;have f3:=qAK f.box 3;have n1:¬B=C:=by have:=f.lc;omega
  have n2:¬C=B:=λe=>n1 e.symm;have c:=hyd1 f;clear f;have Q:=hyd1 k;clear k;go_wp2;go_region
  all_goals
   go_wp2;obtain⟨W9,y,⟨r0,r1,r2,r3⟩,n⟩:=qEw c.out.box c.out.below c.out.lb (.int .i64 0) (.int .i64 0) (.bool false) (.bool false);rw[y];exact bodyPost_ret (v:= .tuple #[.agg #[.int .i64 0,.int .i64 0,.bool false,.bool false],.int .i64 E]) (by simp[results,Tryz.results12,go_sem,r0,r1,r2,r3]) rfl ⟨rfl,n.drew⟩
end Go.Proofs.YtbcbcdgbliheoaaGreat

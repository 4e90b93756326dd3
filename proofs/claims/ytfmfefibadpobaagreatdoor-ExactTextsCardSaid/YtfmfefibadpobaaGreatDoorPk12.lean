/- exact: numbers of 0 or more: over (long division). exact: numbers of 0 or more: over, the long division. exact: numbers of 0 or more: common (the greatest .. -/
import Derived.Test.YtfmfefibadpobaaGreatDoorPk11
namespace Go.Proofs.YtfmfefibadpobaaGreatDoor
set_option maxRecDepth 100000
set_option maxHeartbeats 4000000
open Go.RowKit Go.Shelf
set_option linter.unusedVariables false
set_option linter.unusedSimpArgs false
attribute [local go_sem] Oper.semAt_some
theorem NumL.box_set {L:Nat->Prop} {W:World} {v u x:Value} {n k:Nat} {t:TypeId} (h:NumL L .u32 W v n) (hk:W.heap[k]? =some (.cells #[x] t)) (hx:∀g:Nat,x≠gv .u32 g:=by intro g;unfold gv;simp):NumL L .u32 (W.setCell ⟨k,0,none⟩ u) v n:=by
 obtain⟨A,c,D,p,q,y,r⟩:=h;refine⟨A,c,D,p,q,y,λm=>?_⟩;obtain⟨b,d,z,B,i,o⟩:=r m
 have l:b≠k:=by
  rintro rfl;have f:=o 0 m;rw[cell_of_row W b (d+0) _ t (0,0) hk]at f
  by_cases s:d=0
  ·subst s;simp at f;exact hx _ f
  ·rw[Array.getElem?_eq_none (by simp;omega)]at f
   cases f
 exact⟨b,d,z,B,by simpa[World.setCell]using i,λj C=>(World.cell?_of_block (Below.heap_setCell _ _ _ _ l)).trans (o j C)⟩
theorem qAA (w:World) (o:Obj):Le w (w.alloc o):=alc1 w o
theorem al1 (w:World) (o:Obj):∃V,w.alloc o=V/\Le w V/\V.heap[w.heap.size]? =some o:=⟨_,rfl,qAA _ _,by unfold World.alloc;exact Array.getElem?_push_size⟩
theorem qAl {w w':World} {o:Obj} (h:Le (w.alloc o) w'):Le w w'/\w'.heap[w.heap.size]? =some o:=by
 unfold Le at h;rw[World.size_alloc]at h;exact⟨(alc1 w o).trans (h.mono (by omega)),(h.block w.heap.size (by omega)).trans (heap_alloc_new w o)⟩
theorem qFM (L:Nat->Prop) (a b:Nat) (va vb:Value) (w:World) (hL:Up w L) (ha:NumL L .u32 w va a) (hb:NumL L .u32 w vb b) (hma:(dg a).length <=100000000) (hmb:(dg b).length <=100000000) (hlt:a<b):
  Calls Tryz.prog 46 #[va,vb] w λe w'=>∃v1 v2,e= .returned (.tuple #[v1,v2])/\Le w w'/\NumL L .u32 w' v1 (a / b)/\NumL L .u32 w' v2 (a%b):=by
 have i:=ha;have j:=hb;obtain⟨y,E,rfl,O,P,r,q⟩:=ha;obtain⟨N,S,rfl,Q,R,t,s⟩:=hb;have m:a / b=0:=Nat.div_eq_of_lt hlt;have n:a%b=a:=Nat.mod_eq_of_lt hlt;rw[m,n];have⟨f,k,z,A,B,C,J,G⟩:=hyd8 i j q r s t hL m;have H:=hyd1 n;clear n m hL t s r q j i;go_enter Tryz.func46,Tryz.ntmps46;go_wp2_with (first | (go_at_call 70;((with_reducible refine(qCv L a b _ _ _ (f.out.le (qAA _ _)) (k.out.le (qAA _ _)) hma hmb).mono ?_);rintro e w' ⟨c,rfl,l,x,o⟩;obtain⟨h,d⟩:=qAl l;have M:c<0:=x.2 hlt;have F:=qAB d;have I:=fz0 d 0;clear x o l;have g:=Lib.hid h;clear h)));have D:=qAB (qAX d (u:= .slice none 0 0));refine bodyPost_ret (v:= .tuple #[.slice none 0 0,.slice y (dg a).length E]) (by simp[results,Tryz.results46,go_sem,D]) rfl ?_;refine⟨_,_,rfl,?_,?_,?_⟩
 ·exact g.out.setCell (p:=⟨w.heap.size,0,none⟩) (Nat.le_refl _) _
 ·unfold NumL;rw[qAI];exact ArrL.nil _ _ _
 ·exact f.out.le (g.out.setCell (p:=⟨w.heap.size,0,none⟩) (Nat.le_refl _) _)
theorem qG4 {b:Nat} (h:(dg b).length =1):b<B9/\b≠0/\dg b=[b]:=by
 have c:=qA1 b;rw[h,Nat.pow_one]at c;have d:b≠0:=dg_length_pos.1 (by omega);exact⟨c,d,qCj c d⟩
theorem qF6 (L:Nat->Prop) (a b:Nat) (va vb:Value) (w:World) (hL:Up w L) (ha:NumL L .u32 w va a) (hb:NumL L .u32 w vb b) (hma:(dg a).length <=100000000) (hmb:(dg b).length =1) (hge:b<=a):
  Calls Tryz.prog 46 #[va,vb] w λe w'=>∃v1 v2,e= .returned (.tuple #[v1,v2])/\Le w w'/\NumL L .u32 w' v1 (a / b)/\NumL L .u32 w' v2 (a%b):=by
 have H:=ha;have B:=hb;obtain⟨Aa,ca,rfl,a1,a2,aN,a3⟩:=ha;obtain⟨Ab,cb,rfl,b1,b2,bN,R⟩:=hb;obtain⟨g1,g2,U⟩:=qG4 hmb;have hB:=qAD;rw[hmb];rw[hmb]at b1 B;simp only[hmb]at R;obtain⟨bb,ob,rfl,-,M,C⟩:=R (by omega);have D:=C 0 (by omega);simp only[U,List.getElem_cons_zero,Nat.add_zero]at D;unfold gv at D;have J:b<1000000000:=by omega
 have P:a%b<1000000000:=Nat.lt_trans (Nat.mod_lt _ (by omega)) J;obtain⟨r,hr⟩:∃r,a%b=r:=⟨_,rfl⟩;rw[hr]at P ⊢;have Y:0<b:=by omega
 have⟨s,I,aw,ax,az,a0,V,aq⟩:=hyd8 H B a3 aN R bN hL C;have⟨a8,a9,a6,a7,af⟩:=hyd5 U hB g1 g2 hr;clear hr g2 g1 hB U C hL bN R aN a3 B H;go_enter Tryz.func46,Tryz.ntmps46;go_wp2_with (fail);go_at_call 70;refine(qCv L a b _ _ _ (s.out.le (qAA _ _)) (I.out.le (qAA _ _)) hma (by rw[hmb];omega)).mono ?_;rintro e w' ⟨c,rfl,O,hc,Z⟩;have aA:¬c<0:=λh=>by have:=hc.1 h;omega
 obtain⟨j,t⟩:=qAl O;have ar:=(Below.cell j (p:=⟨bb,ob,none⟩) M).trans D;have ao:bb<w'.heap.size:=Nat.lt_of_lt_of_le M j.size;clear hc Z O;have⟨f,m⟩:=hyd2 j t;clear t j;go_wp2_with (fail);go_at_call 71;have g:Up (w'.alloc (.cells #[.int .i64 1] 3)) L:=(V.out.le f.out).le (qAA _ _);refine(qDz L a b _ _ g ((s.out.le f.out).le (qAA _ _)) Y J hma).mono ?_;rintro e w2 ⟨v1,rfl,k,hq⟩;obtain⟨S,T,rfl⟩:=hq.slice;rw[af.out];obtain⟨o,Q⟩:=qAl k;have x:=(Below.block o w.heap.size (by have:=(gsl m.out);omega)).trans m.out;have A:=g.le k;have⟨aa,E,au,n,ad,G,X⟩:=hyd7 k o Q x hq A g;clear g A hq x Q o k;go_wp2_with (fail);go_at_call 72;refine(qGu r w2 (by omega)).mono ?_;rintro e w3 ⟨v2,rfl,l,z⟩;have y:Le w2 w3:=l;have i:=(Below.block l w.heap.size (by have:=(gsl n.out);omega)).trans n.out;have cb:=qAB i;have fb:=fz0 i 0;have⟨ab,q,d,F⟩:=hyd4 l y i z;clear z i y l;go_wp2;have ac:NumL L .u32 w3 v2 r:=ArrL.of_own F.out G.out;have c9:=qAB (qAX d.out (u:= .slice S (dg (a / b)).length T));refine bodyPost_ret (v:= .tuple #[.slice S (dg (a / b)).length T,v2]) (by simp[results,Tryz.results46,go_sem,c9]) rfl ?_;have N:Below w.heap.size w (w3.setCell ⟨w.heap.size,0,none⟩ (.slice S (dg (a / b)).length T)):=Below.setCell (Le.trans (Le.trans f.out E.out) q.out) (p:=⟨w.heap.size,0,none⟩) (Nat.le_refl _) _
 refine⟨_,_,rfl,N,?_,?_⟩
 ·exact((ad.out.le q.out).box_set d.out)
 ·exact ac.box_set d.out
end Go.Proofs.YtfmfefibadpobaaGreatDoor
namespace Go.Proofs.YtfmfefibadpobaaGreatDoor
set_option maxRecDepth 100000
set_option maxHeartbeats 4000000
open Go.RowKit Go.Shelf
set_option linter.unusedVariables false
set_option linter.unusedSimpArgs false
attribute [local go_sem] Oper.semAt_some
def boxRel (B:Nat):WRel where
 r W W':=W.heap.size<=W'.heap.size/\(B<=W.heap.size->Below B W W')/\∀(k:Nat) (v:Value) (t:TypeId),W.heap[k]? =some (Obj.cells #[v] t)->W'.heap[k]? =some (Obj.cells #[v] t)
 refl w:=⟨Nat.le_refl _,λ_=>Below.refl _ _,λ_ _ _ h=>h⟩
 drew w:=⟨Nat.le_refl _,λ_=>Below.drew (Below.refl _ _),λ_ _ _ h=>h⟩
 trans:=by
  rintro a b c ⟨h1,h2,h3⟩ ⟨k1,k2,k3⟩;exact⟨Nat.le_trans h1 k1,λh=>(h2 h).trans (k2 (Nat.le_trans h h1)),λk v t h=>k3 k v t (h3 k v t h)⟩
theorem boxRel.of_le {B:Nat} (a b:World) (h:Le a b):(boxRel B).r a b:=
 ⟨Below.size h,λhB=>Below.mono h hB,λk v t hk=>(Below.block h k (gsl hk)).trans hk⟩
theorem boxRel.of_grown {B:Nat} {W W':World} {e:TypeId} {p c n:Nat} {xs:List Value} (hown:W.ownsRow B e 1 (.slice (some ⟨p,0,none⟩) n c) n xs) (hc:c≠1) (hg:W.grownBy W' (some p)) (hb:Below B W W'):(boxRel B).r W W':=by
 refine⟨hg.size,λ_=>hb,λk v t b=>?_⟩
 have d:k≠p:=by
  rintro rfl
  rcases hown.2 with⟨h,_⟩| ⟨g,cap,cur,hv,-,hh,-,-,hsz,-⟩
  ·cases h
  ·injection hv with e1 e2 e3;injection e1 with e1;injection e1 with e1;subst e1 e3;rw[b]at hh;injection hh with hh;injection hh with h1 h2;subst h1;simp at hsz;omega
 exact(hg.block k (gsl b) (λe=>d (by injection e))).trans b
def MPredR.box (B:Nat) (v:Value) (t:TypeId):MPredR (boxRel B) where
 p x W:=∃k,x= .pointer (some ⟨k,0,none⟩)/\B<=k/\W.heap[k]? =some (Obj.cells #[v] t)
 mono:=λ_ _ _ h ⟨k,h1,h2,h3⟩=>⟨k,h1,h2,h.2.2 _ _ _ h3⟩
def MPredR.own (B:Nat) (e:TypeId) (xs:List Nat) (c:Nat):MPredR leRel where
 p v W:=∃p n,v= .slice (some ⟨p,0,none⟩) n c/\n=xs.length/\W.ownsRow B e 1 v n (xs.map (gv .u32))
 mono:=λ_ _ _ h ⟨p,n,h1,h2,h3⟩=>⟨p,n,h1,h2,qA0 h3 h⟩
def MPredR.ownA (B:Nat) (e:TypeId) (xs:List Nat):MPredR leRel where
 p v W:=W.ownsRow B e 1 v xs.length (xs.map (gv .u32))
 mono:=λ_ _ _ h h3=>qA0 h3 h
structure OvEnv (w:World) (Q0 N0 S0 V0 n s V M1:Nat) (vv:Value) (tn ti tu:TypeId) (W:World):Prop where
 q0:W.heap[Q0]? =some (Obj.cells #[.slice none 0 0] tn)
 n0:W.heap[N0]? =some (Obj.cells #[.int .i64 (n:Int)] ti)
 s0:W.heap[S0]? =some (Obj.cells #[.int .u32 (s:Int)] tu)
 v0:W.heap[V0]? =some (Obj.cells #[vv] tn)
 vn:NumL (λk=>k<M1) .u32 W vv V
 size:W.heap.size=M1
 below:Below w.heap.size w W
 hq:w.heap.size<=Q0
theorem qBW {w:World} {base e size n O N c B k:Nat} {xs:List Value} (h:w.ownsRow base e size (.slice (some ⟨O,0,none⟩) N c) n xs) (hB:O≠B) (u:Value):(w.setCell ⟨B,k,none⟩ u).ownsRow base e size (.slice (some ⟨O,0,none⟩) N c) n xs:=by
 refine⟨h.1,?_⟩
 rcases h.2 with h'| ⟨g,cap,cur,hv',hbg,hh,r⟩
 ·exact Or.inl h'
 ·have b:g=O:=by
   injection hv' with e1;injection e1 with e1;injection e1 with e1;exact e1.symm
  exact Or.inr ⟨g,cap,cur,hv',hbg,(Below.heap_setCell _ _ _ _ (by show g≠B;omega)).trans hh,r⟩
theorem qGw {w:World} {base e t size n O N c k:Nat} {cs:Array Value} {xs:List Value} (h:w.ownsRow base e size (.slice (some ⟨O,0,none⟩) N c) n xs) (hk:w.heap[k]? =some (Obj.cells cs t)) (ht:e≠t):O≠k:=by
 rintro rfl
 rcases h.2 with⟨h,_⟩| ⟨g,cap,cur,hv,-,hh,-⟩
 ·cases h
 ·injection hv with q1 q2 q3;injection q1 with q1;injection q1 with q1;subst q1;rw[hk]at hh;injection hh with hh;injection hh with h1 h2;exact ht h2.symm
structure OvI (W0:World) (M1 GU cu G:Nat) (t:TypeId) (Bs:List Nat) (T V n mm N la1:Nat) (pre:List (Fin N×Nat)) (W:World):Prop where
 kept:Kept M1 Bs W0 W
 size:W0.heap.size<=W.heap.size
 ex:∃ul ql:List Nat,ul.length=la1/\Low ul/\ql.length=N/\W.ownsRow M1 t 1 (.slice (some ⟨GU,0,none⟩) la1 cu) la1 (ul.map (gv .u32))/\W.ownsRow M1 t 1 (.slice (some ⟨G,0,none⟩) N N) N (ql.map (gv .u32))∧
  (pre.map (·.1)<+:List.finRange N->Dividing T V n mm (N - pre.length) ul ql)
theorem OvI.from (W0:World) (M1 GU cu G:Nat) (t:TypeId) (Bs:List Nat) (T V n mm N la1 N0:Nat) (h:W0.heap.size<=N0) (hn:M1<=W0.heap.size) (hO:GU<N0) (hR:G<N0) (hBs:∀B∈Bs,B<W0.heap.size):OwnFrom N0 (OvI W0 M1 GU cu G t Bs T V n mm N la1):=by
 rintro s X Y v ⟨f,p,x,q,g,i,j,l,m,o⟩ c b;refine⟨f.trans ⟨(Below.refl _ _).grown c (by omega) λk e=>by have:=(b k e).1;omega,λB d=>c.block B (by have:=hBs B d;omega) (λe=>by have:=(b _ e.symm).1;have:=hBs B d;omega)⟩,Nat.le_trans p c.size,x,q,g,i,j,?_,?_,o⟩
 ·exact qCK l c λr e=>by have:=(b r e).1;omega
 ·exact qCK m c λr e=>by have:=(b r e).1;omega
theorem OvI.step {W0:World} {M1 GU cu G:Nat} {t:TypeId} {Bs:List Nat} {T V n mm N la1:Nat} {pre:List (Fin N×Nat)} {x:Fin N×Nat} {W:World} {ul ql:List Nat} {Ix:Code->List (Fin N×Nat)->World->Prop}
  (k1:Kept M1 Bs W0 W) (k2:W0.heap.size<=W.heap.size) (h1:ul.length=la1) (h2:Low ul) (h3:ql.length=N) (h5:W.ownsRow M1 t 1 (.slice (some ⟨G,0,none⟩) N N) N (ql.map (gv .u32)))
  (h6:pre.map (·.1)<+:List.finRange N->Dividing T V n mm (N - pre.length) ul ql) (hN:N=mm+1) (hla:la1=mm+1+n)
  (j q:Nat) (hj:N - 1 - x.1.1=j) (us':List Nat) (hl':us'.length=n+1) (hlow:Low us') (hV:V<=B9^n) (hV0:0<V)
  (hres:nv ((ul.drop j).take (n+1))<V*B9->q=nv ((ul.drop j).take (n+1)) / V/\nv us'=nv ((ul.drop j).take (n+1))%V)
  (W2:World) (hg:W.grownBy W2 (some GU)) (hu2:W2.ownsRow M1 t 1 (.slice (some ⟨GU,0,none⟩) la1 cu) la1 ((qAM ul j us').map (gv .u32)))
  (hGU:M1<=GU) (hG:M1<=G) (hne:GU≠G) (hBs:∀B∈Bs,B≠GU/\B≠G) (Bs2:List Nat) (hsub:∀B∈Bs2,B∈Bs) (hM:M1<=W.heap.size) (hBl:∀B∈Bs,B<W.heap.size) (N0:Nat) (aa:Act) (hKF:KeepsFrom N0 W W2):
  ownPostG N0 (KeptR G N M1 Bs2) (OvI W0 M1 GU cu G t Bs T V n mm N la1) Ix (pre++[x]) W .normal aa (W2.setCell ⟨G,j,none⟩ (.int .u32 (q:Int))):=by
 have C:=x.1.2;have m:=qCK h5 hg (λr e=>by injection e with e;omega);have g:=qAv (f:=gv .u32) m j q
 have i:Kept M1 Bs W (W2.setCell ⟨G,j,none⟩ (.int .u32 (q:Int))):=
  ⟨((Below.refl M1 W).grown hg hM (λk e=>by injection e with e;omega)).setCell (p:=⟨G,j,none⟩) hG _,λB c=>(Below.heap_setCell _ _ _ _ (hBs B c).2).trans (hg.block B (hBl B c) (λe=>(hBs B c).1 (by injection e)))⟩
 refine⟨hKF.trans ((KeepsOthers.setCell _ _ _).from _),⟨⟨i.1,λB c=>i.2 B (hsub B c)⟩,λ_ k s=>?_⟩,?_⟩
 ·have l:(ql.set j q).length =N:=by simpa using h3
  exact⟨_,qA8 (f:=gv .u32) g l (List.getElem?_eq_getElem (by omega))⟩
 ·refine⟨k1.trans i,Nat.le_trans k2 (by simpa[World.setCell]using hg.size),qAM ul j us',ql.set j q,?_,?_,by simpa using h3,?_,g,λo=>?_⟩
  ·rw[qCm (by omega)];exact h1
  ·unfold qAM;exact((h2.take j).append hlow).append (h2.drop _)
  ·exact qBW hu2 hne _
  ·rw[List.map_append,List.map_singleton]at o;obtain⟨v,y⟩:=qBp o;have h:=h6 v;rw[List.length_map]at y;rw[show N - pre.length=j+1 by omega]at h;have d:j<=mm:=by omega
   obtain⟨z,A⟩:=hres (h.window d).2.2;have b:=h.next d hV hl' hlow hV0 A;rw[<-z]at b;rw[List.length_append,List.length_singleton,show N - (pre.length+1)=j by omega];unfold qAM;rw[hl',<-Nat.add_assoc];exact b
theorem KeptR.put {q N n₀:Nat} {Bs:List Nat} {w:World} (hn:n₀<=w.heap.size) (hBs:∀B∈Bs,B<w.heap.size) (hq:q<w.heap.size) (W:World) (l:Nat) (o o':Obj) (hl:w.heap.size<=l) (h:W.heap[l]? =some o) (hc:o.isCells=false) (hw:o.isWalk=false):KeptR q N n₀ Bs W (W.putObj l o'):=
 ⟨Kept.put hn hBs W l o o' hl h hc hw,λhr k hk=>by
  obtain⟨g,hg⟩:=hr k hk
  exact⟨g,(World.cell?_of_block (World.putObj_heap_other (by show q≠l;omega))).trans hg⟩⟩
theorem qGE {a b s m mm:Nat} {ul:List Nat} (hs:0<s) (hb:(dg b).length =m+2) (ha:(dg a).length =m+2+mm) (h1:ul.length=mm+1+(m+2)) (h2:Low ul) (h3:nv ul=a*s):Dividing (a*s) (b*s) (m+2) mm (mm+1) ul (List.replicate (mm+1) 0):=by
 refine Dividing.start h1 h2 h3 ?_;have c:=qGS (n:=b) (by omega);rw[hb,show m+2 - 1=m+1 by omega]at c;have d:=qA1 a;rw[ha]at d;have g:B9^(m+1)*B9^(mm+1)<=b*B9^(mm+1):=Nat.mul_le_mul_right _ c;rw[<-Nat.pow_add,show m+1+(mm+1)=m+2+mm by omega]at g;have f:a*s<b*B9^(mm+1)*s:=Nat.mul_lt_mul_of_pos_right (by omega) hs;rw[Nat.mul_right_comm]at f;exact f
theorem NumL.keep {L:Nat->Prop} {W W':World} {v:Value} {n:Nat} (h:NumL L .u32 W v n) (hs:W.heap.size<=W'.heap.size) (hk:∀(k:Nat) (o:Obj),W.heap[k]? =some o->o.isCells=true->W'.heap[k]? =some o):NumL L .u32 W' v n:=by
 obtain⟨A,c,C,q,r,t,s⟩:=h;refine⟨A,c,C,q,r,t,λp=>?_⟩;obtain⟨b,l,x,y,d,z⟩:=s p;refine⟨b,l,x,y,by omega,λj B=>?_⟩;have m:=z j B;obtain⟨o,g⟩:∃o,W.heap[b]? =some o:=⟨_,Array.getElem?_eq_getElem d⟩
 have i:o.isCells=true:=by
  cases o with
  | cells c e f=>rfl
  | _=>simp[World.cell?,g]at m
 exact(World.cell?_of_block ((hk b o g i).trans g.symm)).trans m
def MPred.tup (L:Nat->Prop) (n:Nat):MPredR leRel where
 p v W:=∃A c r,v= .tuple #[.slice A (dg n).length c,.int .u32 r]/\NumL L .u32 W (.slice A (dg n).length c) n
 mono:=λ_ _ _ h ⟨A,c,r,h1,h2⟩=>⟨A,c,r,h1,h2.le h⟩
def MPredR.const {R:WRel} (p:Value->Prop):MPredR R:=⟨λv _=>p v,λ_ _ _ _ h=>h⟩
def drewRel:WRel where
 r W W':=∃n,W'=W.drewN n
 refl w:=⟨0,rfl⟩
 drew w:=⟨1,rfl⟩
 trans:=by
  rintro a b c ⟨n,rfl⟩ ⟨k,rfl⟩;exact⟨n+k,drewN_drewN _ _ _⟩
def rowRel (g:Nat):WRel where
 r W W':=W.grownBy W' (some g)
 refl w:=World.grownBy.refl _ _
 drew w:=⟨rfl,rfl,rfl,Nat.le_refl _,λ_ _ _=>rfl⟩
 trans:=λh k=>h.trans k
def MPredR.took (n r base g N c:Nat) (t:TypeId) (ul:List Nat) (hlt:Prop) (j:Nat):MPredR drewRel where
 p _ W:=∃us':List Nat,us'.length=n+1/\Low us'/\(hlt->nv us'=r)/\W.ownsRow base t 1 (.slice (some ⟨g,0,none⟩) N c) N ((qAM ul j us').map (gv .u32))
 mono:=by
  rintro _ w w' ⟨k,rfl⟩ h;exact h
theorem rowRel.of_drew {g:Nat} (a b:World) (h:drewRel.r a b):(rowRel g).r a b:=by
 obtain⟨n,rfl⟩:=h;exact⟨rfl,rfl,rfl,Nat.le_refl _,λ_ _ _=>rfl⟩
theorem qFN (L:Nat->Prop) (a b:Nat) (va vb:Value) (w:World) (hL:Up w L) (ha:NumL L .u32 w va a) (hb:NumL L .u32 w vb b) (hma:(dg a).length <=10000000) (hmb:2<=(dg b).length) (hge:b<=a):
  Calls Tryz.prog 46 #[va,vb] w λe w'=>∃v1 v2,e= .returned (.tuple #[v1,v2])/\Le w w'/\NumL L .u32 w' v1 (a / b)/\NumL L .u32 w' v2 (a%b):=by
 have cQ:=ha;have bZ:=hb;have bF:(dg b).length <=(dg a).length :=qAK hge;obtain⟨Aa,ca,rfl,a1,a2,aN,a3⟩:=ha;obtain⟨Ab,cb,rfl,b1,b2,bN,b3⟩:=hb;have hB:=qAD;obtain⟨n,hn⟩:∃n,(dg b).length =n:=⟨_,rfl⟩;obtain⟨m,hm⟩:∃m,n=m+2:=⟨n - 2,by omega⟩;subst hm;obtain⟨bb,ob,rfl,-,cV,cd⟩:=b3 (by omega);have bn:=cd (m+1) (by omega);obtain⟨t,ht⟩:∃t,(dg b)[m+1]'(by omega)=t:=⟨_,rfl⟩;have aP:=qBn (n:=b) (by omega);simp only[show(dg b).length - 1=m+1 by omega]at aP;have dw:t<B9:=by rw[<-ht];exact qAS _ _ _
 rw[ht]at bn aP;unfold gv at bn;obtain⟨k1,k2,k3⟩:=qEb aP dw;obtain⟨s,hs⟩:∃s,B9 / (t+1)=s:=⟨_,rfl⟩;have eo:=qFw (n:=m+2) (s:=s) (b:=b) (by omega) (by simp only[show(dg b).length - 1=m+1 by omega];rw[ht];exact hs.symm) hn;obtain⟨bj,cN⟩:=eo;rw[hs]at k1 k2;have ds:(1000000000:Int) / ((t:Int)+1)=(s:Int):=by rw[<-hs,hB];simp
 have dt:(1000000000:Int).tdiv ((t:Int)+1)=(s:Int):=by rw[Int.tdiv_eq_ediv_of_nonneg (by omega)];exact ds
 have ep:(((t:Int)+1)==0)=false:=by simp;omega
 have dx:¬((t:Int)+1=0):=by omega
 rw[hB]at dw k2;have fK:m+2<=10000000:=by omega
 have fb:m+2<=(dg a).length :=by omega
 have db:dg s=[s]:=qCj (by omega) (by omega);rw[hn]at b1 bZ ⊢;have fL:¬(((m:Int)+2)=1):=by omega
 have fd:(((m:Int)+2)==1)=false:=by simp;omega
 have fe:¬(m+2=1):=by omega
 have⟨bA,bC,fs,ft,fw,fx,bh,eW⟩:=hyd8 cQ bZ a3 aN b3 bN hL cd;have⟨dX,fN,cO,Y,ar,fU,fP,eh⟩:=hyd8 hB hs cN db k1 k3 ht bF;clear bF ht k3 k1 db cN hs hB cd hL bN b3 aN a3 bZ cQ;refine(callsIn_wide (n:=5)).1 ?_;refine callsIn_of_wp_marks Tryz.func46 rfl trivial ?_ rfl;simp only[Tryz.ntmps46,List.size_toArray,List.length_cons,List.length_nil,Nat.reduceAdd,Nat.reduceSub,Array.replicate_succ,Array.replicate_zero,List.push_toArray,List.append_toArray,List.nil_append,List.cons_append];refine wpIn_wide.2 ?_;go_wp2_with (fail);go_at_call 70;refine(qCv L a b _ _ _ (bA.out.le (qAA _ _)) (bC.out.le (qAA _ _)) (by omega) (by omega)).mono ?_;rintro e w1 ⟨c,rfl,de,hc,ee⟩;have fD:¬c<0:=λh=>by have:=hc.1 h;omega
 obtain⟨ax,bD⟩:=qAl de;have cX:=(Below.cell ax (p:=⟨bb,ob+(m+1),none⟩) cV).trans bn;have cW:bb<w1.heap.size:=Nat.lt_of_lt_of_le cV ax.size;clear hc ee de;have⟨aI,ao⟩:=hyd2 ax bD;clear bD ax;go_wp2_with (fail);go_at_call 73;obtain⟨W2,am⟩:∃W2,((w1.alloc (.cells #[.int .i64 ((m:Int)+2)] 3)).alloc (.cells #[.int .u32 (s:Int)] 82))=W2:=⟨_,rfl⟩;have ay:Le w1 W2:=by rw[<-am];exact(qAA _ _).trans (qAA _ _)
 have fO:W2.heap.size=w1.heap.size+2:=by rw[<-am];simp
 have cG:W2.heap[w1.heap.size]? =some (.cells #[.int .i64 ((m:Int)+2)] 3):=by rw[<-am];exact(Below.heap_alloc _ _ _ (by simp)).trans (heap_alloc_new _ _)
 have cI:W2.heap[w1.heap.size+1]? =some (.cells #[.int .u32 (s:Int)] 82):=by rw[<-am];have h:=heap_alloc_new (w1.alloc (.cells #[.int .i64 ((m:Int)+2)] 3)) (.cells #[.int .u32 (s:Int)] 82);rw[World.size_alloc]at h;exact h
 have bI:NumL (λ_=>True) .u32 W2 (.slice (some ⟨w1.heap.size+1,0,none⟩) 1 1) s:=by
  have h:=qBP .u32 (w1.alloc (.cells #[.int .i64 ((m:Int)+2)] 3)) 82 s;rw[World.size_alloc]at h;unfold NumL;rw[Y.out,<-am];exact ArrL.of_arr h λ_ _=>trivial
 rw[am];refine(qFK (λ_=>True) b s _ _ W2 (Up.any _) (((bC.out.le aI.out).le ay).mono λ_ _=>trivial) bI (by omega) (by rw[Y.out];simp)).mono ?_;rintro e w3 ⟨vv,rfl,ah,bs⟩;obtain⟨Av,cv,rfl⟩:=bs.slice;rw[bj]at bs ⊢;have az:Le w1 (w3.alloc (.cells #[.slice Av (m+2) cv] 42)):=(ay.trans ah).trans (qAA _ _)
 have c4:OvEnv w w.heap.size w1.heap.size (w1.heap.size+1) w3.heap.size (m+2) s (b*s) (w3.heap.size+1) (.slice Av (m+2) cv) 42 3 82 (w3.alloc (.cells #[.slice Av (m+2) cv] 42)):=by
  have z1:=ay.size;have z2:=ah.size;refine⟨(Below.block az _ (by have:=(gsl ao.out);omega)).trans ao.out,?_,?_,heap_alloc_new _ _,?_,by simp,Le.trans aI.out az,Nat.le_refl _⟩
  ·rw[show((m+2:Nat):Int)=(m:Int)+2 by omega];exact(Below.heap_alloc _ _ _ (by omega)).trans ((Below.block ah _ (by omega)).trans cG)
  ·exact(Below.heap_alloc _ _ _ (by omega)).trans ((Below.block ah _ (by omega)).trans cI)
  ·have h1:=(ArrL.of_arr (L:=λk=>k<w3.heap.size+1) bs.arr (λb hb=>by show b<w3.heap.size+1;omega)).le (qAA w3 (.cells #[.slice Av (m+2) cv] 42));exact h1
 clear cG cI bI am ay ah bs cX bn cW ds dt ep dx;have⟨B,cf⟩:=hyd2 c4 az;clear az c4;go_wp2;generalize w3.alloc (.cells #[.slice Av (m+2) cv] 42)=W4 at B cf;have f8:W4.heap.size=w3.heap.size+1:=B.out.size
 have fT:w1.heap.size+1<w3.heap.size+1:=by
  have:=(gsl B.out.s0);omega
 have fS:w.heap.size<w1.heap.size:=(gsl ao.out);generalize hM:w3.heap.size+1=M1 at*;generalize hV0:w3.heap.size=V0 at*;generalize hN0:w1.heap.size=N0 at*;obtain⟨la,dc⟩:∃la,(dg a).length =la:=⟨_,rfl⟩
 have cR:∀W,(boxRel M1).r W4 W->NumL (λ_=>True) .u32 W (.slice Aa (dg a).length ca) a:=λW hW=>by
  have h1:=ArrL.of_arr (L:=λk=>k<w.heap.size) bA.out.arr (λb hb=>hb);have h2:=ArrL.stays h1 (W:=W) ⟨Nat.le_trans B.out.below.size hW.1,λk hk _=>((hW.2.1 (by omega)).block k (by omega)).trans (B.out.below.block k hk)⟩;exact h2.mono λ_ _=>trivial
 have dq:∀W,(boxRel M1).r W4 W->NumL (λ_=>True) .u32 W (.slice (some ⟨N0+1,0,none⟩) 1 1) s:=λW hW=>by
  unfold NumL;rw[Y.out];refine⟨_,1,rfl,Nat.le_refl _,by unfold maxLen;omega,λh=>by simp at h,λ_=>⟨N0+1,0,rfl,trivial,?_,λj hj=>?_⟩⟩
  ·have:=hW.1;omega
  ·obtain rfl:j=0:=by simp at hj;omega
   exact qAB (hW.2.2 _ _ _ B.out.s0)
 have⟨cS,dr,fa⟩:=hyd3 cR dq dc;clear dc dq cR;refine qEs (R:=leRel) (T:=boxRel M1) boxRel.of_le 9 7 (by decide) [some 45,some 46,some 47,some 48,some 49,some 50,some 51,some 52,some 11,none] [[],[0],[1],[2],[],[],[4,5],[3,6],[],[7,8]]
  [.eq (.slice Aa (dg a).length ca),.eq (.int .i64 ((dg a).length :Nat)),.eq (.int .i64 (((dg a).length :Nat)+2)),.any,.eq (.slice Aa (dg a).length ca),.eq (.slice (some ⟨N0+1,0,none⟩) 1 1),.any,.any,.box M1 (.slice none 0 0) 42]
  [.any,.any,.any,.own M1 82 [] ((dg a).length +2),.any,.any,MPred.num (λ_=>True) .u32 (a*s)] (.ownA M1 82 (dg (a*s))) (λ_ _=>False) (by kernel_rfl) (by kernel_rfl) (by kernel_rfl) (by kernel_rfl) ?_ (λ_ _ _ _ h=>h.elim) ?_
 ·simp only[List.take_succ_cons,List.take_zero];refine qAL (by decide) ⟨rfl,λx W o d Q hK _=>?_⟩ (qAL (by decide) ⟨rfl,λx W o d Q hK _=>?_⟩ (qAL (by decide) ⟨rfl,λx W o d Q hK _=>?_⟩ (qAL (by decide) ⟨rfl,λx W o d Q hK _=>?_⟩ (qAL (by decide) ⟨rfl,λx W o d Q hK _=>?_⟩ (qAL (by decide) ⟨rfl,λx W o d Q hK _=>?_⟩ (qAL (by decide) ⟨rfl,λx W o d Q hK _=>?_⟩ (qDu (by decide) ⟨rfl,λx W o d hg Q hK _=>?_⟩ (qAL (by decide) ⟨rfl,λx W o d Q hK _=>?_⟩ qDJ))))))))
  ·simp only[fA]at hK ⊢;go_wp2;exact hK _ _ lrR rfl trivial
  ·obtain⟨i,-⟩:=d;change _=_ at i;simp only[fA,i]at hK ⊢;go_wp2;exact hK _ _ lrR rfl trivial
  ·obtain⟨i,-⟩:=d;change _=_ at i;simp only[fA,i]at hK ⊢;go_wp2;exact hK _ _ lrR rfl trivial
  ·obtain⟨i,-⟩:=d;change _=_ at i;have bT:M1<=W.heap.size:=by have:=o.1;omega
   simp only[fA,i]at hK ⊢;go_wp2_with (at_make;go_must (refine qE0 _ rfl _ _ 42 rfl M1 82 (.int .u32 0) 4 qAp (by decide) _ ((dg a).length +2) rfl (by go_num) (by go_num) (by omega) bT ?_);intro w5 r1 r2);exact hK _ _ r2 trivial ⟨_,_,rfl,rfl,r1⟩
  ·simp only[fA]at hK ⊢;go_wp2;exact hK _ _ lrR rfl trivial
  ·simp only[fA]at hK ⊢;go_wp2;exact hK _ _ lrR rfl trivial
  ·obtain⟨i,F,-⟩:=d;change _=_ at i F;simp only[fA,i,F]at hK ⊢;go_wp2_with (fail);go_at_call 73;refine(qFK (λ_=>True) a s _ _ W (Up.any _) (cS.out W o) (dr.out W o) (by omega) (by rw[Y.out];simp)).mono ?_;rintro e w5 ⟨v5,rfl,df,es⟩;go_wp2;exact hK _ _ df trivial es
  ·obtain⟨-,⟨p,n0,i,F,aM⟩,-⟩:=And.intro trivial hg;obtain⟨-,g6,-⟩:=hg;replace g6:NumL (λ_=>True) .u32 W (x 6) (a*s):=g6;obtain⟨A6,c6,e6⟩:=NumL.slice g6;obtain rfl:n0=0:=F;have bT:M1<=W.heap.size:=by have:=Below.size o;omega
   rw[e6]at g6;rw[i]at aM;simp only[fA,i,e6]at hK ⊢;have ak:=qBv a s;rw[Y.out]at ak;simp only[List.length_singleton]at ak;go_wp2_with (at_builtin;go_must (refine qAV rfl (.tmp 48) (.tmp 51) 42 rfl M1 82 .u32 4 qAp (by decide) _ [] rfl aM _ (dg (a*s)) rfl g6.arr (by simp;omega) bT ?_);intro v' w' r1 r2 r3 r4);exact hK _ _ (boxRel.of_grown aM (by omega) r3 r2) trivial r1
  ·simp only[fA]at hK ⊢;go_wp2;exact hK _ _ (qAA _ _) ⟨_,rfl,by have:=o.1;omega,heap_alloc_new _ _⟩ trivial
 ·intro x W o d hO Q' a6 _;simp only[List.drop_succ_cons,List.drop_zero];have i:=d 0 (by decide);have F:=d 1 (by decide);have e2:=d 2 (by decide);have e4:=d 4 (by decide);have e5:=d 5 (by decide);obtain⟨U,e8,cK,O⟩:=d 8 (by decide);change _=_ at i F e2 e4 e5;have aG:W.ownsRow M1 82 1 (x 7) (dg (a*s)).length ((dg (a*s)).map (gv .u32)):=hO;have bo:=qAB O;have bp:=fz0 O 0;rw[show List.range 9=[0,1,2,3,4,5,6,7,8]from rfl];simp only[fA,i,F,e2,e4,e5,e8];generalize x 3=x3;generalize x 6=x6;have al:0<(dg (a*s)).length :=dg_length_pos.2 (Nat.ne_of_gt (Nat.mul_pos (Nat.pos_of_ne_zero (dg_length_pos.1 (by omega))) ar.out));generalize x 7=x7 at aG;obtain⟨A,H,e7,eR,eS,eX,eY⟩:=qB3 aG al;subst e7
  have ag:A≠U:=by
   rintro rfl
   rcases aG.2 with⟨h,_⟩| ⟨g,cap,cur,hv,-,hh,-⟩
   ·cases h
   ·injection hv with X q2 q3;injection X with X;injection X with X;subst X;rw[O]at hh;injection hh with hh;injection hh with h1 h2;exact absurd h2 (by decide)
  have bU:=Lib.hid (qBW aG ag (k:=0) (.slice (some ⟨A,0,none⟩) (dg (a*s)).length H));have aQ:=Lib.hid (qAX O (u:= .slice (some ⟨A,0,none⟩) (dg (a*s)).length H));have bX:Hid (Below M1 W4 (W.setCell ⟨U,0,none⟩ (.slice (some ⟨A,0,none⟩) (dg (a*s)).length H))):=Lib.hid ((o.2.1 (by omega)).setCell (p:=⟨U,0,none⟩) cK _);clear i F e2 e4 e5 e8 d hO aG O;have⟨cH,dC⟩:=hyd2 o al;clear al o;go_wp2;refine a6 _ _ ?_;clear a6 bo bp cH;generalize W.setCell ⟨U,0,none⟩ (.slice (some ⟨A,0,none⟩) (dg (a*s)).length H)=W9 at bU aQ bX ⊢;go_wp2;have ak:=qBv a s;rw[Y.out]at ak;simp only[List.length_singleton]at ak;have b7:(dg a).length <=(dg (a*s)).length :=qAK (Nat.le_mul_of_pos_right _ ar.out)
  go_loopw [53] (λ_ wr=>∃(A H:Nat) (E:List Nat),E.length<=(dg a).length +1/\(dg a).length <=E.length/\A≠U/\Hid (nv E=a*s/\Low E)/\Hid (wr.heap[U]? =some (Obj.cells #[.slice (some ⟨A,0,none⟩) E.length H] 42))∧
   Hid (wr.ownsRow M1 82 1 (.slice (some ⟨A,0,none⟩) E.length H) E.length (E.map (gv .u32)))/\Hid (Below M1 W4 wr)) (λ_ wr=>(dg a).length +1 - qEw ((wr.cell? ⟨U,0,none⟩).getD undef))
  case atStart=>exact⟨A,H,_,ak,b7,ag,Lib.hid ⟨qAT _,qAO _⟩,aQ,bU,bX⟩
  case round=>
   clear bU aQ bX ag ak b7;obtain⟨A,H,E,fH,fI,ag,S,O,hO,M⟩:=hrel;have bo:=qAB O.out;have bp:=fz0 O.out 0;have b8:=(gsl O.out);have aF:M1<=wr.heap.size:=by have:=M.out.size;omega
   by_cases hc:E.length<=(dg a).length
   ·go_wp2_with (at_builtin;go_must (refine qAV rfl (.tmp 58) (.tmp 59) 42 rfl M1 82 .u32 4 qAp (by decide) _ E rfl (hO.out.alloc _) _ [0] rfl (qBP _ _ _ _) (by simp;omega) (by simp;omega) ?_);intro v' w' r1 r2 r3 r4;rw[List.length_append,List.length_singleton]at r1;obtain⟨aZ,be,rfl,f5,f6,-,-⟩:=qB3 r1 (by simp);have Z:=(r3.block U (by simp;omega) (λe=>ag (by injection e with e9;exact e9.symm))).trans ((Below.heap_alloc _ _ _ b8).trans O.out);have fQ:=qAB Z;have fR:=fz0 Z 0;have eb:=Lib.hid ((M.out.alloc (by omega) _).trans r2);have bG:=qGw r1 Z (by decide);clear bo bp r3 r4);have aR:nv (E++[0])=a*s/\Low (E++[0]):=⟨by rw[qDB];exact S.out.1,S.out.2.snoc (by have:=dX.out;omega)⟩;have bK:=Lib.hid (qAX Z (u:= .slice (some ⟨aZ,0,none⟩) (E.length+1) be));have ea:=Lib.hid (qBW r1 bG (k:=0) (.slice (some ⟨aZ,0,none⟩) (E.length+1) be));have cL:M1<=U:=cK;have ec:Hid (Below M1 W4 (w'.setCell ⟨U,0,none⟩ (.slice (some ⟨aZ,0,none⟩) (E.length+1) be))):=Lib.hid (eb.out.setCell (p:=⟨U,0,none⟩) cL _);have⟨br,ga,gb,er⟩:=hyd4 aR r1 r2 Z;clear Z r2 r1 aR;go_roundw
    case rel=>exact⟨aZ,be,E++[0],by simp;omega,by simp;omega,bG,br,by rw[List.length_append,List.length_singleton];exact bK,by rw[List.length_append,List.length_singleton];exact ea,ec⟩
    case measure=>
     have c1:=qAB bK.out;rw[c1,qAB O.out];simp[qEw];omega
   ·obtain⟨z,dh⟩:∃z,(dg a).length =m+2+z:=⟨(dg a).length - (m+2),by omega⟩;have bq:E.length=(dg a).length +1:=by omega
    have aw:w.heap.size<M1:=by omega
    have dj:=(M.out.block w.heap.size aw).trans B.out.q0;have aL:=(M.out.block N0 (by omega)).trans B.out.n0;have aA:=qAB aL;have f7:((dg a).length :Int) - ((m:Int)+2)=(z:Int):=by omega
    have dY:((m:Int)+2:Int)=((m+2:Nat):Int):=by omega
    rw[show((m+2:Nat):Int)=(m:Int)+2 by omega]at aA
    have f9:¬(w.heap.size=A):=by
     have h1:=(hO.out.lt A rfl).1;omega
    have fC:¬((E.length:Int)<=((dg a).length :Int)):=by omega
    clear dY aL;have⟨dk,aK⟩:=hyd2 dj dh;clear dh dj;go_wp2_with (first | (at_make;go_must (refine qBR (f:=gv .u32) _ rfl _ _ 42 rfl M1 82 0 4 qAp rfl (by decide) (z+1) (by go_num) (by go_num) (by omega) aF _ rfl ?_);intro w5 r1 r2 r3;have aO:=(r2.block w.heap.size (by omega)).trans dk.out;have dP:=qAB aO;have dS:=fz0 aO 0)| (go_at_call 53;((with_reducible refine(qBq _ _ _ _).mono ?_);rintro e w' ⟨rfl,rfl⟩)));have cM:U<wr.heap.size:=b8;have bL:=O.out;have d0:=(M.out.block V0 (by omega)).trans B.out.v0;have aL:=(M.out.block N0 (by omega)).trans B.out.n0;have dp:=(M.out.block (N0+1) (by omega)).trans B.out.s0;have bM:NumL (λk=>k<M1) .u32 wr (.slice Av (m+2) cv) (b*s):=ArrL.stays B.out.vn ⟨M.out.size,λk hk _=>M.out.block k hk⟩;obtain⟨G,hG⟩:∃G,wr.heap.size=G:=⟨_,rfl⟩;have bV:=hO.out;rw[hG]at r1 r2 r3 cM aF ⊢;have bH:=qA0 bV (by rw[hG];exact r2);have eT:A<G:=by have:=(bV.lt A rfl).2;omega
    obtain⟨W6,V⟩:∃W6,((w5.setCell ⟨w.heap.size,0,none⟩ (.slice (some ⟨G,0,none⟩) (z+1) (z+1))).alloc (.cells #[.slice (some ⟨G,0,none⟩) (z+1) (z+1)] 42))=W6:=⟨_,rfl⟩;have ai:(w5.setCell ⟨w.heap.size,0,none⟩ (.slice (some ⟨G,0,none⟩) (z+1) (z+1))).heap.size =w5.heap.size:=by simp[World.setCell]
    have C:∀k,k<w5.heap.size->k≠w.heap.size->W6.heap[k]? =w5.heap[k]? :=λk hk el=>by
     rw[<-V];exact(Below.heap_alloc _ _ _ (by rw[ai];exact hk)).trans (Below.heap_setCell _ _ _ _ el)
    have z0:W6.heap[w.heap.size]? =some (Obj.cells #[.slice (some ⟨G,0,none⟩) (z+1) (z+1)] 42):=by
     rw[<-V];exact(Below.heap_alloc _ _ _ (by rw[ai];omega)).trans (qAX aO)
    have zb:W6.heap[w5.heap.size]? =some (Obj.cells #[.slice (some ⟨G,0,none⟩) (z+1) (z+1)] 42):=by
     rw[<-V,<-ai];exact heap_alloc_new _ _
    have zs:W6.heap.size=w5.heap.size+1:=by rw[<-V];simp[World.setCell]
    have zu:W6.heap[U]? =some (Obj.cells #[.slice (some ⟨A,0,none⟩) E.length H] 42):=(C U (by omega) (by omega)).trans ((r2.block U cM).trans bL);have zv:W6.heap[V0]? =some (Obj.cells #[.slice Av (m+2) cv] 42):=(C V0 (by omega) (by omega)).trans ((r2.block V0 (by omega)).trans d0);have zn:W6.heap[N0]? =some (Obj.cells #[.int .i64 ((m+2:Nat):Int)] 3):=(C N0 (by omega) (by omega)).trans ((r2.block N0 (by omega)).trans aL);have zc:W6.heap[N0+1]? =some (Obj.cells #[.int .u32 (s:Int)] 82):=(C (N0+1) (by omega) (by omega)).trans ((r2.block (N0+1) (by omega)).trans dp)
    have cn:NumL (λk=>k<M1) .u32 W6 (.slice Av (m+2) cv) (b*s):=by
     have y1:=ArrL.stays bM (W:=w5) ⟨by omega,λk _ hk=>r2.block k (by omega)⟩;have y2:=NumL.box_set (L:=λk=>k<M1) y1 aO (u:= .slice (some ⟨G,0,none⟩) (z+1) (z+1));rw[<-V];exact y2.le (qAA _ _)
    have bx:W6.ownsRow M1 82 1 (.slice (some ⟨A,0,none⟩) E.length H) E.length (E.map (gv .u32)):=by
     rw[<-V];exact(qBW bH (by omega) _).alloc _
    have bw:W6.ownsRow M1 82 1 (.slice (some ⟨G,0,none⟩) (z+1) (z+1)) (z+1) ((List.replicate (z+1) 0).map (gv .u32)):=by
     rw[<-V];exact(qBW r1 (by omega) _).alloc _
    have aT:Below w.heap.size w W6:=by
     have y1:Below w.heap.size w w5:=(B.out.below.trans (M.out.mono (by omega))).trans (r2.mono (by omega));rw[<-V];exact(y1.setCell (p:=⟨w.heap.size,0,none⟩) (Nat.le_refl _) _).alloc (by rw[ai];omega) _
    rw[V];clear V ai C bH bV r1 r2 bM d0 aL dp bL aO dP dS bo bp aA;have dZ:M1<=A:=(bx.lt A rfl).1;have aj:E.length=z+1+(m+2):=by have:=aK.out;omega
    have ad:=qGE (b:=b) ar.out hn aK.out aj S.out.2 S.out.1;have cg:=S.out.2;have cF:M1<=W6.heap.size:=by omega
    generalize w5.heap.size=KB at*;have a0:=qEt (z+1) G (z+1) W6 KB M1 (by have:=aK.out;omega) (by omega) (by omega) (by omega) (λk hk=>⟨0,qA8 (f:=gv .u32) bw (by simp) (by rw[List.getElem?_replicate,if_pos hk])⟩) (qAB zb);refine(wpIn_wide (n:=5)).1 ?_;refine wpIn_rangeFunc_ownG rfl (by omega) (gf:=78) (lb:=#[.pointer (some ⟨KB,0,none⟩)]) rfl trivial (enters_of Tryz.func78 (by kernel_rfl) rfl)
     a0 KeptR.trans (KeptR.put (by omega) (by simp;omega) (by omega)) (Below.refl _ _) (λ_=>rfl)
     (OvI W6 M1 A H G 82 [U,KB] (a*s) (b*s) (m+2) z (z+1) E.length) (λ_ _ _=>False) (OvI.from _ _ _ _ _ _ _ _ _ _ _ _ _ _ (Nat.le_refl _) cF (by omega) (by omega) (by simp;omega)) (λ_ _ _ _ _ hs _ _=>hs)
     ⟨Kept.refl _ _ _,Nat.le_refl _,E,List.replicate (z+1) 0,rfl,cg,by simp,bx,bw,λ_=>ad⟩ ?_ ?_ ?_ ?_ ?_
    rotate_left
    ·intro l x W K hK;dsimp only[qFL];gi_wp2;exact hK
    ·rintro l ey x W ⟨X,q2,I,ql,g1,g2,g3,g4,g5,g6⟩ ei;have hx:=x.1.2;obtain⟨j,hj⟩:∃j,z+1 - 1 - x.1.1=j:=⟨_,rfl⟩;have fG:j<=z:=by omega
     have c0:=qAB ((X.1.block w.heap.size aw).trans z0);have bd:=qAB ((X.2 U (by simp)).trans zu);have bc:=qAB ((X.1.block N0 (by omega)).trans zn);have dQ:=qAB ((X.1.block V0 (by omega)).trans zv);have d3:NumL (λk=>k<M1) .u32 W (.slice Av (m+2) cv) (b*s):=ArrL.stays cn ⟨q2,λk hk _=>X.1.block k hk⟩
     obtain⟨cZ,da⟩:E.length<=H/\H<=maxLen:=by
      obtain⟨_,_,e9,-,-,y3,y4⟩:=qB3 g4 (by omega);injection e9 with _ _ e9;subst e9;exact⟨y3,y4⟩
     have hcut:∀W',(Instr.slice 42 (.slice (some ⟨A,0,none⟩) E.length H) (some (.int .i64 (j:Int))) (some (.int .i64 ((j:Int)+((m:Int)+2)+1))) none).run Tryz.prog W'= .ok (.slice (some ⟨A,j,none⟩) (m+2+1) (H - j)) W':=λW'=>by
      have h:=qFt (P:=Tryz.prog) qAp (some ⟨A,0,none⟩) E.length H j (j+(m+2)+1) (by omega) (by omega) W';rw[show((j+(m+2)+1:Nat):Int)=(j:Int)+((m:Int)+2)+1 by omega,show j+(m+2)+1 - j=m+2+1 by omega]at h;rw[h];unfold cutA;rw[if_neg (by omega)];simp[Addr.add]
      try (intro h9;omega)
     rw[show z - x.1.1=j by omega];have fF:(j:Int)<=(z:Int):=by omega
     have dz:(E.length:Int)=(z:Int)+1+((m:Int)+2):=by omega
     have fE:j+(m+2)+1<=E.length:=by omega
     clear dz;have⟨d4,eI,eG,eH,eC,eD,dV,dy⟩:=hyd8 d3 zv zn zu z0 zb g6 bq;have aq:=hyd1 aj;clear aj bq g6 zb z0 zu zn zv d3;gi_wp2;refine qEZ (R:=drewRel) (T:=rowRel A) rowRel.of_drew 12 10 (by decide) [some 71,some 72,some 73,some 74,some 75,some 76,some 77,some 78,some 79,some 80,some 81,some 82,none] [[],[],[],[],[],[],[4,5],[6],[2,3,7],[],[8,9],[0,1],[10,11]]
      [.eq (.slice (some ⟨G,0,none⟩) (z+1) (z+1)),.eq (.int .i64 (j:Nat)),.eq (.slice (some ⟨A,0,none⟩) E.length H),.eq (.int .i64 (j:Nat)),.eq (.int .i64 (j:Nat)),.eq (.int .i64 ((m:Int)+2)),.eq (.int .i64 ((j:Int)+((m:Int)+2))),.eq (.int .i64 ((j:Int)+((m:Int)+2)+1)),
       .eq (.slice (some ⟨A,j,none⟩) (m+2+1) (H - j)),.eq (.slice Av (m+2) cv),.const (λv=>∃q:Nat,v= .int .u32 (q:Int)/\q<4294967296/\(nv ((I.drop j).take (m+2+1))<b*s*B9->q=nv ((I.drop j).take (m+2+1)) / (b*s))),.eq (.pointer (some ⟨G,j,none⟩))]
      [] (.took (m+2) (nv ((I.drop j).take (m+2+1))%(b*s)) M1 A E.length H 82 I (nv ((I.drop j).take (m+2+1))<b*s*B9) j) (λ_ _=>False) (by kernel_rfl) (by kernel_rfl) (by kernel_rfl) (by kernel_rfl) (by kernel_rfl) ?_ (λ_ _ _ _ h=>h.elim) ?_
     ·simp only[List.take_succ_cons,List.take_zero];refine qAL (by decide) ⟨rfl,λN J o d Q hK _=>?_⟩ (qAL (by decide) ⟨rfl,λN J o d Q hK _=>?_⟩ (qAL (by decide) ⟨rfl,λN J o d Q hK _=>?_⟩ (qAL (by decide) ⟨rfl,λN J o d Q hK _=>?_⟩ (qAL (by decide) ⟨rfl,λN J o d Q hK _=>?_⟩ (qAL (by decide) ⟨rfl,λN J o d Q hK _=>?_⟩ (qAL (by decide) ⟨rfl,λN J o d Q hK _=>?_⟩ (qAL (by decide) ⟨rfl,λN J o d Q hK _=>?_⟩ (qAL (by decide) ⟨rfl,λN J o d Q hK _=>?_⟩ (qAL (by decide) ⟨rfl,λN J o d Q hK _=>?_⟩ (qDu (by decide) ⟨rfl,λN J o d hg Q hK _=>?_⟩ (qAL (by decide) ⟨rfl,λN J o d Q hK _=>?_⟩ qDJ)))))))))))
      ·have cc:=(World.cell?_of_block (o.block w.heap.size (by omega) (λe=>by injection e;omega))).trans c0;simp only[fA]at hK ⊢;go_wp2;exact hK _ _ (drewRel.refl _) rfl trivial
      ·simp only[fA]at hK ⊢;go_wp2;exact hK _ _ (drewRel.refl _) rfl trivial
      ·have cc:=(World.cell?_of_block (o.block U (by omega) (λe=>by injection e;omega))).trans bd;simp only[fA]at hK ⊢;go_wp2;exact hK _ _ (drewRel.refl _) rfl trivial
      ·simp only[fA]at hK ⊢;go_wp2;exact hK _ _ (drewRel.refl _) rfl trivial
      ·simp only[fA]at hK ⊢;go_wp2;exact hK _ _ (drewRel.refl _) rfl trivial
      ·have cc:=(World.cell?_of_block (o.block N0 (by omega) (λe=>by injection e;omega))).trans bc;simp only[fA]at hK ⊢;go_wp2;exact hK _ _ (drewRel.refl _) rfl trivial
      ·obtain⟨i,F,-⟩:=d;change _=_ at i F;simp only[fA,i,F]at hK ⊢;go_wp2;exact hK _ _ (drewRel.refl _) (by go_num) trivial
      ·obtain⟨i,-⟩:=d;change _=_ at i;simp only[fA,i]at hK ⊢;go_wp2;exact hK _ _ (drewRel.refl _) (by go_num) trivial
      ·obtain⟨i,F,e2,-⟩:=d;change _=_ at i F e2;simp only[fA,i,F,e2]at hK ⊢;go_wp2;exact hK _ _ (drewRel.refl _) rfl trivial
      ·have cc:=(World.cell?_of_block (o.block V0 (by omega) (λe=>by injection e;omega))).trans dQ;simp only[fA]at hK ⊢;go_wp2;exact hK _ _ (drewRel.refl _) rfl trivial
      ·obtain⟨i,F,-⟩:=d;change _=_ at i F;obtain⟨n9,rfl⟩:=o;simp only[fA,i,F]at hK ⊢;go_wp2_with (fail);go_at_call 74;refine(qGD (λk=>k<M1) (b*s) (m+2) m E.length j A H (H - j) M1 I _ (W.drewN n9) d4.out (by show¬A<M1;omega) bj rfl (by have:=cO.out;simpa using this) g4 g1 g2 (by omega) (by have:=aq.out;omega) ⟨by omega,by omega⟩).mono ?_;rintro e w' ⟨q,cl,rfl,l1,l2,l3,l4,l5,l6⟩;go_wp2;exact hK _ _ l5 ⟨q,rfl,l3,λh=>(l4 h).1⟩ ⟨cl,l1,l2,λh=>(l4 h).2,l6⟩
      ·obtain⟨i,F,-⟩:=d;change _=_ at i F;simp only[fA,i,F]at hK ⊢;go_wp2;exact hK _ _ (drewRel.refl _) rfl trivial
     ·intro N J hT d hO Q' a6 _;obtain⟨cl,l1,l2,l3,l6⟩:=hO;obtain⟨q,cz,fM,dl⟩:=d 10 (by decide);have i:=d 0 (by decide);have F:=d 1 (by decide);have e2:=d 2 (by decide);have e3:=d 3 (by decide);have e4:=d 4 (by decide);have e5:=d 5 (by decide);have e6:=d 6 (by decide);have e7:=d 7 (by decide);have e8:=d 8 (by decide);have e9:=d 9 (by decide);have af:=d 11 (by decide);change _=_ at i F e2 e3 e4 e5 e6 e7 e8 e9 af;have ci:=qCK g5 hT (λr e=>by injection e;omega);obtain⟨y9,eu⟩:∃y9,ql[j]? =some y9:=⟨_,List.getElem?_eq_getElem (by omega)⟩;have cY:=qA8 (f:=gv .u32) ci g3 eu;unfold gv at cY;have eZ:=ci.frozenAt j;have cD:KeepsFrom W6.heap.size W J:=KeepsFrom.of_grownBy hT (λk e=>by injection e;omega);have bE:=λaa=>OvI.step (Ix:=λ_ _ _=>False) X q2 g1 g2 g3 g5 dV.out rfl aq.out j q hj cl l1 l2 (Nat.le_of_lt (by have:=qA1 (b*s);rw[bj]at this;exact this)) (Nat.mul_pos (Nat.pos_of_ne_zero (dg_length_pos.1 (by omega))) ar.out) (λh=>⟨dl h,l3 h⟩) J hT l6 dZ aF (by omega) (by simp;omega) [KB] (by simp) (by omega) (by simp;omega) W6.heap.size aa cD;simp only[List.drop_succ_cons,List.drop_zero];rw[show List.range 12=[0,1,2,3,4,5,6,7,8,9,10,11]from rfl];simp only[fA,i,F,e2,e3,e4,e5,e6,e7,e8,e9,af,cz];clear i F e2 e3 e4 e5 e6 e7 e8 e9 af cz d dl l3 l6 ci cD;have⟨ce,fB⟩:=hyd2 bE hT;clear hT bE
      go_wp2;refine a6 _ _ ?_;gi_wp2;exact ce.out _
    ·rintro D ys W hD bt ⟨X,q2,I,ql,g1,g2,g3,g4,g5,g6⟩ cC;have ap:ys.length=z+1:=by have:=congrArg List.length bt;simpa using this
     have h9:=g6 (by rw[bt];exact qBe _);rw[ap,Nat.sub_self]at h9;have aE:=h9.qlow;obtain⟨d1,d2⟩:=h9.done ar.out (Nat.pos_of_ne_zero (dg_length_pos.1 (by omega))) (Nat.le_of_lt (by have:=qA1 (b*s);rw[bj]at this;exact this));have c0:=qAB ((X.1.block w.heap.size aw).trans z0);have d5:=(X.1.block w.heap.size aw).trans z0;have bd:=qAB ((X.2 U (by simp)).trans zu);have bc:=qAB ((X.1.block N0 (by omega)).trans zn);have cy:=qAB ((X.1.block (N0+1) (by omega)).trans zc)
     obtain⟨cZ,da⟩:E.length<=H/\H<=maxLen:=by
      obtain⟨_,_,e9,-,-,y3,y4⟩:=qB3 g4 (by omega);injection e9 with _ _ e9;subst e9;exact⟨y3,y4⟩
     have an:Below w.heap.size w W:=aT.trans (X.1.mono (by omega));have b9:Up W L:=bh.out.later an.size
     have bk:ArrL L (gv .u32) W (.slice (some ⟨A,0,none⟩) (m+2) H) (I.take (m+2)):=by
      have y1:ArrL L (gv .u32) W (.slice (some ⟨A,0,none⟩) I.length H) I:=by
       have y0:=ArrL.of_own (L:=L) g4 (λb hb=>bh.out b (by omega));rw[<-g1]at y0;exact y0
      exact y1.take (m+2) (by omega)
     have cT:ArrL L (gv .u32) W (.slice (some ⟨G,0,none⟩) (z+1) (z+1)) ql:=ArrL.of_own (L:=L) g5 (λb hb=>bh.out b (by omega));have aJ:(I.take (m+2)).length =m+2:=by simp;omega
     have ac:Low (I.take (m+2)):=g2.take _
     have ch:NumL L .u32 W (.slice (some ⟨A,0,none⟩) (qAG (I.take (m+2))).length H) (a%b*s):=by
      have y1:ArrL L (gv .u32) W (.slice (some ⟨A,0,none⟩) (I.take (m+2)).length H) (I.take (m+2)):=by rw[aJ];exact bk
      exact qAd y1.trim ac d2
     have fc:(dg (a%b*s)).length <=m+2:=by
      rw[<-d2,<-qEx ac];have:=qFJ (I.take (m+2));omega
     have dm:∀y,y*s / s=y:=λy=>Nat.mul_div_cancel y ar.out
     have hcut:∀W',(Instr.slice 42 (.slice (some ⟨A,0,none⟩) E.length H) none (some (.int .i64 ((m:Int)+2))) none).run Tryz.prog W'= .ok (.slice (some ⟨A,0,none⟩) (m+2) H) W':=λW'=>by
      have h:=qGP (P:=Tryz.prog) qAp (some ⟨A,0,none⟩) E.length H (m+2) (by omega) W';rw[show((m+2:Nat):Int)=(m:Int)+2 by omega]at h;exact h
     obtain⟨TL,bi⟩:∃TL,(qAG (I.take (m+2))).length =TL:=⟨_,rfl⟩
     have bJ:∀J,Le W J->Calls Tryz.prog 45 #[.slice (some ⟨A,0,none⟩) (m+2) H] J λe w'=>e= .returned (.slice (some ⟨A,0,none⟩) TL H)/\J=w':=λJ h=>by
      rw[<-bi];exact qBo L _ _ _ _ _ (bk.le h)
     rw[bi]at ch;have aA:W.cell? ⟨N0,0,none⟩=some (.int .i64 ((m:Int)+2)):=by rw[bc,show((m+2:Nat):Int)=(m:Int)+2 by omega]
     clear bc a0 g6 h9;have⟨di,ck,cU,eV,dE,bg,dR,f0⟩:=hyd8 ch bJ cT bk ac aE d1 d2;have⟨f3,f4,dU,f2,dT,dy,aq,fg⟩:=hyd8 g2 g4 g5 g1 g3 bq aj bt;have⟨dD,ej,bm,bW,b4,fZ,bu,fr⟩:=hyd8 ap aJ an b9 cC X q2 cn;have⟨fq,fp,eE,du,et,dn,eU,d6⟩:=hyd8 bx bw aT ad S dm bi d5;have⟨eH,eI,eG,gd,eC,eD,ff⟩:=hyd7 zu zv zn zc z0 zb O;clear O zb z0 zc zn zv zu d5 bi dm S ad aT bw bx cn q2 X cC b9 an aJ ap bt aj bq g3 g1 g5 g4 g2 d2 d1 aE ac bk cT bJ ch;go_wp2;refine qBd (R:=leRel) 12 [some 84,some 85,some 86,some 87,some 88,some 89,some 90,some 91,some 83,some 92,some 93,some 5] [[],[],[0,1],[2],[],[4],[5],[3,6],[7],[8],[8],[9]]
      [.eq (.slice (some ⟨A,0,none⟩) E.length H),.eq (.int .i64 ((m:Int)+2)),.eq (.slice (some ⟨A,0,none⟩) (m+2) H),.eq (.slice (some ⟨A,0,none⟩) TL H),.eq (.slice (some ⟨N0+1,0,none⟩) 1 1),.eq (.pointer (some ⟨N0+1,0,none⟩)),.eq (.int .u32 (s:Nat)),MPred.tup L (a%b),MPred.tup L (a%b),MPred.num L .u32 (a%b),.any,MPred.num L .u32 (a%b)] (λ_ _=>False) (by kernel_rfl) (by kernel_rfl) (by kernel_rfl) (by kernel_rfl) ?_ (λ_ _ _ _ _ h=>h.elim) ?_
     ·simp only[List.take_succ_cons,List.take_zero];refine mSc ?_ (mSc ?_ (mSc ?_ (mSc ?_ (mSc ?_ (mSc ?_ (mSc ?_ (mSc ?_ (mSc ?_ (mSc ?_ (mSc ?_ (mSc ?_ (qB1))))))))))))
      ·refine mSl rfl λN J o d Q hK _=>?_;have cc:=(Below.cell o (p:=⟨U,0,none⟩) (by show U<W.heap.size;have:=bu.out;omega)).trans bd;simp only[fA]at hK ⊢;go_wp2;exact hK _ _ lrR rfl
      ·refine mSl rfl λN J o d Q hK _=>?_;have cc:=(Below.cell o (p:=⟨N0,0,none⟩) (by show N0<W.heap.size;have:=bu.out;omega)).trans aA;simp only[fA]at hK ⊢;go_wp2;exact hK _ _ lrR rfl
      ·refine mSl rfl λN J o d Q hK _=>?_;obtain⟨i,F,-⟩:=d;change _=_ at i F;simp only[fA,i,F]at hK ⊢;go_wp2;exact hK _ _ lrR rfl
      ·refine mSl rfl λN J o d Q hK _=>?_;obtain⟨i,-⟩:=d;change _=_ at i;simp only[fA,i]at hK ⊢;go_wp2_with (fail);go_at_call 45;refine(ck.out _ o).mono ?_;rintro e w' ⟨rfl,rfl⟩;go_wp2;exact hK _ _ lrR rfl
      ·refine mSl rfl λN J o d Q hK _=>?_;simp only[fA]at hK ⊢;go_wp2;exact hK _ _ lrR rfl
      ·refine mSl rfl λN J o d Q hK _=>?_;obtain⟨i,-⟩:=d;change _=_ at i;simp only[fA,i]at hK ⊢;go_wp2;exact hK _ _ lrR rfl
      ·refine mSl rfl λN J o d Q hK _=>?_;obtain⟨i,-⟩:=d;change _=_ at i;have cc:=(Below.cell o (p:=⟨N0+1,0,none⟩) (by show N0+1<W.heap.size;have:=bu.out;omega)).trans cy;simp only[fA,i]at hK ⊢;go_wp2;exact hK _ _ lrR rfl
      ·refine mSl rfl λN J o d Q hK _=>?_;obtain⟨i,F,-⟩:=d;change _=_ at i F;simp only[fA,i,F]at hK ⊢;go_wp2_with (fail);go_at_call 71;refine(qDz L (a%b*s) s _ J (bW.out.le o) (di.out.le o) ar.out (by omega) (by omega)).mono ?_;rintro e w' ⟨v',rfl,y1,y2⟩;rw[dn.out]at y2;obtain⟨A9,c9,rfl⟩:=y2.slice;go_wp2;exact hK _ _ y1 ⟨A9,c9,_,rfl,y2⟩
      ·refine mSl rfl λN J o d Q hK _=>?_;obtain⟨⟨A9,c9,r9,i,y2⟩,-⟩:=d;simp only[fA,i]at hK ⊢;go_wp2;exact hK _ _ lrR ⟨A9,c9,r9,rfl,y2⟩
      ·refine mSl rfl λN J o d Q hK _=>?_;obtain⟨⟨A9,c9,r9,i,y2⟩,-⟩:=d;simp only[fA,i]at hK ⊢;go_wp2;exact hK _ _ lrR y2
      ·refine mSl rfl λN J o d Q hK _=>?_;obtain⟨⟨A9,c9,r9,i,y2⟩,-⟩:=d;simp only[fA,i]at hK ⊢;go_wp2;exact hK _ _ lrR trivial
      ·refine mSl rfl λN J o d Q hK _=>?_;obtain⟨i,-⟩:=d;replace i:NumL L .u32 J (N 9) (a%b):=i;obtain⟨A9,c9,F⟩:=i.slice;rw[F]at i;simp only[fA,F]at hK ⊢;go_wp2;exact hK _ _ lrR i
     ·intro N W7 o d Q' a6 _;have i:=d 0 (by decide);have F:=d 1 (by decide);have e2:=d 2 (by decide);have e3:=d 3 (by decide);have e4:=d 4 (by decide);have e5:=d 5 (by decide);have e6:=d 6 (by decide);change _=_ at i F e2 e3 e4 e5 e6;have af:NumL L .u32 W7 (N 11) (a%b):=d 11 (by decide);obtain⟨dI,dN,bf⟩:=af.slice;rw[bf]at af;have bv:=(Below.block o w.heap.size (by have:=bu.out;omega)).trans d6.out;have fy:=qAB bv;have f1:=fz0 bv 0;have bB:ArrL L (gv .u32) W7 (.slice (some ⟨G,0,none⟩) (z+1) (z+1)) ql:=cU.out.le o;have b5:=(Below.block o D (gsl b4.out)).trans b4.out;have c7:=qA0 dU.out o;have aH:=Le.trans bm.out o;simp only[List.drop_succ_cons,List.drop_zero];rw[show List.range 12=[0,1,2,3,4,5,6,7,8,9,10,11]from rfl];simp only[fA,i,F,e2,e3,e4,e5,e6,bf];generalize N 7=x7;generalize N 8=x8;generalize N 9=x9;generalize N 10=x10;clear i F e2 e3 e4 e5 e6 d c0 bd cy aA;have⟨c2,eP,bY,bS,c8,bl,cH,bO⟩:=hyd8 af bf bB b5 c7 aH o bv;clear bv o aH c7 b5 bB bf af;refine wpList_nil (a6 _ _ ?_);go_wp2_with (fail);go_at_call 45;refine(qBo L ql (some ⟨G,0,none⟩) (z+1) (z+1) W7 bY.out).mono ?_;rintro e w' ⟨rfl,rfl⟩;go_wp2;refine qBC w.heap.size [{target:= .collected D,args:=#[]}] _ ⟨⟨D,rfl,by omega,?_,by simp⟩,trivial⟩ λw9 hb C=>?_
      ·exact(Below.heap_setCell _ _ _ _ (show D≠w.heap.size by omega)).trans bS.out
      ·have c9:=qAB (C _ _ (qAX bO.out (u:= .slice (some ⟨G,0,none⟩) (qAG ql).length (z+1))) rfl);have cE:Le w w9:=(Below.setCell bl.out (p:=⟨w.heap.size,0,none⟩) (Nat.le_refl _) _).trans hb
       have em:NumL L .u32 w9 (.slice (some ⟨G,0,none⟩) (qAG ql).length (z+1)) (a / b):=by
        have y1:=qEh (qBW (k:=0) c8.out (show G≠w.heap.size by omega) (.slice (some ⟨G,0,none⟩) (qAG ql).length (z+1))) C
        have y2:ArrL L (gv .u32) w9 (.slice (some ⟨G,0,none⟩) ql.length (z+1)) ql:=by
         rw[dT.out];exact ArrL.of_own y1 (λb hb=>bh.out b (by omega))
        exact qAd y2.trim bg.out dR.out
       have en:NumL L .u32 w9 (.slice dI (dg (a%b)).length dN) (a%b):=NumL.keep (NumL.box_set c2.out bO.out) hb.size C;exact⟨_,by simp[results,Tryz.results46,go_sem,c9],_,_,rfl,cE,em,en⟩
    ·rintro D cc ey W _ _ h _;exact h.elim
theorem qE1 (L:Nat->Prop) (a b:Nat) (va vb:Value) (w:World) (hL:Up w L) (ha:NumL L .u32 w va a) (hb:NumL L .u32 w vb b) (hma:(dg a).length <=10000000) (hmb:(dg b).length <=10000000) (hb0:b≠0):
  Calls Tryz.prog 46 #[va,vb] w λe w'=>∃v1 v2,e= .returned (.tuple #[v1,v2])/\Le w w'/\NumL L .u32 w' v1 (a / b)/\NumL L .u32 w' v2 (a%b):=by
 by_cases c:a<b
 ·exact qFM L a b va vb w hL ha hb (by omega) (by omega) c
 ·have f:=dg_length_pos.2 hb0
  by_cases d:(dg b).length =1
  ·exact qF6 L a b va vb w hL ha hb (by omega) d (by omega)
  ·exact qFN L a b va vb w hL ha hb hma (by omega) (by omega)
end Go.Proofs.YtfmfefibadpobaaGreatDoor
namespace Go.Proofs.YtfmfefibadpobaaGreatDoor
set_option maxRecDepth 100000
set_option maxHeartbeats 4000000
open Go.RowKit Go.Shelf
set_option linter.unusedVariables false
set_option linter.unusedSimpArgs false
theorem NumL.unique {L L':Nat->Prop} {k:IntKind} {w:World} {v:Value} {m n:Nat} (h:NumL L k w v m) (h':NumL L' k w v n):m=n:=by
 obtain⟨A,c,rfl,F,G,H,r⟩:=h;obtain⟨C,E,z,p,q,s,g⟩:=h';injection z with e1 e2 e3;subst e1 e3;refine dg_inj.1 (List.ext_getElem e2 λi y l=>?_);obtain⟨b,B,t,-,-,x⟩:=r (by omega);obtain⟨D,o,d,-,-,j⟩:=g (by omega);rw[t]at d;injection d with d;injection d with q1 q2;subst q1 q2;have f:=(x i y).symm.trans (j i l);injection f with f;unfold gv at f;injection f with _ f;omega
open Classical in
noncomputable def qGF (w:World) (v:Value):Nat:=if h:∃n,NumL (λ_=>True) .u32 w v n then h.choose else 0
theorem qFO {L:Nat->Prop} {w:World} {v:Value} {n:Nat} (h:NumL L .u32 w v n):qGF w v=n:=by
 have b:∃n,NumL (λ_=>True) .u32 w v n:=⟨n,ArrL.mono h λ_ _=>trivial⟩;unfold qGF;rw[dif_pos b];exact b.choose_spec.unique h
theorem qDO (L:Nat->Prop) (a b:Nat) (va vb:Value) (w:World) (hL:Up w L) (ha:NumL L .u32 w va a) (hb:NumL L .u32 w vb b) (hma:(dg a).length <=10000000) (hmb:(dg b).length <=10000000):
  Calls Tryz.prog 34 #[va,vb] w λe w'=>∃v',e= .returned v'/\Le w w'/\NumL L .u32 w' v' (Nat.gcd a b):=by
 have⟨B,C,D⟩:=hyd3 hL ha hb;clear hb ha hL;go_enter Tryz.func34,Tryz.ntmps34;go_wp2;go_loopw [0,1] (λT M wr=>∃x y:Nat,Hid (NumL L .u32 wr T x)/\Hid (NumL L .u32 wr M y)/\Hid (Nat.gcd x y=Nat.gcd a b)/\(dg x).length <=10000000/\(dg y).length <=10000000/\Hid (Le w wr)) (λ_ M wr=>qGF wr M)
 case atStart=>exact⟨a,b,C,D,Lib.hid rfl,hma,hmb,Lib.hid (Le.refl _)⟩
 case round=>
  obtain⟨x,y,I,A,N,S,J,i⟩:=hrel;obtain⟨P,Q,rfl⟩:=I.out.slice;obtain⟨V,Y,rfl⟩:=A.out.slice
  by_cases g:y=0
  ·have h:(dg y).length =0:=by rw[g,qAI];rfl
   have f:NumL L .u32 wr (.slice P (dg x).length Q) (Nat.gcd a b):=by rw[<-N.out,g,Nat.gcd_zero_right];exact I.out
   have F:¬(0<((dg y).length :Int)):=by omega
   have⟨R,l,O⟩:=hyd3 g f h;clear h f g;go_wp2;go_ret;exact⟨_,rfl,i.out,l.out⟩
  ·have h:0<(dg y).length :=dg_length_pos.2 g;have F:0<((dg y).length :Int):=by omega
   go_wp2_with (fail);go_at_call 46;refine(qE1 L x y _ _ wr (B.out.le i.out) I.out A.out S J g).mono ?_;rintro e w' ⟨Z,v2,rfl,c,-,z⟩;obtain⟨U,X,rfl⟩:=z.slice;have k:x%y<y:=Nat.mod_lt _ (Nat.pos_of_ne_zero g);have p:=qFO A.out;have r:=qFO z;have t:=A.out.le c;have m:Nat.gcd y (x%y)=Nat.gcd a b:=by rw[qEz];exact N.out
   have G:(dg (x%y)).length <=10000000:=Nat.le_trans (qAK (Nat.le_of_lt k)) J;have d:=i.out.trans c;have⟨E,H,o,q,s,v,n,j⟩:=hyd8 c z k p r t m d;clear d m t r p k z c;go_wp2;go_roundw
   case rel=>exact⟨y,x%y,v,H,n,J,G,j⟩
   case measure=>rw[s.out,q.out];exact o.out
end Go.Proofs.YtfmfefibadpobaaGreatDoor

/- exact: numbers of 0 or more: over (long division). exact: numbers of 0 or more: over, the long division. exact: numbers of 0 or more: common (the greatest .. -/
import Derived.Test.YtenjpccpldajoaaGreatDoorPk08
namespace Go.Proofs.YtenjpccpldajoaaGreatDoor
set_option maxRecDepth 100000
set_option maxHeartbeats 4000000
open Go.RowKit Go.Shelf
set_option linter.unusedVariables false
set_option linter.unusedSimpArgs false
attribute [local go_sem] Oper.semAt_some
theorem NumL.box_set {L:Nat→Prop} {W:World} {v u x:Value} {n k:Nat} {t:TypeId} (h:NumL L .u32 W v n) (hk:W.heap[k]? =some (.cells #[x] t)) (hx:∀g:Nat,x≠gv .u32 g:=by intro g;unfold gv;simp):NumL L .u32 (W.setCell ⟨k,0,none⟩ u) v n:=by
 obtain⟨A,c,hv,h1,h2,hN,h3⟩:=h;refine⟨A,c,hv,h1,h2,hN,fun h0=>?_⟩;obtain⟨b,off,ha,hb,hlt,hc⟩:=h3 h0
 have hne:b≠k:=by
  rintro rfl;have h4:=hc 0 h0;rw[cell_of_row W b (off+0) _ t (0,0) hk]at h4
  by_cases h5:off=0
  ·subst h5;simp at h4;exact hx _ h4
  ·rw[Array.getElem?_eq_none (by simp;omega)]at h4
   cases h4
 exact⟨b,off,ha,hb,by simpa[World.setCell]using hlt,fun j hj=>(World.cell?_of_block (Below.heap_setCell _ _ _ _ hne)).trans (hc j hj)⟩
theorem qAB (w:World) (o:Obj):Le w (w.alloc o):=alc1 w o
theorem al1 (w:World) (o:Obj):∃V,w.alloc o=V∧Le w V∧V.heap[w.heap.size]? =some o:=⟨_,rfl,qAB _ _,by unfold World.alloc;exact Array.getElem?_push_size⟩
theorem qBh {w w':World} {o:Obj} (h:Le (w.alloc o) w'):Le w w'∧w'.heap[w.heap.size]? =some o:=by
 unfold Le at h;rw[World.size_alloc]at h;exact⟨(alc1 w o).trans (h.mono (by omega)),(h.block w.heap.size (by omega)).trans (heap_alloc_new w o)⟩
theorem qJR (L:Nat→Prop) (a b:Nat) (va vb:Value) (w:World) (hL:Up w L) (ha:NumL L .u32 w va a) (hb:NumL L .u32 w vb b) (hma:(dg a).length ≤100000000) (hmb:(dg b).length ≤100000000) (hlt:a<b):
  Calls Tryz.prog 65 #[va,vb] w fun e w'=>∃v1 v2,e= .returned (.tuple #[v1,v2])∧Le w w'∧NumL L .u32 w' v1 (a / b)∧NumL L .u32 w' v2 (a%b):=by
 have ha0:=ha;have hb0:=hb;obtain⟨Aa,ca,rfl,a1,a2,aN,a3⟩:=ha;obtain⟨Ab,cb,rfl,b1,b2,bN,b3⟩:=hb;have e1:a / b=0:=Nat.div_eq_of_lt hlt;have e2:a%b=a:=Nat.mod_eq_of_lt hlt;rw[e1,e2];have⟨ha0',hb0',a3',aN',b3',bN',hL',e1'⟩:=hyd8 ha0 hb0 a3 aN b3 bN hL e1;have e2':=hyd1 e2;clear e2 e1 hL bN b3 aN a3 hb0 ha0;go_enter Tryz.func65,Tryz.ntmps65;go_wp2_with (first | (go_at_call 67;((with_reducible refine(qBL L a b _ _ _ (ha0'.out.le (qAB _ _)) (hb0'.out.le (qAB _ _)) hma hmb).mono ?_);rintro e w' ⟨c,rfl,hle,hc,hc2⟩;obtain⟨hle2,hbox⟩:=qBh hle;have hcn:c<0:=hc.2 hlt;have cbx:=qAC hbox;have fbx:=fz0 hbox 0;clear hc hc2 hle;have hle':=Lib.hid hle2;clear hle2)));have c9:=qAC (qAW hbox (u:= .slice none 0 0));refine bodyPost_ret (v:= .tuple #[.slice none 0 0,.slice Aa (dg a).length ca]) (by simp[results,Tryz.results65,go_sem,c9]) rfl ?_;refine⟨_,_,rfl,?_,?_,?_⟩
 ·exact hle'.out.setCell (p:=⟨w.heap.size,0,none⟩) (Nat.le_refl _) _
 ·unfold NumL;rw[qA4];exact ArrL.nil _ _ _
 ·exact ha0'.out.le (hle'.out.setCell (p:=⟨w.heap.size,0,none⟩) (Nat.le_refl _) _)
theorem qMS {b:Nat} (h:(dg b).length =1):b<B9∧b≠0∧dg b=[b]:=by
 have h1:=qAa b;rw[h,Nat.pow_one]at h1;have h2:b≠0:=dg_length_pos.1 (by omega);exact⟨h1,h2,qLD h1 h2⟩
theorem qKM (L:Nat→Prop) (a b:Nat) (va vb:Value) (w:World) (hL:Up w L) (ha:NumL L .u32 w va a) (hb:NumL L .u32 w vb b) (hma:(dg a).length ≤100000000) (hmb:(dg b).length =1) (hge:b≤a):
  Calls Tryz.prog 65 #[va,vb] w fun e w'=>∃v1 v2,e= .returned (.tuple #[v1,v2])∧Le w w'∧NumL L .u32 w' v1 (a / b)∧NumL L .u32 w' v2 (a%b):=by
 have ha0:=ha;have hb0:=hb;obtain⟨Aa,ca,rfl,a1,a2,aN,a3⟩:=ha;obtain⟨Ab,cb,rfl,b1,b2,bN,b3⟩:=hb;obtain⟨g1,g2,g3⟩:=qMS hmb;have hB:=qAO;rw[hmb];rw[hmb]at b1 hb0;simp only[hmb]at b3;obtain⟨bb,ob,rfl,-,hbb,hcb⟩:=b3 (by omega);have hck:=hcb 0 (by omega);simp only[g3,List.getElem_cons_zero,Nat.add_zero]at hck;unfold gv at hck;have hbB:b<1000000000:=by omega
 have hmod:a%b<1000000000:=Nat.lt_trans (Nat.mod_lt _ (by omega)) hbB;obtain⟨r,hr⟩:∃r,a%b=r:=⟨_,rfl⟩;rw[hr]at hmod ⊢;have hb1:0<b:=by omega
 have⟨ha0',hb0',a3',aN',b3',bN',hL',hcb'⟩:=hyd8 ha0 hb0 a3 aN b3 bN hL hcb;have⟨g3',hB',g1',g2',hr'⟩:=hyd5 g3 hB g1 g2 hr;clear hr g2 g1 hB g3 hcb hL bN b3 aN a3 hb0 ha0;go_enter Tryz.func65,Tryz.ntmps65;go_wp2_with (fail);go_at_call 67;refine(qBL L a b _ _ _ (ha0'.out.le (qAB _ _)) (hb0'.out.le (qAB _ _)) hma (by rw[hmb];omega)).mono ?_;rintro e w' ⟨c,rfl,hle,hc,hc2⟩;have hcn:¬c<0:=fun h=>by have:=hc.1 h;omega
 obtain⟨hle2,hbox⟩:=qBh hle;have hck2:=(Below.cell hle2 (p:=⟨bb,ob,none⟩) hbb).trans hck;have hbb2:bb<w'.heap.size:=Nat.lt_of_lt_of_le hbb hle2.size;clear hc hc2 hle;have⟨hle2',hbox'⟩:=hyd2 hle2 hbox;clear hbox hle2;go_wp2_with (fail);go_at_call 120;have hUp1:Up (w'.alloc (.cells #[.int .i64 1] 3)) L:=(hL'.out.le hle2'.out).le (qAB _ _);refine(qHP L a b _ _ hUp1 ((ha0'.out.le hle2'.out).le (qAB _ _)) hb1 hbB hma).mono ?_;rintro e w2 ⟨v1,rfl,hle3,hq⟩;obtain⟨A1,c1,rfl⟩:=hq.slice;rw[hr'.out];obtain⟨hle4,hnb⟩:=qBh hle3;have hbx2:=(Below.block hle4 w.heap.size (by have:=(gsl hbox'.out);omega)).trans hbox'.out;have hup2:=hUp1.le hle3;have⟨hle3',hle4',hnb',hbx2',hq',hup2',hUp1'⟩:=hyd7 hle3 hle4 hnb hbx2 hq hup2 hUp1;clear hUp1 hup2 hq hbx2 hnb hle4 hle3;go_wp2_with (fail);go_at_call 68;refine(qBw r w2 (by omega)).mono ?_;rintro e w3 ⟨v2,rfl,hle5,hown⟩;have hle6:Le w2 w3:=hle5;have hbx3:=(Below.block hle5 w.heap.size (by have:=(gsl hbx2'.out);omega)).trans hbx2'.out;have cb:=qAC hbx3;have fb:=fz0 hbx3 0;have⟨hle5',hle6',hbx3',hown'⟩:=hyd4 hle5 hle6 hbx3 hown;clear hown hbx3 hle6 hle5;go_wp2;have hn2:NumL L .u32 w3 v2 r:=ArrL.of_own hown'.out hup2'.out;have c9:=qAC (qAW hbx3'.out (u:= .slice A1 (dg (a / b)).length c1));refine bodyPost_ret (v:= .tuple #[.slice A1 (dg (a / b)).length c1,v2]) (by simp[results,Tryz.results65,go_sem,c9]) rfl ?_;have hfin:Below w.heap.size w (w3.setCell ⟨w.heap.size,0,none⟩ (.slice A1 (dg (a / b)).length c1)):=Below.setCell (Le.trans (Le.trans hle2'.out hle4'.out) hle6'.out) (p:=⟨w.heap.size,0,none⟩) (Nat.le_refl _) _
 refine⟨_,_,rfl,hfin,?_,?_⟩
 ·exact((hq'.out.le hle6'.out).box_set hbx3'.out)
 ·exact hn2.box_set hbx3'.out
end Go.Proofs.YtenjpccpldajoaaGreatDoor
namespace Go.Proofs.YtenjpccpldajoaaGreatDoor
set_option maxRecDepth 100000
set_option maxHeartbeats 4000000
open Go.RowKit Go.Shelf
set_option linter.unusedVariables false
set_option linter.unusedSimpArgs false
attribute [local go_sem] Oper.semAt_some
def boxRel (B:Nat):WRel where
 r W W':=W.heap.size≤W'.heap.size∧(B≤W.heap.size→Below B W W')∧∀(k:Nat) (v:Value) (t:TypeId),W.heap[k]? =some (Obj.cells #[v] t)→W'.heap[k]? =some (Obj.cells #[v] t)
 refl w:=⟨Nat.le_refl _,fun _=>Below.refl _ _,fun _ _ _ h=>h⟩
 drew w:=⟨Nat.le_refl _,fun _=>Below.drew (Below.refl _ _),fun _ _ _ h=>h⟩
 trans:=by
  rintro a b c ⟨h1,h2,h3⟩ ⟨k1,k2,k3⟩;exact⟨Nat.le_trans h1 k1,fun h=>(h2 h).trans (k2 (Nat.le_trans h h1)),fun k v t h=>k3 k v t (h3 k v t h)⟩
theorem boxRel.of_le {B:Nat} (a b:World) (h:Le a b):(boxRel B).r a b:=
 ⟨Below.size h,fun hB=>Below.mono h hB,fun k v t hk=>(Below.block h k (gsl hk)).trans hk⟩
theorem boxRel.of_grown {B:Nat} {W W':World} {e:TypeId} {p c n:Nat} {xs:List Value} (hown:W.ownsRow B e 1 (.slice (some ⟨p,0,none⟩) n c) n xs) (hc:c≠1) (hg:W.grownBy W' (some p)) (hb:Below B W W'):(boxRel B).r W W':=by
 refine⟨hg.size,fun _=>hb,fun k v t hk=>?_⟩
 have hne:k≠p:=by
  rintro rfl
  rcases hown.2 with⟨h,_⟩| ⟨g,cap,cur,hv,-,hh,-,-,hsz,-⟩
  ·cases h
  ·injection hv with e1 e2 e3;injection e1 with e1;injection e1 with e1;subst e1 e3;rw[hk]at hh;injection hh with hh;injection hh with h1 h2;subst h1;simp at hsz;omega
 exact(hg.block k (gsl hk) (fun e=>hne (by injection e))).trans hk
def MPredR.box (B:Nat) (v:Value) (t:TypeId):MPredR (boxRel B) where
 p x W:=∃k,x= .pointer (some ⟨k,0,none⟩)∧B≤k∧W.heap[k]? =some (Obj.cells #[v] t)
 mono:=fun _ _ _ h ⟨k,h1,h2,h3⟩=>⟨k,h1,h2,h.2.2 _ _ _ h3⟩
def MPredR.own (B:Nat) (e:TypeId) (xs:List Nat) (c:Nat):MPredR leRel where
 p v W:=∃p n,v= .slice (some ⟨p,0,none⟩) n c∧n=xs.length∧W.ownsRow B e 1 v n (xs.map (gv .u32))
 mono:=fun _ _ _ h ⟨p,n,h1,h2,h3⟩=>⟨p,n,h1,h2,qC5 h3 h⟩
def MPredR.ownA (B:Nat) (e:TypeId) (xs:List Nat):MPredR leRel where
 p v W:=W.ownsRow B e 1 v xs.length (xs.map (gv .u32))
 mono:=fun _ _ _ h h3=>qC5 h3 h
structure OvEnv (w:World) (Q0 N0 S0 V0 n s V M1:Nat) (vv:Value) (tn ti tu:TypeId) (W:World):Prop where
 q0:W.heap[Q0]? =some (Obj.cells #[.slice none 0 0] tn)
 n0:W.heap[N0]? =some (Obj.cells #[.int .i64 (n:Int)] ti)
 s0:W.heap[S0]? =some (Obj.cells #[.int .u32 (s:Int)] tu)
 v0:W.heap[V0]? =some (Obj.cells #[vv] tn)
 vn:NumL (fun k=>k<M1) .u32 W vv V
 size:W.heap.size=M1
 below:Below w.heap.size w W
 hq:w.heap.size≤Q0
theorem qCj {w:World} {base e size n O N c B k:Nat} {xs:List Value} (h:w.ownsRow base e size (.slice (some ⟨O,0,none⟩) N c) n xs) (hB:O≠B) (u:Value):(w.setCell ⟨B,k,none⟩ u).ownsRow base e size (.slice (some ⟨O,0,none⟩) N c) n xs:=by
 refine⟨h.1,?_⟩
 rcases h.2 with h'| ⟨g,cap,cur,hv',hbg,hh,r⟩
 ·exact Or.inl h'
 ·have hg:g=O:=by
   injection hv' with e1;injection e1 with e1;injection e1 with e1;exact e1.symm
  exact Or.inr ⟨g,cap,cur,hv',hbg,(Below.heap_setCell _ _ _ _ (by show g≠B;omega)).trans hh,r⟩
theorem qN0 {w:World} {base e t size n O N c k:Nat} {cs:Array Value} {xs:List Value} (h:w.ownsRow base e size (.slice (some ⟨O,0,none⟩) N c) n xs) (hk:w.heap[k]? =some (Obj.cells cs t)) (ht:e≠t):O≠k:=by
 rintro rfl
 rcases h.2 with⟨h,_⟩| ⟨g,cap,cur,hv,-,hh,-⟩
 ·cases h
 ·injection hv with q1 q2 q3;injection q1 with q1;injection q1 with q1;subst q1;rw[hk]at hh;injection hh with hh;injection hh with h1 h2;exact ht h2.symm
structure OvI (W0:World) (M1 GU cu G:Nat) (t:TypeId) (Bs:List Nat) (T V n mm N la1:Nat) (pre:List (Fin N×Nat)) (W:World):Prop where
 kept:Kept M1 Bs W0 W
 size:W0.heap.size≤W.heap.size
 ex:∃ul ql:List Nat,ul.length=la1∧Low ul∧ql.length=N∧W.ownsRow M1 t 1 (.slice (some ⟨GU,0,none⟩) la1 cu) la1 (ul.map (gv .u32))∧W.ownsRow M1 t 1 (.slice (some ⟨G,0,none⟩) N N) N (ql.map (gv .u32))∧
  (pre.map (·.1)<+:List.finRange N→Dividing T V n mm (N - pre.length) ul ql)
theorem OvI.from (W0:World) (M1 GU cu G:Nat) (t:TypeId) (Bs:List Nat) (T V n mm N la1 N0:Nat) (h:W0.heap.size≤N0) (hn:M1≤W0.heap.size) (hO:GU<N0) (hR:G<N0) (hBs:∀B∈Bs,B<W0.heap.size):OwnFrom N0 (OvI W0 M1 GU cu G t Bs T V n mm N la1):=by
 rintro s X Y row ⟨h1,hs,ul,ql,h2,h3,h4,h5,h6,h7⟩ hg hrow;refine⟨h1.trans ⟨(Below.refl _ _).grown hg (by omega) fun k e=>by have:=(hrow k e).1;omega,fun B hB=>hg.block B (by have:=hBs B hB;omega) (fun e=>by have:=(hrow _ e.symm).1;have:=hBs B hB;omega)⟩,Nat.le_trans hs hg.size,ul,ql,h2,h3,h4,?_,?_,h7⟩
 ·exact qEU h5 hg fun r e=>by have:=(hrow r e).1;omega
 ·exact qEU h6 hg fun r e=>by have:=(hrow r e).1;omega
theorem OvI.step {W0:World} {M1 GU cu G:Nat} {t:TypeId} {Bs:List Nat} {T V n mm N la1:Nat} {pre:List (Fin N×Nat)} {x:Fin N×Nat} {W:World} {ul ql:List Nat} {Ix:Code→List (Fin N×Nat)→World→Prop}
  (k1:Kept M1 Bs W0 W) (k2:W0.heap.size≤W.heap.size) (h1:ul.length=la1) (h2:Low ul) (h3:ql.length=N) (h5:W.ownsRow M1 t 1 (.slice (some ⟨G,0,none⟩) N N) N (ql.map (gv .u32)))
  (h6:pre.map (·.1)<+:List.finRange N→Dividing T V n mm (N - pre.length) ul ql) (hN:N=mm+1) (hla:la1=mm+1+n)
  (j q:Nat) (hj:N - 1 - x.1.1=j) (us':List Nat) (hl':us'.length=n+1) (hlow:Low us') (hV:V≤B9^n) (hV0:0<V)
  (hres:nv ((ul.drop j).take (n+1))<V*B9→q=nv ((ul.drop j).take (n+1)) / V∧nv us'=nv ((ul.drop j).take (n+1))%V)
  (W2:World) (hg:W.grownBy W2 (some GU)) (hu2:W2.ownsRow M1 t 1 (.slice (some ⟨GU,0,none⟩) la1 cu) la1 ((qA9 ul j us').map (gv .u32)))
  (hGU:M1≤GU) (hG:M1≤G) (hne:GU≠G) (hBs:∀B∈Bs,B≠GU∧B≠G) (Bs2:List Nat) (hsub:∀B∈Bs2,B∈Bs) (hM:M1≤W.heap.size) (hBl:∀B∈Bs,B<W.heap.size) (N0:Nat) (aa:Act) (hKF:KeepsFrom N0 W W2):
  ownPostG N0 (KeptR G N M1 Bs2) (OvI W0 M1 GU cu G t Bs T V n mm N la1) Ix (pre++[x]) W .normal aa (W2.setCell ⟨G,j,none⟩ (.int .u32 (q:Int))):=by
 have hx:=x.1.2;have hq2:=qEU h5 hg (fun r e=>by injection e with e;omega);have hq3:=qC6 (f:=gv .u32) hq2 j q
 have hk:Kept M1 Bs W (W2.setCell ⟨G,j,none⟩ (.int .u32 (q:Int))):=
  ⟨((Below.refl M1 W).grown hg hM (fun k e=>by injection e with e;omega)).setCell (p:=⟨G,j,none⟩) hG _,fun B hB=>(Below.heap_setCell _ _ _ _ (hBs B hB).2).trans (hg.block B (hBl B hB) (fun e=>(hBs B hB).1 (by injection e)))⟩
 refine⟨hKF.trans ((KeepsOthers.setCell _ _ _).from _),⟨⟨hk.1,fun B hB=>hk.2 B (hsub B hB)⟩,fun _ k hkN=>?_⟩,?_⟩
 ·have hlq:(ql.set j q).length =N:=by simpa using h3
  exact⟨_,qBo (f:=gv .u32) hq3 hlq (List.getElem?_eq_getElem (by omega))⟩
 ·refine⟨k1.trans hk,Nat.le_trans k2 (by simpa[World.setCell]using hg.size),qA9 ul j us',ql.set j q,?_,?_,by simpa using h3,?_,hq3,fun hp=>?_⟩
  ·rw[qFE (by omega)];exact h1
  ·unfold qA9;exact((h2.take j).append hlow).append (h2.drop _)
  ·exact qCj hu2 hne _
  ·rw[List.map_append,List.map_singleton]at hp;obtain⟨p1,p2⟩:=qCt hp;have h9:=h6 p1;rw[List.length_map]at p2;rw[show N - pre.length=j+1 by omega]at h9;have hjm:j≤mm:=by omega
   obtain⟨r1,r2⟩:=hres (h9.window hjm).2.2;have h10:=h9.next hjm hV hl' hlow hV0 r2;rw[←r1]at h10;rw[List.length_append,List.length_singleton,show N - (pre.length+1)=j by omega];unfold qA9;rw[hl',←Nat.add_assoc];exact h10
theorem KeptR.put {q N n₀:Nat} {Bs:List Nat} {w:World} (hn:n₀≤w.heap.size) (hBs:∀B∈Bs,B<w.heap.size) (hq:q<w.heap.size) (W:World) (l:Nat) (o o':Obj) (hl:w.heap.size≤l) (h:W.heap[l]? =some o) (hc:o.isCells=false) (hw:o.isWalk=false):KeptR q N n₀ Bs W (W.putObj l o'):=
 ⟨Kept.put hn hBs W l o o' hl h hc hw,fun hr k hk=>by
  obtain⟨g,hg⟩:=hr k hk
  exact⟨g,(World.cell?_of_block (World.putObj_heap_other (by show q≠l;omega))).trans hg⟩⟩
theorem qLR {a b s m mm:Nat} {ul:List Nat} (hs:0<s) (hb:(dg b).length =m+2) (ha:(dg a).length =m+2+mm) (h1:ul.length=mm+1+(m+2)) (h2:Low ul) (h3:nv ul=a*s):Dividing (a*s) (b*s) (m+2) mm (mm+1) ul (List.replicate (mm+1) 0):=by
 refine Dividing.start h1 h2 h3 ?_;have hb1:=qMD (n:=b) (by omega);rw[hb,show m+2 - 1=m+1 by omega]at hb1;have ha1:=qAa a;rw[ha]at ha1;have h4:B9^(m+1)*B9^(mm+1)≤b*B9^(mm+1):=Nat.mul_le_mul_right _ hb1;rw[←Nat.pow_add,show m+1+(mm+1)=m+2+mm by omega]at h4;have h5:a*s<b*B9^(mm+1)*s:=Nat.mul_lt_mul_of_pos_right (by omega) hs;rw[Nat.mul_right_comm]at h5;exact h5
theorem NumL.keep {L:Nat→Prop} {W W':World} {v:Value} {n:Nat} (h:NumL L .u32 W v n) (hs:W.heap.size≤W'.heap.size) (hk:∀(k:Nat) (o:Obj),W.heap[k]? =some o→o.isCells=true→W'.heap[k]? =some o):NumL L .u32 W' v n:=by
 obtain⟨A,c,hv,h1,h2,hN,h3⟩:=h;refine⟨A,c,hv,h1,h2,hN,fun h0=>?_⟩;obtain⟨b,off,ha,hb,hlt,hc⟩:=h3 h0;refine⟨b,off,ha,hb,by omega,fun j hj=>?_⟩;have h4:=hc j hj;obtain⟨o,ho⟩:∃o,W.heap[b]? =some o:=⟨_,Array.getElem?_eq_getElem hlt⟩
 have hoc:o.isCells=true:=by
  cases o with
  | cells c e f=>rfl
  | _=>simp[World.cell?,ho]at h4
 exact(World.cell?_of_block ((hk b o ho hoc).trans ho.symm)).trans h4
def MPred.tup (L:Nat→Prop) (n:Nat):MPredR leRel where
 p v W:=∃A c r,v= .tuple #[.slice A (dg n).length c,.int .u32 r]∧NumL L .u32 W (.slice A (dg n).length c) n
 mono:=fun _ _ _ h ⟨A,c,r,h1,h2⟩=>⟨A,c,r,h1,h2.le h⟩
def MPredR.const {R:WRel} (p:Value→Prop):MPredR R:=⟨fun v _=>p v,fun _ _ _ _ h=>h⟩
def drewRel:WRel where
 r W W':=∃n,W'=W.drewN n
 refl w:=⟨0,rfl⟩
 drew w:=⟨1,rfl⟩
 trans:=by
  rintro a b c ⟨n,rfl⟩ ⟨k,rfl⟩;exact⟨n+k,qBu _ _ _⟩
def rowRel (g:Nat):WRel where
 r W W':=W.grownBy W' (some g)
 refl w:=World.grownBy.refl _ _
 drew w:=⟨rfl,rfl,rfl,Nat.le_refl _,fun _ _ _=>rfl⟩
 trans:=fun h k=>h.trans k
def MPredR.took (n r base g N c:Nat) (t:TypeId) (ul:List Nat) (hlt:Prop) (j:Nat):MPredR drewRel where
 p _ W:=∃us':List Nat,us'.length=n+1∧Low us'∧(hlt→nv us'=r)∧W.ownsRow base t 1 (.slice (some ⟨g,0,none⟩) N c) N ((qA9 ul j us').map (gv .u32))
 mono:=by
  rintro _ w w' ⟨k,rfl⟩ h;exact h
theorem rowRel.of_drew {g:Nat} (a b:World) (h:drewRel.r a b):(rowRel g).r a b:=by
 obtain⟨n,rfl⟩:=h;exact⟨rfl,rfl,rfl,Nat.le_refl _,fun _ _ _=>rfl⟩
theorem qJS (L:Nat→Prop) (a b:Nat) (va vb:Value) (w:World) (hL:Up w L) (ha:NumL L .u32 w va a) (hb:NumL L .u32 w vb b) (hma:(dg a).length ≤10000000) (hmb:2≤(dg b).length) (hge:b≤a):
  Calls Tryz.prog 65 #[va,vb] w fun e w'=>∃v1 v2,e= .returned (.tuple #[v1,v2])∧Le w w'∧NumL L .u32 w' v1 (a / b)∧NumL L .u32 w' v2 (a%b):=by
 have ha0:=ha;have hb0:=hb;have hlen:(dg b).length ≤(dg a).length :=qAJ hge;obtain⟨Aa,ca,rfl,a1,a2,aN,a3⟩:=ha;obtain⟨Ab,cb,rfl,b1,b2,bN,b3⟩:=hb;have hB:=qAO;obtain⟨n,hn⟩:∃n,(dg b).length =n:=⟨_,rfl⟩;obtain⟨m,hm⟩:∃m,n=m+2:=⟨n - 2,by omega⟩;subst hm;obtain⟨bb,ob,rfl,-,hbb,hcb⟩:=b3 (by omega);have hck:=hcb (m+1) (by omega);obtain⟨t,ht⟩:∃t,(dg b)[m+1]'(by omega)=t:=⟨_,rfl⟩;have htop:=qEj (n:=b) (by omega);simp only[show(dg b).length - 1=m+1 by omega]at htop;have htB:t<B9:=by rw[←ht];exact qBQ _ _ _
 rw[ht]at hck htop;unfold gv at hck;obtain⟨k1,k2,k3⟩:=qIV htop htB;obtain⟨s,hs⟩:∃s,B9 / (t+1)=s:=⟨_,rfl⟩;have hsc:=qLF (n:=m+2) (s:=s) (b:=b) (by omega) (by simp only[show(dg b).length - 1=m+1 by omega];rw[ht];exact hs.symm) hn;obtain⟨hVl,hVt⟩:=hsc;rw[hs]at k1 k2;have hsi:(1000000000:Int) / ((t:Int)+1)=(s:Int):=by rw[←hs,hB];simp
 have hsi2:(1000000000:Int).tdiv ((t:Int)+1)=(s:Int):=by rw[Int.tdiv_eq_ediv_of_nonneg (by omega)];exact hsi
 have htz:(((t:Int)+1)==0)=false:=by simp;omega
 have htz2:¬((t:Int)+1=0):=by omega
 rw[hB]at htB k2;have hmB:m+2≤10000000:=by omega
 have hlnB:m+2≤(dg a).length :=by omega
 have hds:dg s=[s]:=qLD (by omega) (by omega);rw[hn]at b1 hb0 ⊢;have hmI:¬(((m:Int)+2)=1):=by omega
 have hmI2:(((m:Int)+2)==1)=false:=by simp;omega
 have hmI3:¬(m+2=1):=by omega
 have⟨ha0',hb0',a3',aN',b3',bN',hL',hcb'⟩:=hyd8 ha0 hb0 a3 aN b3 bN hL hcb;have⟨hB',hs',hVt',hds',k1',k3',ht',hlen'⟩:=hyd8 hB hs hVt hds k1 k3 ht hlen;clear hlen ht k3 k1 hds hVt hs hB hcb hL bN b3 aN a3 hb0 ha0;refine(callsIn_wide (n:=5)).1 ?_;refine callsIn_of_wp_marks Tryz.func65 rfl trivial ?_ rfl;simp only[Tryz.ntmps65,List.size_toArray,List.length_cons,List.length_nil,Nat.reduceAdd,Nat.reduceSub,Array.replicate_succ,Array.replicate_zero,List.push_toArray,List.append_toArray,List.nil_append,List.cons_append];refine wpIn_wide.2 ?_;go_wp2_with (fail);go_at_call 67;refine(qBL L a b _ _ _ (ha0'.out.le (qAB _ _)) (hb0'.out.le (qAB _ _)) (by omega) (by omega)).mono ?_;rintro e w1 ⟨c,rfl,hle,hc,hc2⟩;have hcn:¬c<0:=fun h=>by have:=hc.1 h;omega
 obtain⟨hle2,hbox⟩:=qBh hle;have hck2:=(Below.cell hle2 (p:=⟨bb,ob+(m+1),none⟩) hbb).trans hck;have hbb2:bb<w1.heap.size:=Nat.lt_of_lt_of_le hbb hle2.size;clear hc hc2 hle;have⟨hle2',hbox'⟩:=hyd2 hle2 hbox;clear hbox hle2;go_wp2_with (fail);go_at_call 116;obtain⟨W2,hW2⟩:∃W2,((w1.alloc (.cells #[.int .i64 ((m:Int)+2)] 3)).alloc (.cells #[.int .u32 (s:Int)] 92))=W2:=⟨_,rfl⟩;have hle3:Le w1 W2:=by rw[←hW2];exact(qAB _ _).trans (qAB _ _)
 have hs2:W2.heap.size=w1.heap.size+2:=by rw[←hW2];simp
 have hN2:W2.heap[w1.heap.size]? =some (.cells #[.int .i64 ((m:Int)+2)] 3):=by rw[←hW2];exact(Below.heap_alloc _ _ _ (by simp)).trans (heap_alloc_new _ _)
 have hS2:W2.heap[w1.heap.size+1]? =some (.cells #[.int .u32 (s:Int)] 92):=by rw[←hW2];have h:=heap_alloc_new (w1.alloc (.cells #[.int .i64 ((m:Int)+2)] 3)) (.cells #[.int .u32 (s:Int)] 92);rw[World.size_alloc]at h;exact h
 have hsc2:NumL (fun _=>True) .u32 W2 (.slice (some ⟨w1.heap.size+1,0,none⟩) 1 1) s:=by
  have h:=qCB .u32 (w1.alloc (.cells #[.int .i64 ((m:Int)+2)] 3)) 92 s;rw[World.size_alloc]at h;unfold NumL;rw[hds'.out,←hW2];exact ArrL.of_arr h fun _ _=>trivial
 rw[hW2];refine(qB8 (fun _=>True) b s _ _ W2 (Up.any _) (((hb0'.out.le hle2'.out).le hle3).mono fun _ _=>trivial) hsc2 (by omega) (by rw[hds'.out];simp)).mono ?_;rintro e w3 ⟨vv,rfl,hle4,hvv⟩;obtain⟨Av,cv,rfl⟩:=hvv.slice;rw[hVl]at hvv ⊢;have hle5:Le w1 (w3.alloc (.cells #[.slice Av (m+2) cv] 68)):=(hle3.trans hle4).trans (qAB _ _)
 have env:OvEnv w w.heap.size w1.heap.size (w1.heap.size+1) w3.heap.size (m+2) s (b*s) (w3.heap.size+1) (.slice Av (m+2) cv) 68 3 92 (w3.alloc (.cells #[.slice Av (m+2) cv] 68)):=by
  have z1:=hle3.size;have z2:=hle4.size;refine⟨(Below.block hle5 _ (by have:=(gsl hbox'.out);omega)).trans hbox'.out,?_,?_,heap_alloc_new _ _,?_,by simp,Le.trans hle2'.out hle5,Nat.le_refl _⟩
  ·rw[show((m+2:Nat):Int)=(m:Int)+2 by omega];exact(Below.heap_alloc _ _ _ (by omega)).trans ((Below.block hle4 _ (by omega)).trans hN2)
  ·exact(Below.heap_alloc _ _ _ (by omega)).trans ((Below.block hle4 _ (by omega)).trans hS2)
  ·have h1:=(ArrL.of_arr (L:=fun k=>k<w3.heap.size+1) hvv.arr (fun b hb=>by show b<w3.heap.size+1;omega)).le (qAB w3 (.cells #[.slice Av (m+2) cv] 68));exact h1
 clear hN2 hS2 hsc2 hW2 hle3 hle4 hvv hck2 hck hbb2 hsi hsi2 htz htz2;have⟨env',hle5'⟩:=hyd2 env hle5;clear hle5 env;go_wp2;generalize w3.alloc (.cells #[.slice Av (m+2) cv] 68)=W4 at env' hle5';have hM1:W4.heap.size=w3.heap.size+1:=env'.out.size
 have hzz:w1.heap.size+1<w3.heap.size+1:=by
  have:=(gsl env'.out.s0);omega
 have hzw:w.heap.size<w1.heap.size:=(gsl hbox'.out);generalize hM:w3.heap.size+1=M1 at*;generalize hV0:w3.heap.size=V0 at*;generalize hN0:w1.heap.size=N0 at*;obtain⟨la,hla⟩:∃la,(dg a).length =la:=⟨_,rfl⟩
 have haW:∀W,(boxRel M1).r W4 W→NumL (fun _=>True) .u32 W (.slice Aa (dg a).length ca) a:=fun W hW=>by
  have h1:=ArrL.of_arr (L:=fun k=>k<w.heap.size) ha0'.out.arr (fun b hb=>hb);have h2:=ArrL.stays h1 (W:=W) ⟨Nat.le_trans env'.out.below.size hW.1,fun k hk _=>((hW.2.1 (by omega)).block k (by omega)).trans (env'.out.below.block k hk)⟩;exact h2.mono fun _ _=>trivial
 have hsW:∀W,(boxRel M1).r W4 W→NumL (fun _=>True) .u32 W (.slice (some ⟨N0+1,0,none⟩) 1 1) s:=fun W hW=>by
  unfold NumL;rw[hds'.out];refine⟨_,1,rfl,Nat.le_refl _,by unfold maxLen;omega,fun h=>by simp at h,fun _=>⟨N0+1,0,rfl,trivial,?_,fun j hj=>?_⟩⟩
  ·have:=hW.1;omega
  ·obtain rfl:j=0:=by simp at hj;omega
   exact qAC (hW.2.2 _ _ _ env'.out.s0)
 have⟨haW',hsW',hla'⟩:=hyd3 haW hsW hla;clear hla hsW haW;refine qIq (R:=leRel) (T:=boxRel M1) boxRel.of_le 9 7 (by decide) [some 45,some 46,some 47,some 48,some 49,some 50,some 51,some 52,some 11,none] [[],[0],[1],[2],[],[],[4,5],[3,6],[],[7,8]]
  [.eq (.slice Aa (dg a).length ca),.eq (.int .i64 ((dg a).length :Nat)),.eq (.int .i64 (((dg a).length :Nat)+2)),.any,.eq (.slice Aa (dg a).length ca),.eq (.slice (some ⟨N0+1,0,none⟩) 1 1),.any,.any,.box M1 (.slice none 0 0) 68]
  [.any,.any,.any,.own M1 92 [] ((dg a).length +2),.any,.any,MPred.num (fun _=>True) .u32 (a*s)] (.ownA M1 92 (dg (a*s))) (fun _ _=>False) (by kernel_rfl) (by kernel_rfl) (by kernel_rfl) (by kernel_rfl) ?_ (fun _ _ _ _ h=>h.elim) ?_
 ·simp only[List.take_succ_cons,List.take_zero];refine qA6 (by decide) ⟨rfl,fun x W hR hf Q hK _=>?_⟩ (qA6 (by decide) ⟨rfl,fun x W hR hf Q hK _=>?_⟩ (qA6 (by decide) ⟨rfl,fun x W hR hf Q hK _=>?_⟩ (qA6 (by decide) ⟨rfl,fun x W hR hf Q hK _=>?_⟩ (qA6 (by decide) ⟨rfl,fun x W hR hf Q hK _=>?_⟩ (qA6 (by decide) ⟨rfl,fun x W hR hf Q hK _=>?_⟩ (qA6 (by decide) ⟨rfl,fun x W hR hf Q hK _=>?_⟩ (qHJ (by decide) ⟨rfl,fun x W hR hf hg Q hK _=>?_⟩ (qA6 (by decide) ⟨rfl,fun x W hR hf Q hK _=>?_⟩ qFd))))))))
  ·simp only[fA]at hK ⊢;go_wp2;exact hK _ _ lrR rfl trivial
  ·obtain⟨e0,-⟩:=hf;change _=_ at e0;simp only[fA,e0]at hK ⊢;go_wp2;exact hK _ _ lrR rfl trivial
  ·obtain⟨e0,-⟩:=hf;change _=_ at e0;simp only[fA,e0]at hK ⊢;go_wp2;exact hK _ _ lrR rfl trivial
  ·obtain⟨e0,-⟩:=hf;change _=_ at e0;have hMW:M1≤W.heap.size:=by have:=hR.1;omega
   simp only[fA,e0]at hK ⊢;go_wp2_with (at_make;go_must (refine qCi _ rfl _ _ 68 rfl M1 92 (.int .u32 0) 4 qAf (by decide) _ ((dg a).length +2) rfl (by go_num) (by go_num) (by omega) hMW ?_);intro w5 r1 r2);exact hK _ _ r2 trivial ⟨_,_,rfl,rfl,r1⟩
  ·simp only[fA]at hK ⊢;go_wp2;exact hK _ _ lrR rfl trivial
  ·simp only[fA]at hK ⊢;go_wp2;exact hK _ _ lrR rfl trivial
  ·obtain⟨e0,e1,-⟩:=hf;change _=_ at e0 e1;simp only[fA,e0,e1]at hK ⊢;go_wp2_with (fail);go_at_call 116;refine(qB8 (fun _=>True) a s _ _ W (Up.any _) (haW'.out W hR) (hsW'.out W hR) (by omega) (by rw[hds'.out];simp)).mono ?_;rintro e w5 ⟨v5,rfl,hle6,hv5⟩;go_wp2;exact hK _ _ hle6 trivial hv5
  ·obtain⟨-,⟨p,n0,e0,e1,hown⟩,-⟩:=And.intro trivial hg;obtain⟨-,g6,-⟩:=hg;replace g6:NumL (fun _=>True) .u32 W (x 6) (a*s):=g6;obtain⟨A6,c6,e6⟩:=NumL.slice g6;obtain rfl:n0=0:=e1;have hMW:M1≤W.heap.size:=by have:=Below.size hR;omega
   rw[e6]at g6;rw[e0]at hown;simp only[fA,e0,e6]at hK ⊢;have hTl:=qAN a s;rw[hds'.out]at hTl;simp only[List.length_singleton]at hTl;go_wp2_with (at_builtin;go_must (refine qAm rfl (.tmp 48) (.tmp 51) 68 rfl M1 92 .u32 4 qAf (by decide) _ [] rfl hown _ (dg (a*s)) rfl g6.arr (by simp;omega) hMW ?_);intro v' w' r1 r2 r3 r4);exact hK _ _ (boxRel.of_grown hown (by omega) r3 r2) trivial r1
  ·simp only[fA]at hK ⊢;go_wp2;exact hK _ _ (qAB _ _) ⟨_,rfl,by have:=hR.1;omega,heap_alloc_new _ _⟩ trivial
 ·intro x W hR hf hO Q' hQ1 _;simp only[List.drop_succ_cons,List.drop_zero];have e0:=hf 0 (by decide);have e1:=hf 1 (by decide);have e2:=hf 2 (by decide);have e4:=hf 4 (by decide);have e5:=hf 5 (by decide);obtain⟨U0,e8,hU0,hub⟩:=hf 8 (by decide);change _=_ at e0 e1 e2 e4 e5;have hO':W.ownsRow M1 92 1 (x 7) (dg (a*s)).length ((dg (a*s)).map (gv .u32)):=hO;have hu0:=qAC hub;have hu1:=fz0 hub 0;rw[show List.range 9=[0,1,2,3,4,5,6,7,8]from rfl];simp only[fA,e0,e1,e2,e4,e5,e8];generalize x 3=x3;generalize x 6=x6;have hTpos:0<(dg (a*s)).length :=dg_length_pos.2 (Nat.ne_of_gt (Nat.mul_pos (Nat.pos_of_ne_zero (dg_length_pos.1 (by omega))) k1'.out));generalize x 7=x7 at hO';obtain⟨GU,cu,e7,hGU1,hGU2,hcu1,hcu2⟩:=qEQ hO' hTpos;subst e7
  have hGne:GU≠U0:=by
   rintro rfl
   rcases hO'.2 with⟨h,_⟩| ⟨g,cap,cur,hv,-,hh,-⟩
   ·cases h
   ·injection hv with q1 q2 q3;injection q1 with q1;injection q1 with q1;subst q1;rw[hub]at hh;injection hh with hh;injection hh with h1 h2;exact absurd h2 (by decide)
  have hO2:=Lib.hid (qCj hO' hGne (k:=0) (.slice (some ⟨GU,0,none⟩) (dg (a*s)).length cu));have hub2:=Lib.hid (qAW hub (u:= .slice (some ⟨GU,0,none⟩) (dg (a*s)).length cu));have hW9:Hid (Below M1 W4 (W.setCell ⟨U0,0,none⟩ (.slice (some ⟨GU,0,none⟩) (dg (a*s)).length cu))):=Lib.hid ((hR.2.1 (by omega)).setCell (p:=⟨U0,0,none⟩) hU0 _);clear e0 e1 e2 e4 e5 e8 hf hO hO' hub;have⟨hR',hTpos'⟩:=hyd2 hR hTpos;clear hTpos hR;go_wp2;refine hQ1 _ _ ?_;clear hQ1 hu0 hu1 hR';generalize W.setCell ⟨U0,0,none⟩ (.slice (some ⟨GU,0,none⟩) (dg (a*s)).length cu)=W9 at hO2 hub2 hW9 ⊢;go_wp2;have hTl:=qAN a s;rw[hds'.out]at hTl;simp only[List.length_singleton]at hTl;have hTl2:(dg a).length ≤(dg (a*s)).length :=qAJ (Nat.le_mul_of_pos_right _ k1'.out)
  go_loopw [53] (fun _ wr=>∃(GU cu:Nat) (ul:List Nat),ul.length≤(dg a).length +1∧(dg a).length ≤ul.length∧GU≠U0∧Hid (nv ul=a*s∧Low ul)∧Hid (wr.heap[U0]? =some (Obj.cells #[.slice (some ⟨GU,0,none⟩) ul.length cu] 68))∧
   Hid (wr.ownsRow M1 92 1 (.slice (some ⟨GU,0,none⟩) ul.length cu) ul.length (ul.map (gv .u32)))∧Hid (Below M1 W4 wr)) (fun _ wr=>(dg a).length +1 - qC3 ((wr.cell? ⟨U0,0,none⟩).getD undef))
  case atStart=>exact⟨GU,cu,_,hTl,hTl2,hGne,Lib.hid ⟨qAl _,qAq _⟩,hub2,hO2,hW9⟩
  case round=>
   clear hO2 hub2 hW9 hGne hTl hTl2;obtain⟨GU,cu,ul,hl1,hl2,hGne,hval,hub,hO,hbel⟩:=hrel;have hu0:=qAC hub.out;have hu1:=fz0 hub.out 0;have hU0l:=(gsl hub.out);have hM1l:M1≤wr.heap.size:=by have:=hbel.out.size;omega
   by_cases hc:ul.length≤(dg a).length
   ·go_wp2_with (at_builtin;go_must (refine qAm rfl (.tmp 58) (.tmp 59) 68 rfl M1 92 .u32 4 qAf (by decide) _ ul rfl (hO.out.alloc _) _ [0] rfl (qCB _ _ _ _) (by simp;omega) (by simp;omega) ?_);intro v' w' r1 r2 r3 r4;rw[List.length_append,List.length_singleton]at r1;obtain⟨GU2,cu2,rfl,hG2,hG3,-,-⟩:=qEQ r1 (by simp);have hub3:=(r3.block U0 (by simp;omega) (fun e=>hGne (by injection e with e9;exact e9.symm))).trans ((Below.heap_alloc _ _ _ hU0l).trans hub.out);have hu3:=qAC hub3;have hu4:=fz0 hub3 0;have hb3:=Lib.hid ((hbel.out.alloc (by omega) _).trans r2);have hne3:=qN0 r1 hub3 (by decide);clear hu0 hu1 r3 r4);have hval2:nv (ul++[0])=a*s∧Low (ul++[0]):=⟨by rw[qF7];exact hval.out.1,hval.out.2.snoc (by have:=hB'.out;omega)⟩;have hub4:=Lib.hid (qAW hub3 (u:= .slice (some ⟨GU2,0,none⟩) (ul.length+1) cu2));have hO4:=Lib.hid (qCj r1 hne3 (k:=0) (.slice (some ⟨GU2,0,none⟩) (ul.length+1) cu2));have hU0M:M1≤U0:=hU0;have hb4:Hid (Below M1 W4 (w'.setCell ⟨U0,0,none⟩ (.slice (some ⟨GU2,0,none⟩) (ul.length+1) cu2))):=Lib.hid (hb3.out.setCell (p:=⟨U0,0,none⟩) hU0M _);have⟨hval2',r1',r2',hub3'⟩:=hyd4 hval2 r1 r2 hub3;clear hub3 r2 r1 hval2;go_roundw
    case rel=>exact⟨GU2,cu2,ul++[0],by simp;omega,by simp;omega,hne3,hval2',by rw[List.length_append,List.length_singleton];exact hub4,by rw[List.length_append,List.length_singleton];exact hO4,hb4⟩
    case measure=>
     have c1:=qAC hub4.out;rw[c1,qAC hub.out];simp[qC3];omega
   ·obtain⟨mm,hmm⟩:∃mm,(dg a).length =m+2+mm:=⟨(dg a).length - (m+2),by omega⟩;have hul:ul.length=(dg a).length +1:=by omega
    have hQ0l:w.heap.size<M1:=by omega
    have hq1:=(hbel.out.block w.heap.size hQ0l).trans env'.out.q0;have hn1:=(hbel.out.block N0 (by omega)).trans env'.out.n0;have cn1:=qAC hn1;have hI1:((dg a).length :Int) - ((m:Int)+2)=(mm:Int):=by omega
    have hI2:((m:Int)+2:Int)=((m+2:Nat):Int):=by omega
    rw[show((m+2:Nat):Int)=(m:Int)+2 by omega]at cn1
    have hQG:¬(w.heap.size=GU):=by
     have h1:=(hO.out.lt GU rfl).1;omega
    have hcI:¬((ul.length:Int)≤((dg a).length :Int)):=by omega
    clear hI2 hn1;have⟨hq1',hmm'⟩:=hyd2 hq1 hmm;clear hmm hq1;go_wp2_with (first | (at_make;go_must (refine qER (f:=gv .u32) _ rfl _ _ 68 rfl M1 92 0 4 qAf rfl (by decide) (mm+1) (by go_num) (by go_num) (by omega) hM1l _ rfl ?_);intro w5 r1 r2 r3;have hq5:=(r2.block w.heap.size (by omega)).trans hq1'.out;have cq5:=qAC hq5;have fq5:=fz0 hq5 0)| (go_at_call 69;((with_reducible refine(qBx _ _ _ _).mono ?_);rintro e w' ⟨rfl,rfl⟩)));have hUl:U0<wr.heap.size:=hU0l;have hubw:=hub.out;have hv1:=(hbel.out.block V0 (by omega)).trans env'.out.v0;have hn1:=(hbel.out.block N0 (by omega)).trans env'.out.n0;have hs1:=(hbel.out.block (N0+1) (by omega)).trans env'.out.s0;have hvn1:NumL (fun k=>k<M1) .u32 wr (.slice Av (m+2) cv) (b*s):=ArrL.stays env'.out.vn ⟨hbel.out.size,fun k hk _=>hbel.out.block k hk⟩;obtain⟨G,hG⟩:∃G,wr.heap.size=G:=⟨_,rfl⟩;have hOw:=hO.out;rw[hG]at r1 r2 r3 hUl hM1l ⊢;have hov5:=qC5 hOw (by rw[hG];exact r2);have hGUl:GU<G:=by have:=(hOw.lt GU rfl).2;omega
    obtain⟨W6,hW6⟩:∃W6,((w5.setCell ⟨w.heap.size,0,none⟩ (.slice (some ⟨G,0,none⟩) (mm+1) (mm+1))).alloc (.cells #[.slice (some ⟨G,0,none⟩) (mm+1) (mm+1)] 68))=W6:=⟨_,rfl⟩;have hsz6:(w5.setCell ⟨w.heap.size,0,none⟩ (.slice (some ⟨G,0,none⟩) (mm+1) (mm+1))).heap.size =w5.heap.size:=by simp[World.setCell]
    have hkeep:∀k,k<w5.heap.size→k≠w.heap.size→W6.heap[k]? =w5.heap[k]? :=fun k hk hne=>by
     rw[←hW6];exact(Below.heap_alloc _ _ _ (by rw[hsz6];exact hk)).trans (Below.heap_setCell _ _ _ _ hne)
    have z0:W6.heap[w.heap.size]? =some (Obj.cells #[.slice (some ⟨G,0,none⟩) (mm+1) (mm+1)] 68):=by
     rw[←hW6];exact(Below.heap_alloc _ _ _ (by rw[hsz6];omega)).trans (qAW hq5)
    have zb:W6.heap[w5.heap.size]? =some (Obj.cells #[.slice (some ⟨G,0,none⟩) (mm+1) (mm+1)] 68):=by
     rw[←hW6,←hsz6];exact heap_alloc_new _ _
    have zs:W6.heap.size=w5.heap.size+1:=by rw[←hW6];simp[World.setCell]
    have zu:W6.heap[U0]? =some (Obj.cells #[.slice (some ⟨GU,0,none⟩) ul.length cu] 68):=(hkeep U0 (by omega) (by omega)).trans ((r2.block U0 hUl).trans hubw);have zv:W6.heap[V0]? =some (Obj.cells #[.slice Av (m+2) cv] 68):=(hkeep V0 (by omega) (by omega)).trans ((r2.block V0 (by omega)).trans hv1);have zn:W6.heap[N0]? =some (Obj.cells #[.int .i64 ((m+2:Nat):Int)] 3):=(hkeep N0 (by omega) (by omega)).trans ((r2.block N0 (by omega)).trans hn1);have zc:W6.heap[N0+1]? =some (Obj.cells #[.int .u32 (s:Int)] 92):=(hkeep (N0+1) (by omega) (by omega)).trans ((r2.block (N0+1) (by omega)).trans hs1)
    have zvn:NumL (fun k=>k<M1) .u32 W6 (.slice Av (m+2) cv) (b*s):=by
     have y1:=ArrL.stays hvn1 (W:=w5) ⟨by omega,fun k _ hk=>r2.block k (by omega)⟩;have y2:=NumL.box_set (L:=fun k=>k<M1) y1 hq5 (u:= .slice (some ⟨G,0,none⟩) (mm+1) (mm+1));rw[←hW6];exact y2.le (qAB _ _)
    have zou:W6.ownsRow M1 92 1 (.slice (some ⟨GU,0,none⟩) ul.length cu) ul.length (ul.map (gv .u32)):=by
     rw[←hW6];exact(qCj hov5 (by omega) _).alloc _
    have zoq:W6.ownsRow M1 92 1 (.slice (some ⟨G,0,none⟩) (mm+1) (mm+1)) (mm+1) ((List.replicate (mm+1) 0).map (gv .u32)):=by
     rw[←hW6];exact(qCj r1 (by omega) _).alloc _
    have zbel:Below w.heap.size w W6:=by
     have y1:Below w.heap.size w w5:=(env'.out.below.trans (hbel.out.mono (by omega))).trans (r2.mono (by omega));rw[←hW6];exact(y1.setCell (p:=⟨w.heap.size,0,none⟩) (Nat.le_refl _) _).alloc (by rw[hsz6];omega) _
    rw[hW6];clear hW6 hsz6 hkeep hov5 hOw r1 r2 hvn1 hv1 hn1 hs1 hubw hq5 cq5 fq5 hu0 hu1 cn1;have hMU:M1≤GU:=(zou.lt GU rfl).1;have hulm:ul.length=mm+1+(m+2):=by have:=hmm'.out;omega
    have hstart:=qLR (b:=b) k1'.out hn hmm'.out hulm hval.out.2 hval.out.1;have hlow0:=hval.out.2;have hMl6:M1≤W6.heap.size:=by omega
    generalize w5.heap.size=KB at*;have hyield:=qIr (mm+1) G (mm+1) W6 KB M1 (by have:=hmm'.out;omega) (by omega) (by omega) (by omega) (fun k hk=>⟨0,qBo (f:=gv .u32) zoq (by simp) (by rw[List.getElem?_replicate,if_pos hk])⟩) (qAC zb);refine(wpIn_wide (n:=5)).1 ?_;refine wpIn_rangeFunc_ownG rfl (by omega) (gf:=122) (lb:=#[.pointer (some ⟨KB,0,none⟩)]) rfl trivial (enters_of Tryz.func122 (by kernel_rfl) rfl)
     hyield KeptR.trans (KeptR.put (by omega) (by simp;omega) (by omega)) (Below.refl _ _) (fun _=>rfl)
     (OvI W6 M1 GU cu G 92 [U0,KB] (a*s) (b*s) (m+2) mm (mm+1) ul.length) (fun _ _ _=>False) (OvI.from _ _ _ _ _ _ _ _ _ _ _ _ _ _ (Nat.le_refl _) hMl6 (by omega) (by omega) (by simp;omega)) (fun _ _ _ _ _ hs _ _=>hs)
     ⟨Kept.refl _ _ _,Nat.le_refl _,ul,List.replicate (mm+1) 0,rfl,hlow0,by simp,zou,zoq,fun _=>hstart⟩ ?_ ?_ ?_ ?_ ?_
    rotate_left
    ·intro l x W K hK;dsimp only[qJQ];gi_wp2;exact hK
    ·rintro l pre x W ⟨q1,q2,ul2,ql,g1,g2,g3,g4,g5,g6⟩ hlen2;have hx:=x.1.2;obtain⟨j,hj⟩:∃j,mm+1 - 1 - x.1.1=j:=⟨_,rfl⟩;have hjm:j≤mm:=by omega
     have c0:=qAC ((q1.1.block w.heap.size hQ0l).trans z0);have cu0:=qAC ((q1.2 U0 (by simp)).trans zu);have cn0:=qAC ((q1.1.block N0 (by omega)).trans zn);have cv0:=qAC ((q1.1.block V0 (by omega)).trans zv);have hvW:NumL (fun k=>k<M1) .u32 W (.slice Av (m+2) cv) (b*s):=ArrL.stays zvn ⟨q2,fun k hk _=>q1.1.block k hk⟩
     obtain⟨hcu3,hcu4⟩:ul.length≤cu∧cu≤maxLen:=by
      obtain⟨_,_,e9,-,-,y3,y4⟩:=qEQ g4 (by omega);injection e9 with _ _ e9;subst e9;exact⟨y3,y4⟩
     have hcut:∀W',(Instr.slice 68 (.slice (some ⟨GU,0,none⟩) ul.length cu) (some (.int .i64 (j:Int))) (some (.int .i64 ((j:Int)+((m:Int)+2)+1))) none).run Tryz.prog W'= .ok (.slice (some ⟨GU,j,none⟩) (m+2+1) (cu - j)) W':=fun W'=>by
      have h:=qLB (P:=Tryz.prog) qAf (some ⟨GU,0,none⟩) ul.length cu j (j+(m+2)+1) (by omega) (by omega) W';rw[show((j+(m+2)+1:Nat):Int)=(j:Int)+((m:Int)+2)+1 by omega,show j+(m+2)+1 - j=m+2+1 by omega]at h;rw[h];unfold cutA;rw[if_neg (by omega)];simp[Addr.add]
      try (intro h9;omega)
     rw[show mm - x.1.1=j by omega];have hjI:(j:Int)≤(mm:Int):=by omega
     have hulI:(ul.length:Int)=(mm:Int)+1+((m:Int)+2):=by omega
     have hj3:j+(m+2)+1≤ul.length:=by omega
     clear hulI;have⟨hvW',zv',zn',zu',z0',zb',g6',hul'⟩:=hyd8 hvW zv zn zu z0 zb g6 hul;have hulm':=hyd1 hulm;clear hulm hul g6 zb z0 zu zn zv hvW;gi_wp2;refine qHw (R:=drewRel) (T:=rowRel GU) rowRel.of_drew 12 10 (by decide) [some 71,some 72,some 73,some 74,some 75,some 76,some 77,some 78,some 79,some 80,some 81,some 82,none] [[],[],[],[],[],[],[4,5],[6],[2,3,7],[],[8,9],[0,1],[10,11]]
      [.eq (.slice (some ⟨G,0,none⟩) (mm+1) (mm+1)),.eq (.int .i64 (j:Nat)),.eq (.slice (some ⟨GU,0,none⟩) ul.length cu),.eq (.int .i64 (j:Nat)),.eq (.int .i64 (j:Nat)),.eq (.int .i64 ((m:Int)+2)),.eq (.int .i64 ((j:Int)+((m:Int)+2))),.eq (.int .i64 ((j:Int)+((m:Int)+2)+1)),
       .eq (.slice (some ⟨GU,j,none⟩) (m+2+1) (cu - j)),.eq (.slice Av (m+2) cv),.const (fun v=>∃q:Nat,v= .int .u32 (q:Int)∧q<4294967296∧(nv ((ul2.drop j).take (m+2+1))<b*s*B9→q=nv ((ul2.drop j).take (m+2+1)) / (b*s))),.eq (.pointer (some ⟨G,j,none⟩))]
      [] (.took (m+2) (nv ((ul2.drop j).take (m+2+1))%(b*s)) M1 GU ul.length cu 92 ul2 (nv ((ul2.drop j).take (m+2+1))<b*s*B9) j) (fun _ _=>False) (by kernel_rfl) (by kernel_rfl) (by kernel_rfl) (by kernel_rfl) (by kernel_rfl) ?_ (fun _ _ _ _ h=>h.elim) ?_
     ·simp only[List.take_succ_cons,List.take_zero];refine qA6 (by decide) ⟨rfl,fun x5 W5 hR hf Q hK _=>?_⟩ (qA6 (by decide) ⟨rfl,fun x5 W5 hR hf Q hK _=>?_⟩ (qA6 (by decide) ⟨rfl,fun x5 W5 hR hf Q hK _=>?_⟩ (qA6 (by decide) ⟨rfl,fun x5 W5 hR hf Q hK _=>?_⟩ (qA6 (by decide) ⟨rfl,fun x5 W5 hR hf Q hK _=>?_⟩ (qA6 (by decide) ⟨rfl,fun x5 W5 hR hf Q hK _=>?_⟩ (qA6 (by decide) ⟨rfl,fun x5 W5 hR hf Q hK _=>?_⟩ (qA6 (by decide) ⟨rfl,fun x5 W5 hR hf Q hK _=>?_⟩ (qA6 (by decide) ⟨rfl,fun x5 W5 hR hf Q hK _=>?_⟩ (qA6 (by decide) ⟨rfl,fun x5 W5 hR hf Q hK _=>?_⟩ (qHJ (by decide) ⟨rfl,fun x5 W5 hR hf hg Q hK _=>?_⟩ (qA6 (by decide) ⟨rfl,fun x5 W5 hR hf Q hK _=>?_⟩ qFd)))))))))))
      ·have cc:=(World.cell?_of_block (hR.block w.heap.size (by omega) (fun e=>by injection e;omega))).trans c0;simp only[fA]at hK ⊢;go_wp2;exact hK _ _ (drewRel.refl _) rfl trivial
      ·simp only[fA]at hK ⊢;go_wp2;exact hK _ _ (drewRel.refl _) rfl trivial
      ·have cc:=(World.cell?_of_block (hR.block U0 (by omega) (fun e=>by injection e;omega))).trans cu0;simp only[fA]at hK ⊢;go_wp2;exact hK _ _ (drewRel.refl _) rfl trivial
      ·simp only[fA]at hK ⊢;go_wp2;exact hK _ _ (drewRel.refl _) rfl trivial
      ·simp only[fA]at hK ⊢;go_wp2;exact hK _ _ (drewRel.refl _) rfl trivial
      ·have cc:=(World.cell?_of_block (hR.block N0 (by omega) (fun e=>by injection e;omega))).trans cn0;simp only[fA]at hK ⊢;go_wp2;exact hK _ _ (drewRel.refl _) rfl trivial
      ·obtain⟨e0,e1,-⟩:=hf;change _=_ at e0 e1;simp only[fA,e0,e1]at hK ⊢;go_wp2;exact hK _ _ (drewRel.refl _) (by go_num) trivial
      ·obtain⟨e0,-⟩:=hf;change _=_ at e0;simp only[fA,e0]at hK ⊢;go_wp2;exact hK _ _ (drewRel.refl _) (by go_num) trivial
      ·obtain⟨e0,e1,e2,-⟩:=hf;change _=_ at e0 e1 e2;simp only[fA,e0,e1,e2]at hK ⊢;go_wp2;exact hK _ _ (drewRel.refl _) rfl trivial
      ·have cc:=(World.cell?_of_block (hR.block V0 (by omega) (fun e=>by injection e;omega))).trans cv0;simp only[fA]at hK ⊢;go_wp2;exact hK _ _ (drewRel.refl _) rfl trivial
      ·obtain⟨e0,e1,-⟩:=hf;change _=_ at e0 e1;obtain⟨n9,rfl⟩:=hR;simp only[fA,e0,e1]at hK ⊢;go_wp2_with (fail);go_at_call 121;refine(qLQ (fun k=>k<M1) (b*s) (m+2) m ul.length j GU cu (cu - j) M1 ul2 _ (W.drewN n9) hvW'.out (by show¬GU<M1;omega) hVl rfl (by have:=hVt'.out;simpa using this) g4 g1 g2 (by omega) (by have:=hulm'.out;omega) ⟨by omega,by omega⟩).mono ?_;rintro e w' ⟨q,us',rfl,l1,l2,l3,l4,l5,l6⟩;go_wp2;exact hK _ _ l5 ⟨q,rfl,l3,fun h=>(l4 h).1⟩ ⟨us',l1,l2,fun h=>(l4 h).2,l6⟩
      ·obtain⟨e0,e1,-⟩:=hf;change _=_ at e0 e1;simp only[fA,e0,e1]at hK ⊢;go_wp2;exact hK _ _ (drewRel.refl _) rfl trivial
     ·intro x5 W5 hT hf hO Q' hQ1 _;obtain⟨us',l1,l2,l3,l6⟩:=hO;obtain⟨q,e10,hqb,hqe⟩:=hf 10 (by decide);have e0:=hf 0 (by decide);have e1:=hf 1 (by decide);have e2:=hf 2 (by decide);have e3:=hf 3 (by decide);have e4:=hf 4 (by decide);have e5:=hf 5 (by decide);have e6:=hf 6 (by decide);have e7:=hf 7 (by decide);have e8:=hf 8 (by decide);have e9:=hf 9 (by decide);have e11:=hf 11 (by decide);change _=_ at e0 e1 e2 e3 e4 e5 e6 e7 e8 e9 e11;have hqW:=qEU g5 hT (fun r e=>by injection e;omega);obtain⟨y9,hy9⟩:∃y9,ql[j]? =some y9:=⟨_,List.getElem?_eq_getElem (by omega)⟩;have hck9:=qBo (f:=gv .u32) hqW g3 hy9;unfold gv at hck9;have hfr9:=hqW.frozenAt j;have hKF:KeepsFrom W6.heap.size W W5:=KeepsFrom.of_grownBy hT (fun k e=>by injection e;omega);have hfin:=fun aa=>OvI.step (Ix:=fun _ _ _=>False) q1 q2 g1 g2 g3 g5 g6'.out rfl hulm'.out j q hj us' l1 l2 (Nat.le_of_lt (by have:=qAa (b*s);rw[hVl]at this;exact this)) (Nat.mul_pos (Nat.pos_of_ne_zero (dg_length_pos.1 (by omega))) k1'.out) (fun h=>⟨hqe h,l3 h⟩) W5 hT l6 hMU hM1l (by omega) (by simp;omega) [KB] (by simp) (by omega) (by simp;omega) W6.heap.size aa hKF;simp only[List.drop_succ_cons,List.drop_zero];rw[show List.range 12=[0,1,2,3,4,5,6,7,8,9,10,11]from rfl];simp only[fA,e0,e1,e2,e3,e4,e5,e6,e7,e8,e9,e11,e10];clear e0 e1 e2 e3 e4 e5 e6 e7 e8 e9 e11 e10 hf hqe l3 l6 hqW hKF;have⟨hfin',hT'⟩:=hyd2 hfin hT;clear hT hfin
      go_wp2;refine hQ1 _ _ ?_;gi_wp2;exact hfin'.out _
    ·rintro D ys W hD hys ⟨q1,q2,ul2,ql,g1,g2,g3,g4,g5,g6⟩ hDK;have hlen9:ys.length=mm+1:=by have:=congrArg List.length hys;simpa using this
     have h9:=g6 (by rw[hys];exact qBg _);rw[hlen9,Nat.sub_self]at h9;have h9low:=h9.qlow;obtain⟨d1,d2⟩:=h9.done k1'.out (Nat.pos_of_ne_zero (dg_length_pos.1 (by omega))) (Nat.le_of_lt (by have:=qAa (b*s);rw[hVl]at this;exact this));have c0:=qAC ((q1.1.block w.heap.size hQ0l).trans z0);have z0W:=(q1.1.block w.heap.size hQ0l).trans z0;have cu0:=qAC ((q1.2 U0 (by simp)).trans zu);have cn0:=qAC ((q1.1.block N0 (by omega)).trans zn);have cs0:=qAC ((q1.1.block (N0+1) (by omega)).trans zc)
     obtain⟨hcu3,hcu4⟩:ul.length≤cu∧cu≤maxLen:=by
      obtain⟨_,_,e9,-,-,y3,y4⟩:=qEQ g4 (by omega);injection e9 with _ _ e9;subst e9;exact⟨y3,y4⟩
     have hbelW:Below w.heap.size w W:=zbel.trans (q1.1.mono (by omega));have hUpW:Up W L:=hL'.out.later hbelW.size
     have hau:ArrL L (gv .u32) W (.slice (some ⟨GU,0,none⟩) (m+2) cu) (ul2.take (m+2)):=by
      have y1:ArrL L (gv .u32) W (.slice (some ⟨GU,0,none⟩) ul2.length cu) ul2:=by
       have y0:=ArrL.of_own (L:=L) g4 (fun b hb=>hL'.out b (by omega));rw[←g1]at y0;exact y0
      exact y1.take (m+2) (by omega)
     have haq:ArrL L (gv .u32) W (.slice (some ⟨G,0,none⟩) (mm+1) (mm+1)) ql:=ArrL.of_own (L:=L) g5 (fun b hb=>hL'.out b (by omega));have hltk:(ul2.take (m+2)).length =m+2:=by simp;omega
     have hlowt:Low (ul2.take (m+2)):=g2.take _
     have hnt:NumL L .u32 W (.slice (some ⟨GU,0,none⟩) (qA5 (ul2.take (m+2))).length cu) (a%b*s):=by
      have y1:ArrL L (gv .u32) W (.slice (some ⟨GU,0,none⟩) (ul2.take (m+2)).length cu) (ul2.take (m+2)):=by rw[hltk];exact hau
      exact qBd y1.trim hlowt d2
     have hlt9:(dg (a%b*s)).length ≤m+2:=by
      rw[←d2,←qJC hlowt];have:=qJP (ul2.take (m+2));omega
     have hqs:∀y,y*s / s=y:=fun y=>Nat.mul_div_cancel y k1'.out
     have hcut:∀W',(Instr.slice 68 (.slice (some ⟨GU,0,none⟩) ul.length cu) none (some (.int .i64 ((m:Int)+2))) none).run Tryz.prog W'= .ok (.slice (some ⟨GU,0,none⟩) (m+2) cu) W':=fun W'=>by
      have h:=qMA (P:=Tryz.prog) qAf (some ⟨GU,0,none⟩) ul.length cu (m+2) (by omega) W';rw[show((m+2:Nat):Int)=(m:Int)+2 by omega]at h;exact h
     obtain⟨TL,hTL⟩:∃TL,(qA5 (ul2.take (m+2))).length =TL:=⟨_,rfl⟩
     have htr3:∀W5,Le W W5→Calls Tryz.prog 111 #[.slice (some ⟨GU,0,none⟩) (m+2) cu] W5 fun e w'=>e= .returned (.slice (some ⟨GU,0,none⟩) TL cu)∧W5=w':=fun W5 h=>by
      rw[←hTL];exact qDk L _ _ _ _ _ (hau.le h)
     rw[hTL]at hnt;have cn1:W.cell? ⟨N0,0,none⟩=some (.int .i64 ((m:Int)+2)):=by rw[cn0,show((m+2:Nat):Int)=(m:Int)+2 by omega]
     clear cn0 hyield g6 h9;have⟨hnt',htr3',haq',hau',hlowt',h9low',d1',d2'⟩:=hyd8 hnt htr3 haq hau hlowt h9low d1 d2;have⟨g2',g4',g5',g1',g3',hul',hulm',hys'⟩:=hyd8 g2 g4 g5 g1 g3 hul hulm hys;have⟨hlen9',hltk',hbelW',hUpW',hDK',q1',q2',zvn'⟩:=hyd8 hlen9 hltk hbelW hUpW hDK q1 q2 zvn;have⟨zou',zoq',zbel',hstart',hval',hqs',hTL',z0W'⟩:=hyd8 zou zoq zbel hstart hval hqs hTL z0W;have⟨zu',zv',zn',zc',z0',zb',hub'⟩:=hyd7 zu zv zn zc z0 zb hub;clear hub zb z0 zc zn zv zu z0W hTL hqs hval hstart zbel zoq zou zvn q2 q1 hDK hUpW hbelW hltk hlen9 hys hulm hul g3 g1 g5 g4 g2 d2 d1 h9low hlowt hau haq htr3 hnt;go_wp2;refine qAP (R:=leRel) 12 [some 84,some 85,some 86,some 87,some 88,some 89,some 90,some 91,some 83,some 92,some 93,some 5] [[],[],[0,1],[2],[],[4],[5],[3,6],[7],[8],[8],[9]]
      [.eq (.slice (some ⟨GU,0,none⟩) ul.length cu),.eq (.int .i64 ((m:Int)+2)),.eq (.slice (some ⟨GU,0,none⟩) (m+2) cu),.eq (.slice (some ⟨GU,0,none⟩) TL cu),.eq (.slice (some ⟨N0+1,0,none⟩) 1 1),.eq (.pointer (some ⟨N0+1,0,none⟩)),.eq (.int .u32 (s:Nat)),MPred.tup L (a%b),MPred.tup L (a%b),MPred.num L .u32 (a%b),.any,MPred.num L .u32 (a%b)] (fun _ _=>False) (by kernel_rfl) (by kernel_rfl) (by kernel_rfl) (by kernel_rfl) ?_ (fun _ _ _ _ _ h=>h.elim) ?_
     ·simp only[List.take_succ_cons,List.take_zero];refine mSc ?_ (mSc ?_ (mSc ?_ (mSc ?_ (mSc ?_ (mSc ?_ (mSc ?_ (mSc ?_ (mSc ?_ (mSc ?_ (mSc ?_ (mSc ?_ (qAS))))))))))))
      ·refine mSl rfl fun x5 W5 hR hf Q hK _=>?_;have cc:=(Below.cell hR (p:=⟨U0,0,none⟩) (by show U0<W.heap.size;have:=q2'.out;omega)).trans cu0;simp only[fA]at hK ⊢;go_wp2;exact hK _ _ lrR rfl
      ·refine mSl rfl fun x5 W5 hR hf Q hK _=>?_;have cc:=(Below.cell hR (p:=⟨N0,0,none⟩) (by show N0<W.heap.size;have:=q2'.out;omega)).trans cn1;simp only[fA]at hK ⊢;go_wp2;exact hK _ _ lrR rfl
      ·refine mSl rfl fun x5 W5 hR hf Q hK _=>?_;obtain⟨e0,e1,-⟩:=hf;change _=_ at e0 e1;simp only[fA,e0,e1]at hK ⊢;go_wp2;exact hK _ _ lrR rfl
      ·refine mSl rfl fun x5 W5 hR hf Q hK _=>?_;obtain⟨e0,-⟩:=hf;change _=_ at e0;simp only[fA,e0]at hK ⊢;go_wp2_with (fail);go_at_call 111;refine(htr3'.out _ hR).mono ?_;rintro e w' ⟨rfl,rfl⟩;go_wp2;exact hK _ _ lrR rfl
      ·refine mSl rfl fun x5 W5 hR hf Q hK _=>?_;simp only[fA]at hK ⊢;go_wp2;exact hK _ _ lrR rfl
      ·refine mSl rfl fun x5 W5 hR hf Q hK _=>?_;obtain⟨e0,-⟩:=hf;change _=_ at e0;simp only[fA,e0]at hK ⊢;go_wp2;exact hK _ _ lrR rfl
      ·refine mSl rfl fun x5 W5 hR hf Q hK _=>?_;obtain⟨e0,-⟩:=hf;change _=_ at e0;have cc:=(Below.cell hR (p:=⟨N0+1,0,none⟩) (by show N0+1<W.heap.size;have:=q2'.out;omega)).trans cs0;simp only[fA,e0]at hK ⊢;go_wp2;exact hK _ _ lrR rfl
      ·refine mSl rfl fun x5 W5 hR hf Q hK _=>?_;obtain⟨e0,e1,-⟩:=hf;change _=_ at e0 e1;simp only[fA,e0,e1]at hK ⊢;go_wp2_with (fail);go_at_call 120;refine(qHP L (a%b*s) s _ W5 (hUpW'.out.le hR) (hnt'.out.le hR) k1'.out (by omega) (by omega)).mono ?_;rintro e w' ⟨v',rfl,y1,y2⟩;rw[hqs'.out]at y2;obtain⟨A9,c9,rfl⟩:=y2.slice;go_wp2;exact hK _ _ y1 ⟨A9,c9,_,rfl,y2⟩
      ·refine mSl rfl fun x5 W5 hR hf Q hK _=>?_;obtain⟨⟨A9,c9,r9,e0,y2⟩,-⟩:=hf;simp only[fA,e0]at hK ⊢;go_wp2;exact hK _ _ lrR ⟨A9,c9,r9,rfl,y2⟩
      ·refine mSl rfl fun x5 W5 hR hf Q hK _=>?_;obtain⟨⟨A9,c9,r9,e0,y2⟩,-⟩:=hf;simp only[fA,e0]at hK ⊢;go_wp2;exact hK _ _ lrR y2
      ·refine mSl rfl fun x5 W5 hR hf Q hK _=>?_;obtain⟨⟨A9,c9,r9,e0,y2⟩,-⟩:=hf;simp only[fA,e0]at hK ⊢;go_wp2;exact hK _ _ lrR trivial
      ·refine mSl rfl fun x5 W5 hR hf Q hK _=>?_;obtain⟨e0,-⟩:=hf;replace e0:NumL L .u32 W5 (x5 9) (a%b):=e0;obtain⟨A9,c9,e1⟩:=e0.slice;rw[e1]at e0;simp only[fA,e1]at hK ⊢;go_wp2;exact hK _ _ lrR e0
     ·intro x5 W7 hR hf Q' hQ1 _;have e0:=hf 0 (by decide);have e1:=hf 1 (by decide);have e2:=hf 2 (by decide);have e3:=hf 3 (by decide);have e4:=hf 4 (by decide);have e5:=hf 5 (by decide);have e6:=hf 6 (by decide);change _=_ at e0 e1 e2 e3 e4 e5 e6;have e11:NumL L .u32 W7 (x5 11) (a%b):=hf 11 (by decide);obtain⟨A11,c11,e12⟩:=e11.slice;rw[e12]at e11;have z07:=(Below.block hR w.heap.size (by have:=q2'.out;omega)).trans z0W'.out;have c07:=qAC z07;have f07:=fz0 z07 0;have haq7:ArrL L (gv .u32) W7 (.slice (some ⟨G,0,none⟩) (mm+1) (mm+1)) ql:=haq'.out.le hR;have hDK7:=(Below.block hR D (gsl hDK'.out)).trans hDK'.out;have g57:=qC5 g5'.out hR;have hbel7:=Le.trans hbelW'.out hR;simp only[List.drop_succ_cons,List.drop_zero];rw[show List.range 12=[0,1,2,3,4,5,6,7,8,9,10,11]from rfl];simp only[fA,e0,e1,e2,e3,e4,e5,e6,e12];generalize x5 7=x7;generalize x5 8=x8;generalize x5 9=x9;generalize x5 10=x10;clear e0 e1 e2 e3 e4 e5 e6 hf c0 cu0 cs0 cn1;have⟨e11',e12',haq7',hDK7',g57',hbel7',hR',z07'⟩:=hyd8 e11 e12 haq7 hDK7 g57 hbel7 hR z07;clear z07 hR hbel7 g57 hDK7 haq7 e12 e11;refine wpList_nil (hQ1 _ _ ?_);go_wp2_with (fail);go_at_call 111;refine(qDk L ql (some ⟨G,0,none⟩) (mm+1) (mm+1) W7 haq7'.out).mono ?_;rintro e w' ⟨rfl,rfl⟩;go_wp2;refine qBJ w.heap.size [{target:= .collected D,args:=#[]}] _ ⟨⟨D,rfl,by omega,?_,by simp⟩,trivial⟩ fun w9 hb hkeep=>?_
      ·exact(Below.heap_setCell _ _ _ _ (show D≠w.heap.size by omega)).trans hDK7'.out
      ·have c9:=qAC (hkeep _ _ (qAW z07'.out (u:= .slice (some ⟨G,0,none⟩) (qA5 ql).length (mm+1))) rfl);have hLe9:Le w w9:=(Below.setCell hbel7'.out (p:=⟨w.heap.size,0,none⟩) (Nat.le_refl _) _).trans hb
       have hq9:NumL L .u32 w9 (.slice (some ⟨G,0,none⟩) (qA5 ql).length (mm+1)) (a / b):=by
        have y1:=qIZ (qCj (k:=0) g57'.out (show G≠w.heap.size by omega) (.slice (some ⟨G,0,none⟩) (qA5 ql).length (mm+1))) hkeep
        have y2:ArrL L (gv .u32) w9 (.slice (some ⟨G,0,none⟩) ql.length (mm+1)) ql:=by
         rw[g3'.out];exact ArrL.of_own y1 (fun b hb=>hL'.out b (by omega))
        exact qBd y2.trim h9low'.out d1'.out
       have hr9:NumL L .u32 w9 (.slice A11 (dg (a%b)).length c11) (a%b):=NumL.keep (NumL.box_set e11'.out z07'.out) hb.size hkeep;exact⟨_,by simp[results,Tryz.results65,go_sem,c9],_,_,rfl,hLe9,hq9,hr9⟩
    ·rintro D cc pre W _ _ h _;exact h.elim
theorem qBl (L:Nat→Prop) (a b:Nat) (va vb:Value) (w:World) (hL:Up w L) (ha:NumL L .u32 w va a) (hb:NumL L .u32 w vb b) (hma:(dg a).length ≤10000000) (hmb:(dg b).length ≤10000000) (hb0:b≠0):
  Calls Tryz.prog 65 #[va,vb] w fun e w'=>∃v1 v2,e= .returned (.tuple #[v1,v2])∧Le w w'∧NumL L .u32 w' v1 (a / b)∧NumL L .u32 w' v2 (a%b):=by
 by_cases h1:a<b
 ·exact qJR L a b va vb w hL ha hb (by omega) (by omega) h1
 ·have h2:=dg_length_pos.2 hb0
  by_cases h3:(dg b).length =1
  ·exact qKM L a b va vb w hL ha hb (by omega) h3 (by omega)
  ·exact qJS L a b va vb w hL ha hb hma (by omega) (by omega)
end Go.Proofs.YtenjpccpldajoaaGreatDoor
namespace Go.Proofs.YtenjpccpldajoaaGreatDoor
set_option maxRecDepth 100000
set_option maxHeartbeats 4000000
open Go.RowKit Go.Shelf
set_option linter.unusedVariables false
set_option linter.unusedSimpArgs false
theorem NumL.unique {L L':Nat→Prop} {k:IntKind} {w:World} {v:Value} {m n:Nat} (h:NumL L k w v m) (h':NumL L' k w v n):m=n:=by
 obtain⟨A,c,rfl,h1,h2,hN,h3⟩:=h;obtain⟨A',c',hv,h1',h2',hN',h3'⟩:=h';injection hv with e1 e2 e3;subst e1 e3;refine dg_inj.1 (List.ext_getElem e2 fun i hi hi'=>?_);obtain⟨b,off,ha,-,-,hc⟩:=h3 (by omega);obtain⟨b',off',ha',-,-,hc'⟩:=h3' (by omega);rw[ha]at ha';injection ha' with ha';injection ha' with q1 q2;subst q1 q2;have h5:=(hc i hi).symm.trans (hc' i hi');injection h5 with h5;unfold gv at h5;injection h5 with _ h5;omega
open Classical in
noncomputable def qLS (w:World) (v:Value):Nat:=if h:∃n,NumL (fun _=>True) .u32 w v n then h.choose else 0
theorem qJT {L:Nat→Prop} {w:World} {v:Value} {n:Nat} (h:NumL L .u32 w v n):qLS w v=n:=by
 have h1:∃n,NumL (fun _=>True) .u32 w v n:=⟨n,ArrL.mono h fun _ _=>trivial⟩;unfold qLS;rw[dif_pos h1];exact h1.choose_spec.unique h
theorem qDv (L:Nat→Prop) (a b:Nat) (va vb:Value) (w:World) (hL:Up w L) (ha:NumL L .u32 w va a) (hb:NumL L .u32 w vb b) (hma:(dg a).length ≤10000000) (hmb:(dg b).length ≤10000000):
  Calls Tryz.prog 104 #[va,vb] w fun e w'=>∃v',e= .returned v'∧Le w w'∧NumL L .u32 w' v' (Nat.gcd a b):=by
 have⟨hL',ha',hb'⟩:=hyd3 hL ha hb;clear hb ha hL;go_enter Tryz.func104,Tryz.ntmps104;go_wp2;go_loopw [0,1] (fun s0 s1 wr=>∃x y:Nat,Hid (NumL L .u32 wr s0 x)∧Hid (NumL L .u32 wr s1 y)∧Hid (Nat.gcd x y=Nat.gcd a b)∧(dg x).length ≤10000000∧(dg y).length ≤10000000∧Hid (Le w wr)) (fun _ s1 wr=>qLS wr s1)
 case atStart=>exact⟨a,b,ha',hb',Lib.hid rfl,hma,hmb,Lib.hid (Le.refl _)⟩
 case round=>
  obtain⟨x,y,hx,hy,hg,lx,ly,hle⟩:=hrel;obtain⟨Ax,cx,rfl⟩:=hx.out.slice;obtain⟨Ay,cy,rfl⟩:=hy.out.slice
  by_cases h0:y=0
  ·have hl0:(dg y).length =0:=by rw[h0,qA4];rfl
   have hres:NumL L .u32 wr (.slice Ax (dg x).length cx) (Nat.gcd a b):=by rw[←hg.out,h0,Nat.gcd_zero_right];exact hx.out
   have hli:¬(0<((dg y).length :Int)):=by omega
   have⟨h0',hres',hl0'⟩:=hyd3 h0 hres hl0;clear hl0 hres h0;go_wp2;go_ret;exact⟨_,rfl,hle.out,hres'.out⟩
  ·have hl0:0<(dg y).length :=dg_length_pos.2 h0;have hli:0<((dg y).length :Int):=by omega
   go_wp2_with (fail);go_at_call 65;refine(qBl L x y _ _ wr (hL'.out.le hle.out) hx.out hy.out lx ly h0).mono ?_;rintro e w' ⟨v1,v2,rfl,hle2,-,hr⟩;obtain⟨A2,c2,rfl⟩:=hr.slice;have hlt:x%y<y:=Nat.mod_lt _ (Nat.pos_of_ne_zero h0);have hm1:=qJT hy.out;have hm2:=qJT hr;have hy2:=hy.out.le hle2;have hg2:Nat.gcd y (x%y)=Nat.gcd a b:=by rw[qNV];exact hg.out
   have hlr:(dg (x%y)).length ≤10000000:=Nat.le_trans (qAJ (Nat.le_of_lt hlt)) ly;have hle3:=hle.out.trans hle2;have⟨hle2',hr',hlt',hm1',hm2',hy2',hg2',hle3'⟩:=hyd8 hle2 hr hlt hm1 hm2 hy2 hg2 hle3;clear hle3 hg2 hy2 hm2 hm1 hlt hr hle2;go_wp2;go_roundw
   case rel=>exact⟨y,x%y,hy2',hr',hg2',ly,hlr,hle3'⟩
   case measure=>rw[hm2'.out,hm1'.out];exact hlt'.out
end Go.Proofs.YtenjpccpldajoaaGreatDoor

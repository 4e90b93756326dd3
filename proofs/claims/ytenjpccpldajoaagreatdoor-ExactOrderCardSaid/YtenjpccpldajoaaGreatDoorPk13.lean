/- reference 1: fractions: lowest, Sign, Minus. reference 1: fractions: Plus. reference 1: fractions: Times, By. reference 1: fractions: absolute, Int, Over, .. -/
import Derived.Test.YtenjpccpldajoaaGreatDoorPk12
namespace Go.Proofs.YtenjpccpldajoaaGreatDoor
set_option maxRecDepth 100000
open Go.RowKit Go.Shelf
set_option linter.unusedVariables false
set_option linter.unusedSimpArgs false
theorem qDy:(1:Nat)<B9:=by have:=qAO;omega
theorem qCu {N:Nat} (hN:N≤18446744073709551615):(dg N).length ≤3:=qAb (by
 have h1:B9^3=1000000000000000000000000000:=by rw[qAO]
 omega)
theorem qN4 (a b:Int) (hb:b≠0):mkR (decide (a<0) != decide (b<0)) a.natAbs b.natAbs=(a:Rat) / (b:Rat):=by
 have h:=qGE (a:=(a:Rat)) (b:=(b:Rat)) (fun h=>hb (by exact_mod_cast h));rw[←h];show mkR _ _ _=mkR (decide (a<0) != decide (b<0)) (a.natAbs*1) (1*b.natAbs);rw[Nat.mul_one,Nat.one_mul]
set_option maxHeartbeats 2000000
def Unf (w:World) (v:Value):Prop:=∀b off m c,v= .slice (some ⟨b,off,none⟩) m c→∃cs t,w.heap[b]? =some (Obj.cells cs t)
theorem Unf.le {w W:World} {v:Value} (h:Unf w v) (hb:Le w W):Unf W v:=fun b off m c e=>by
 obtain⟨cs,t,h1⟩:=h b off m c e;exact⟨cs,t,(hb.block b (gsl h1)).trans h1⟩
theorem Unf.setCell {w:World} {v:Value} (h:Unf w v) (a:Addr) (u:Value):Unf (w.setCell a u) v:=fun b off m c e=>by
 obtain⟨cs,t,h1⟩:=h b off m c e
 by_cases hb:a.block=b
 ·obtain⟨ab,ao,sp⟩:=a;change ab=b at hb;subst hb
  cases sp with
  | none=>
   refine⟨cs.setIfInBounds ao u,t,?_⟩;simp only[World.setCell,Array.getElem?_modify,h1];simp
  | some s=>
   refine⟨cs,t,?_⟩;simp only[World.setCell,Array.getElem?_modify,h1];simp
 ·exact⟨cs,t,(Below.heap_setCell _ _ _ _ (fun h=>hb h.symm)).trans h1⟩
theorem Unf.nil (w:World):Unf w (.slice none 0 0):=nofun
theorem Unf.own {w:World} {base:Nat} {e:TypeId} {v:Value} {n:Nat} {xs:List Value} (h:w.ownsRow base e 1 v n xs):Unf w v:=fun b off m c hv=>by
 rcases h.2 with⟨rfl,_⟩| ⟨g,cap,cur,rfl,hbg,hg,_⟩
 ·cases hv
 ·injection hv with h1;injection h1 with h1;injection h1 with h1;subst h1;exact⟨cur,e,hg⟩
def NumU (L:Nat→Prop) (w:World) (v:Value) (n:Nat):Prop:=NumL L .u32 w v n∧Unf w v
theorem NumU.le {L:Nat→Prop} {w W:World} {v:Value} {n:Nat} (h:NumU L w v n) (hb:Le w W):NumU L W v n:=⟨h.1.le hb,h.2.le hb⟩
theorem NumU.slice {L:Nat→Prop} {w:World} {v:Value} {n:Nat} (h:NumU L w v n):∃A c,v= .slice A (dg n).length c:=h.1.slice
def MPred.numU (L:Nat→Prop) (n:Nat):MPred:=⟨fun v w=>NumU L w v n,fun _ _ _ hb h=>h.le hb⟩
theorem qE9 (L L2:Nat→Prop) (n:Nat) (v:Value) (w:World) (hL:Up w L) (hv:NumL L2 .u32 w v n) (hlen:(dg n).length ≤1000000):
  Calls Tryz.prog 112 #[v] w fun e w'=>∃v',e= .returned v'∧Le w w'∧NumU L w' v' n:=by
 have hv0:Arr (gv .u32) w v (dg n):=ArrL.arr hv
 by_cases hs:∃a n c,v= .slice (some a) n c
 ·obtain⟨a,m,c,rfl⟩:=hs;have hnil:=fun W=>Lib.run_eql_slice_nil (P:=Tryz.prog) W 68 92 (some a) m c 0 0 Tryz.underlying68;have hown:=qLz w 92 w.heap.size (Nat.le_refl _);have hsrc:=hv0.below ((Below.refl w.heap.size w).alloc (Nat.le_refl _) (.cells #[] 92));have⟨hown',hsrc',hv',hv0',hL'⟩:=hyd5 hown hsrc hv hv0 hL;clear hL hv0 hv hsrc hown;go_enter Tryz.func112,Tryz.ntmps112;go_wp2_with (at_builtin;go_must (refine qAm rfl (.tmp 5) (.tmp 6) 68 rfl w.heap.size 92 .u32 4 qAf (by decide) _ [] rfl hown'.out _ (dg n) rfl hsrc'.out (by simp;omega) (by simp) ?_);intro v' w' r1 r2 r3 r4);have⟨r1',r2',r3',r4'⟩:=hyd4 r1 r2 r3 r4;clear r4 r3 r2 r1;go_wp2;go_ret;have hl:Le w w':=Below.trans (qAB _ _) r2'.out;exact⟨_,rfl,hl,ArrL.of_own (by simpa using r1'.out) hL'.out,Unf.own r1'.out⟩
 ·obtain⟨rfl,e0⟩:=hv0.nil_of fun a n c hh=>hs ⟨a,n,c,hh⟩;have hnil:=fun W=>Lib.run_eql_slice_nil (P:=Tryz.prog) W 68 92 none 0 0 0 0 Tryz.underlying68;have⟨hv',hv0',hL',e0'⟩:=hyd4 hv hv0 hL e0;clear e0 hL hv0 hv;go_enter Tryz.func112,Tryz.ntmps112;go_wp2;go_ret;exact⟨_,rfl,Le.refl _,by unfold NumL;rw[e0'.out];exact ArrL.nil _ _ _,Unf.nil _⟩
def MPred.whole (L:Nat→Prop) (s:Bool) (n:Nat):MPred:=⟨fun v w=>∃A c,v= .agg #[.bool s,.slice A (dg n).length c]∧NumU L w (.slice A (dg n).length c) n,fun _ _ _ hb ⟨A,c,e,h⟩=>⟨A,c,e,h.le hb⟩⟩
def FracL (L:Nat→Prop) (w:World) (v:Value) (r:Rat):Prop:=∃A c B d,v= .agg #[.bool (rneg r),.slice A (dg (rnum r)).length c,.bool false,.slice B (dg r.den).length d]∧NumU L w (.slice A (dg (rnum r)).length c) (rnum r)∧NumU L w (.slice B (dg r.den).length d) r.den
def MPred.frac (L:Nat→Prop) (r:Rat):MPred:=⟨fun v w=>FracL L w v r,fun _ _ _ hb ⟨A,c,B,d,e,h1,h2⟩=>⟨A,c,B,d,e,h1.le hb,h2.le hb⟩⟩
theorem NumL.box4 {L:Nat→Prop} {k:IntKind} {W:World} {v u0 u1 u2 u3:Value} {b0 b1:Bool} {A1 A2:Option Addr} {n1 c1 n2 c2 n B:Nat} {t:TypeId} (h:NumL L k W v n) (hk:W.heap[B]? =some (Obj.cells #[.bool b0,.slice A1 n1 c1,.bool b1,.slice A2 n2 c2] t)):
  NumL L k ((((W.setCell ⟨B,0,none⟩ u0).setCell ⟨B,1,none⟩ u1).setCell ⟨B,2,none⟩ u2).setCell ⟨B,3,none⟩ u3) v n:=by
 obtain⟨A,c,hv,h1,h2,hN,h3⟩:=h;refine⟨A,c,hv,h1,h2,hN,fun h0=>?_⟩;obtain⟨b,off,ha,hb,hlt,hc⟩:=h3 h0
 have hne:b≠B:=by
  rintro rfl;have h4:=hc 0 h0;rw[cell_of_row W b (off+0) _ t (0,0) hk]at h4;unfold gv at h4;rw[Nat.add_zero]at h4
  match off,h4 with
  | 0,h4=>simp at h4
  | 1,h4=>simp at h4
  | 2,h4=>simp at h4
  | 3,h4=>simp at h4
  | off+4,h4=>simp at h4
 refine⟨b,off,ha,hb,by simpa[World.setCell]using hlt,fun j hj=>(World.cell?_of_block ?_).trans (hc j hj)⟩;exact(Below.heap_setCell _ _ _ _ hne).trans ((Below.heap_setCell _ _ _ _ hne).trans ((Below.heap_setCell _ _ _ _ hne).trans (Below.heap_setCell _ _ _ _ hne)))
theorem qAd {W:World} {X:Nat} {v0 v1 v2 v3 u0 u1 u2 u3:Value} {t:TypeId} (h:W.heap[X]? =some (Obj.cells #[v0,v1,v2,v3] t)):((((W.setCell ⟨X,0,none⟩ u0).setCell ⟨X,1,none⟩ u1).setCell ⟨X,2,none⟩ u2).setCell ⟨X,3,none⟩ u3).heap[X]? =some (.cells #[u0,u1,u2,u3] t):=by
 simp only[World.setCell,Array.getElem?_modify,h];simp
theorem NumU.box4 {L:Nat→Prop} {W:World} {v u0 u1 u2 u3:Value} {b0 b1:Bool} {A1 A2:Option Addr} {n1 c1 n2 c2 n B:Nat} {t:TypeId} (h:NumU L W v n) (hk:W.heap[B]? =some (Obj.cells #[.bool b0,.slice A1 n1 c1,.bool b1,.slice A2 n2 c2] t)):
  NumU L ((((W.setCell ⟨B,0,none⟩ u0).setCell ⟨B,1,none⟩ u1).setCell ⟨B,2,none⟩ u2).setCell ⟨B,3,none⟩ u3) v n:=⟨h.1.box4 hk,(((h.2.setCell _ _).setCell _ _).setCell _ _).setCell _ _⟩
theorem NumU.box_set {L:Nat→Prop} {W:World} {v u x:Value} {n k:Nat} {t:TypeId} (h:NumU L W v n) (hk:W.heap[k]? =some (.cells #[x] t)) (hx:∀g:Nat,x≠gv .u32 g:=by intro g;unfold gv;simp):NumU L (W.setCell ⟨k,0,none⟩ u) v n:=⟨h.1.box_set hk hx,h.2.setCell _ _⟩
theorem World.frozen4 {W:World} {B:Nat} {cs:Array Value} {t:TypeId} (h:W.heap[B]? =some (.cells cs t)) (i:Nat):W.frozen? ⟨B,i,none⟩=false:=fz0 h i
theorem qAu {w W:World} {X:Nat} {u0 u1 u2 u3:Value} (h:Le w W) (hX:w.heap.size≤X):Le w ((((W.setCell ⟨X,0,none⟩ u0).setCell ⟨X,1,none⟩ u1).setCell ⟨X,2,none⟩ u2).setCell ⟨X,3,none⟩ u3):=
 (((Below.setCell h (p:=⟨X,0,none⟩) hX _).setCell (p:=⟨X,1,none⟩) hX _).setCell (p:=⟨X,2,none⟩) hX _).setCell (p:=⟨X,3,none⟩) hX _
theorem qCK (L L2:Nat→Prop) (r:Rat) (v:Value) (w:World) (hL:Up w L) (h:RatL L2 .u32 w v r) (hs:Rsz r 40):
  Calls Tryz.prog 50 #[v] w fun e w'=>∃v',e= .returned v'∧Le w w'∧FracL L w' v' r:=by
 obtain⟨An,cn,Ad,cd,rfl,hn,hd⟩:=h.form;obtain⟨hs1,hs2⟩:=hs;have hi1:((dg (rnum r)).length :Int)≤40:=by omega
 have hi2:((dg r.den).length :Int)≤40:=by omega
 obtain⟨sr,hsr⟩:∃sr,rneg r=sr:=⟨_,rfl⟩;rw[hsr];have⟨h',hL',hn',hd',hsr'⟩:=hyd5 h hL hn hd hsr;clear hsr hd hn hL h;go_enter Tryz.func50,Tryz.ntmps50
 by_cases hmx:(dg (rnum r)).length <(dg r.den).length
 ·have hmi:((dg (rnum r)).length :Int)<((dg r.den).length :Int):=by omega
  go_wp2_with (fail);go_at_call 48;refine(qAX _ _).mono ?_;rintro e W3 ⟨rfl,rfl⟩;obtain⟨hle,h0,h1⟩:=qAi (Le.refl ((w.alloc (.cells #[.bool sr,.slice An (dg (rnum r)).length cn,.slice Ad (dg r.den).length cd] 70)).alloc (.cells #[.bool false,.slice none 0 0,.bool false,.slice none 0 0] 26)));generalize hW0:(w.alloc (.cells #[.bool sr,.slice An (dg (rnum r)).length cn,.slice Ad (dg r.den).length cd] 70)).alloc (.cells #[.bool false,.slice none 0 0,.bool false,.slice none 0 0] 26)=W0 at*;obtain⟨ca0,ca1,ca2,-⟩:=qAD h0;have hz0:=(gsl h0);have hz1:=(gsl h1);have hUp0:=hL'.out.le hle;have⟨hW0',hle',h0',h1',hUp0'⟩:=hyd5 hW0 hle h0 h1 hUp0;clear hUp0 h1 h0 hle hW0;go_wp2_with (fail);refine qAP (R:=leRel) 11 [some 12,some 13,some 14,some 15,some 16,some 17,some 18,some 19,some 20,some 21,some 22,none] [[],[0],[],[2],[3],[1,4],[],[6],[7],[8],[5,9],[10]]
   [.eq (.pointer (some ⟨w.heap.size,0,none⟩)),.eq (.bool sr),.eq (.pointer (some ⟨w.heap.size,1,none⟩)),.eq (.slice An (dg (rnum r)).length cn),MPred.numU L (rnum r),MPred.whole L sr (rnum r),.eq (.pointer (some ⟨w.heap.size,2,none⟩)),.eq (.slice Ad (dg r.den).length cd),MPred.numU L r.den,MPred.whole L false r.den,MPred.frac L r] (fun _ _=>False) (by kernel_rfl) (by kernel_rfl) (by kernel_rfl) (by kernel_rfl) ?_ (fun _ _ _ _ _ h=>h.elim) ?_
  ·simp only[List.take_succ_cons,List.take_zero];refine mSc ?_ (mSc ?_ (mSc ?_ (mSc ?_ (mSc ?_ (mSc ?_ (mSc ?_ (mSc ?_ (mSc ?_ (mSc ?_ (mSc ?_ (qAS)))))))))))
   ·refine mSl rfl fun x W hR hf Q hK _=>?_;simp only[fA]at hK ⊢;go_wp2;exact hK _ _ lrR rfl
   ·refine mSl rfl fun x W hR hf Q hK _=>?_;obtain⟨e0,-⟩:=hf;change _=_ at e0;have cc:=bcl hR (by omega) ca0;simp only[fA,e0]at hK ⊢;go_wp2;exact hK _ _ lrR rfl
   ·refine mSl rfl fun x W hR hf Q hK _=>?_;simp only[fA]at hK ⊢;go_wp2;exact hK _ _ lrR rfl
   ·refine mSl rfl fun x W hR hf Q hK _=>?_;obtain⟨e0,-⟩:=hf;change _=_ at e0;have cc:=bcl hR (by omega) ca1;simp only[fA,e0]at hK ⊢;go_wp2;exact hK _ _ lrR rfl
   ·refine mSl rfl fun x W hR hf Q hK _=>?_;obtain⟨e0,-⟩:=hf;change _=_ at e0;simp only[fA,e0]at hK ⊢;go_wp2_with (fail);go_at_call 112;refine(qE9 L L2 (rnum r) _ W (hUp0'.out.le hR) ((hn'.out.le hle'.out).le hR) (by omega)).mono ?_;rintro e w' ⟨v',rfl,y1,y2⟩;obtain⟨A9,c9,rfl⟩:=y2.slice;go_wp2;exact hK _ _ y1 y2
   ·refine mSl rfl fun x W hR hf Q hK _=>?_;obtain⟨e0,e1,-⟩:=hf;change _=_ at e0;replace e1:NumU L W (x 4) (rnum r):=e1;obtain⟨A9,c9,e9⟩:=e1.slice;rw[e9]at e1;simp only[fA,e0,e9]at hK ⊢;go_wp2;exact hK _ _ lrR ⟨_,_,rfl,e1⟩
   ·refine mSl rfl fun x W hR hf Q hK _=>?_;simp only[fA]at hK ⊢;go_wp2;exact hK _ _ lrR rfl
   ·refine mSl rfl fun x W hR hf Q hK _=>?_;obtain⟨e0,-⟩:=hf;change _=_ at e0;have cc:=bcl hR (by omega) ca2;simp only[fA,e0]at hK ⊢;go_wp2;exact hK _ _ lrR rfl
   ·refine mSl rfl fun x W hR hf Q hK _=>?_;obtain⟨e0,-⟩:=hf;change _=_ at e0;simp only[fA,e0]at hK ⊢;go_wp2_with (fail);go_at_call 112;refine(qE9 L L2 (r.den) _ W (hUp0'.out.le hR) ((hd'.out.le hle'.out).le hR) (by omega)).mono ?_;rintro e w' ⟨v',rfl,y1,y2⟩;obtain⟨A9,c9,rfl⟩:=y2.slice;go_wp2;exact hK _ _ y1 y2
   ·refine mSl rfl fun x W hR hf Q hK _=>?_;obtain⟨e1,-⟩:=hf;replace e1:NumU L W (x 8) r.den:=e1;obtain⟨A9,c9,e9⟩:=e1.slice;rw[e9]at e1;simp only[fA,e9]at hK ⊢;go_wp2;exact hK _ _ lrR ⟨_,_,rfl,e1⟩
   ·refine mSl rfl fun x W hR hf Q hK _=>?_;obtain⟨e0,e1,-⟩:=hf;obtain⟨A8,c8,e8,y8⟩:=e0;obtain⟨A9,c9,e9,y9⟩:=e1;replace e8:x 5=_:=e8;replace e9:x 9=_:=e9;simp only[fA,e8,e9]at hK ⊢;go_wp2;exact hK _ _ lrR ⟨_,_,_,_,by rw[hsr'.out],y8,y9⟩
  ·intro x W hR hf Q' hQ1 _;have e0:=hf 0 (by decide);have e1:=hf 1 (by decide);have e2:=hf 2 (by decide);have e3:=hf 3 (by decide);have e6:=hf 6 (by decide);have e7:=hf 7 (by decide);have e15:FracL L W (x 10) r:=hf 10 (by decide);change _=_ at e0 e1 e2 e3 e6 e7;obtain⟨A1,c1,A2,c2,e16,y3,y4⟩:=e15;rw[hsr'.out]at e16;have h2W:=(Below.block hR (w.heap.size+1) (by omega)).trans h1'.out;obtain⟨z0,z1,z2,z3⟩:=qAA h2W;simp only[List.drop_succ_cons,List.drop_zero];rw[show List.range 11=[0,1,2,3,4,5,6,7,8,9,10]from rfl];simp only[fA,e0,e1,e2,e3,e6,e7,e16];generalize x 4=x4;generalize x 5=x5;generalize x 8=x8;generalize x 9=x9;clear e0 e1 e2 e3 e6 e7 hf;have hle9:=fun u0 u1 u2 u3=>qAu (u0:=u0) (u1:=u1) (u2:=u2) (u3:=u3) (Le.trans hle'.out hR) (show w.heap.size≤w.heap.size+1 by omega);have hb9:=fun u0 u1 u2 u3=>qAA (qAd (u0:=u0) (u1:=u1) (u2:=u2) (u3:=u3) h2W);have hfz:=fun i=>World.frozen4 h2W i;have hfin:=fun u0 u1 u2 u3=>And.intro (NumU.box4 (u0:=u0) (u1:=u1) (u2:=u2) (u3:=u3) y3 h2W) (NumU.box4 (u0:=u0) (u1:=u1) (u2:=u2) (u3:=u3) y4 h2W);have g0:=hfz 0;have g1:=hfz 1;have g2:=hfz 2;have g3:=hfz 3;have⟨hle9',hb9',hfin',h2W',y3',y4',e16',hR'⟩:=hyd8 hle9 hb9 hfin h2W y3 y4 e16 hR;have hfz':=hyd1 hfz;clear hfz hR e16 y4 y3 h2W hfin hb9 hle9;go_wp2;refine hQ1 _ _ ?_;go_wp2;obtain⟨d0,d1,d2,d3⟩:=hb9'.out (.bool sr) (.slice A1 (dg (rnum r)).length c1) (.bool false) (.slice A2 (dg r.den).length c2)
   refine bodyPost_ret (v:= .agg #[.bool sr,.slice A1 (dg (rnum r)).length c1,.bool false,.slice A2 (dg r.den).length c2]) (by simp[results,Tryz.results50,go_sem,d0,d1,d2,d3]) rfl ⟨_,rfl,hle9'.out _ _ _ _,?_⟩;exact⟨_,_,_,_,by rw[hsr'.out],(hfin'.out _ _ _ _).1,(hfin'.out _ _ _ _).2⟩
 ·have hmi:¬((dg (rnum r)).length :Int)<((dg r.den).length :Int):=by omega
  go_wp2_with (fail);go_at_call 48;refine(qAX _ _).mono ?_;rintro e W3 ⟨rfl,rfl⟩;obtain⟨hle,h0,h1⟩:=qAi (Le.refl ((w.alloc (.cells #[.bool sr,.slice An (dg (rnum r)).length cn,.slice Ad (dg r.den).length cd] 70)).alloc (.cells #[.bool false,.slice none 0 0,.bool false,.slice none 0 0] 26)));generalize hW0:(w.alloc (.cells #[.bool sr,.slice An (dg (rnum r)).length cn,.slice Ad (dg r.den).length cd] 70)).alloc (.cells #[.bool false,.slice none 0 0,.bool false,.slice none 0 0] 26)=W0 at*;obtain⟨ca0,ca1,ca2,-⟩:=qAD h0;have hz0:=(gsl h0);have hz1:=(gsl h1);have hUp0:=hL'.out.le hle;have⟨hW0',hle',h0',h1',hUp0'⟩:=hyd5 hW0 hle h0 h1 hUp0;clear hUp0 h1 h0 hle hW0;go_wp2_with (fail);refine qAP (R:=leRel) 11 [some 12,some 13,some 14,some 15,some 16,some 17,some 18,some 19,some 20,some 21,some 22,none] [[],[0],[],[2],[3],[1,4],[],[6],[7],[8],[5,9],[10]]
   [.eq (.pointer (some ⟨w.heap.size,0,none⟩)),.eq (.bool sr),.eq (.pointer (some ⟨w.heap.size,1,none⟩)),.eq (.slice An (dg (rnum r)).length cn),MPred.numU L (rnum r),MPred.whole L sr (rnum r),.eq (.pointer (some ⟨w.heap.size,2,none⟩)),.eq (.slice Ad (dg r.den).length cd),MPred.numU L r.den,MPred.whole L false r.den,MPred.frac L r] (fun _ _=>False) (by kernel_rfl) (by kernel_rfl) (by kernel_rfl) (by kernel_rfl) ?_ (fun _ _ _ _ _ h=>h.elim) ?_
  ·simp only[List.take_succ_cons,List.take_zero];refine mSc ?_ (mSc ?_ (mSc ?_ (mSc ?_ (mSc ?_ (mSc ?_ (mSc ?_ (mSc ?_ (mSc ?_ (mSc ?_ (mSc ?_ (qAS)))))))))))
   ·refine mSl rfl fun x W hR hf Q hK _=>?_;simp only[fA]at hK ⊢;go_wp2;exact hK _ _ lrR rfl
   ·refine mSl rfl fun x W hR hf Q hK _=>?_;obtain⟨e0,-⟩:=hf;change _=_ at e0;have cc:=bcl hR (by omega) ca0;simp only[fA,e0]at hK ⊢;go_wp2;exact hK _ _ lrR rfl
   ·refine mSl rfl fun x W hR hf Q hK _=>?_;simp only[fA]at hK ⊢;go_wp2;exact hK _ _ lrR rfl
   ·refine mSl rfl fun x W hR hf Q hK _=>?_;obtain⟨e0,-⟩:=hf;change _=_ at e0;have cc:=bcl hR (by omega) ca1;simp only[fA,e0]at hK ⊢;go_wp2;exact hK _ _ lrR rfl
   ·refine mSl rfl fun x W hR hf Q hK _=>?_;obtain⟨e0,-⟩:=hf;change _=_ at e0;simp only[fA,e0]at hK ⊢;go_wp2_with (fail);go_at_call 112;refine(qE9 L L2 (rnum r) _ W (hUp0'.out.le hR) ((hn'.out.le hle'.out).le hR) (by omega)).mono ?_;rintro e w' ⟨v',rfl,y1,y2⟩;obtain⟨A9,c9,rfl⟩:=y2.slice;go_wp2;exact hK _ _ y1 y2
   ·refine mSl rfl fun x W hR hf Q hK _=>?_;obtain⟨e0,e1,-⟩:=hf;change _=_ at e0;replace e1:NumU L W (x 4) (rnum r):=e1;obtain⟨A9,c9,e9⟩:=e1.slice;rw[e9]at e1;simp only[fA,e0,e9]at hK ⊢;go_wp2;exact hK _ _ lrR ⟨_,_,rfl,e1⟩
   ·refine mSl rfl fun x W hR hf Q hK _=>?_;simp only[fA]at hK ⊢;go_wp2;exact hK _ _ lrR rfl
   ·refine mSl rfl fun x W hR hf Q hK _=>?_;obtain⟨e0,-⟩:=hf;change _=_ at e0;have cc:=bcl hR (by omega) ca2;simp only[fA,e0]at hK ⊢;go_wp2;exact hK _ _ lrR rfl
   ·refine mSl rfl fun x W hR hf Q hK _=>?_;obtain⟨e0,-⟩:=hf;change _=_ at e0;simp only[fA,e0]at hK ⊢;go_wp2_with (fail);go_at_call 112;refine(qE9 L L2 (r.den) _ W (hUp0'.out.le hR) ((hd'.out.le hle'.out).le hR) (by omega)).mono ?_;rintro e w' ⟨v',rfl,y1,y2⟩;obtain⟨A9,c9,rfl⟩:=y2.slice;go_wp2;exact hK _ _ y1 y2
   ·refine mSl rfl fun x W hR hf Q hK _=>?_;obtain⟨e1,-⟩:=hf;replace e1:NumU L W (x 8) r.den:=e1;obtain⟨A9,c9,e9⟩:=e1.slice;rw[e9]at e1;simp only[fA,e9]at hK ⊢;go_wp2;exact hK _ _ lrR ⟨_,_,rfl,e1⟩
   ·refine mSl rfl fun x W hR hf Q hK _=>?_;obtain⟨e0,e1,-⟩:=hf;obtain⟨A8,c8,e8,y8⟩:=e0;obtain⟨A9,c9,e9,y9⟩:=e1;replace e8:x 5=_:=e8;replace e9:x 9=_:=e9;simp only[fA,e8,e9]at hK ⊢;go_wp2;exact hK _ _ lrR ⟨_,_,_,_,by rw[hsr'.out],y8,y9⟩
  ·intro x W hR hf Q' hQ1 _;have e0:=hf 0 (by decide);have e1:=hf 1 (by decide);have e2:=hf 2 (by decide);have e3:=hf 3 (by decide);have e6:=hf 6 (by decide);have e7:=hf 7 (by decide);have e15:FracL L W (x 10) r:=hf 10 (by decide);change _=_ at e0 e1 e2 e3 e6 e7;obtain⟨A1,c1,A2,c2,e16,y3,y4⟩:=e15;rw[hsr'.out]at e16;have h2W:=(Below.block hR (w.heap.size+1) (by omega)).trans h1'.out;obtain⟨z0,z1,z2,z3⟩:=qAA h2W;simp only[List.drop_succ_cons,List.drop_zero];rw[show List.range 11=[0,1,2,3,4,5,6,7,8,9,10]from rfl];simp only[fA,e0,e1,e2,e3,e6,e7,e16];generalize x 4=x4;generalize x 5=x5;generalize x 8=x8;generalize x 9=x9;clear e0 e1 e2 e3 e6 e7 hf;have hle9:=fun u0 u1 u2 u3=>qAu (u0:=u0) (u1:=u1) (u2:=u2) (u3:=u3) (Le.trans hle'.out hR) (show w.heap.size≤w.heap.size+1 by omega);have hb9:=fun u0 u1 u2 u3=>qAA (qAd (u0:=u0) (u1:=u1) (u2:=u2) (u3:=u3) h2W);have hfz:=fun i=>World.frozen4 h2W i;have hfin:=fun u0 u1 u2 u3=>And.intro (NumU.box4 (u0:=u0) (u1:=u1) (u2:=u2) (u3:=u3) y3 h2W) (NumU.box4 (u0:=u0) (u1:=u1) (u2:=u2) (u3:=u3) y4 h2W);have g0:=hfz 0;have g1:=hfz 1;have g2:=hfz 2;have g3:=hfz 3;have⟨hle9',hb9',hfin',h2W',y3',y4',e16',hR'⟩:=hyd8 hle9 hb9 hfin h2W y3 y4 e16 hR;have hfz':=hyd1 hfz;clear hfz hR e16 y4 y3 h2W hfin hb9 hle9;go_wp2;refine hQ1 _ _ ?_;go_wp2;obtain⟨d0,d1,d2,d3⟩:=hb9'.out (.bool sr) (.slice A1 (dg (rnum r)).length c1) (.bool false) (.slice A2 (dg r.den).length c2)
   refine bodyPost_ret (v:= .agg #[.bool sr,.slice A1 (dg (rnum r)).length c1,.bool false,.slice A2 (dg r.den).length c2]) (by simp[results,Tryz.results50,go_sem,d0,d1,d2,d3]) rfl ⟨_,rfl,hle9'.out _ _ _ _,?_⟩;exact⟨_,_,_,_,by rw[hsr'.out],(hfin'.out _ _ _ _).1,(hfin'.out _ _ _ _).2⟩
theorem qDH (L:Nat→Prop) (r:Rat) (v:Value) (w:World) (h:RatL L .u32 w v r) (hbig:¬Rsz r 40):
  Calls Tryz.prog 50 #[v] w fun e w'=>e= .panicked [{v:= .iface 137 (.agg #[.int .i64 12]),recovered:=false}]∧Le w w':=by
 obtain⟨An,cn,Ad,cd,rfl,hn,hd⟩:=h.form
 have hb:40<(dg (rnum r)).length ∨40<(dg r.den).length :=by
  unfold Rsz at hbig;omega
 obtain⟨sr,hsr⟩:∃sr,rneg r=sr:=⟨_,rfl⟩;rw[hsr];have⟨h',hn',hd',hsr',hbig'⟩:=hyd5 h hn hd hsr hbig;clear hbig hsr hd hn h;go_enter Tryz.func50,Tryz.ntmps50
 by_cases hmx:(dg (rnum r)).length <(dg r.den).length
 ·have hmi:((dg (rnum r)).length :Int)<((dg r.den).length :Int):=by omega
  have hi2:¬((dg r.den).length :Int)≤40:=by omega
  have hi3:40<((dg r.den).length :Int):=by omega
  have hi4:¬(dg r.den).length ≤40:=by omega
  have hb':=hyd1 hb;clear hb;go_wp2_with (fail);go_at_call 48;refine(qAY _ _).mono ?_;rintro e W3 ⟨rfl,rfl⟩;go_wp2_with (fail);exact⟨rfl,rfl,(qAB _ _).trans (qAB _ _)⟩
 ·have hmi:¬((dg (rnum r)).length :Int)<((dg r.den).length :Int):=by omega
  have hi2:¬((dg (rnum r)).length :Int)≤40:=by omega
  have hi3:40<((dg (rnum r)).length :Int):=by omega
  have hi4:¬(dg (rnum r)).length ≤40:=by omega
  have hb':=hyd1 hb;clear hb;go_wp2_with (fail);go_at_call 48;refine(qAY _ _).mono ?_;rintro e W3 ⟨rfl,rfl⟩;go_wp2_with (fail);exact⟨rfl,rfl,(qAB _ _).trans (qAB _ _)⟩
end Go.Proofs.YtenjpccpldajoaaGreatDoor

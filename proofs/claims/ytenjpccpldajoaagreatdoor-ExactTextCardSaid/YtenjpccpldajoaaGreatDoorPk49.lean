/- barleycornref01: PlusZ, Square. barleycornref01: TimesZ. barleycornref01: One, Nil. barleycornref01: Inverse. barleycornref01: Raised. barleycornref01: InTurn, .. -/
import Derived.Test.YtenjpccpldajoaaGreatDoorPk38
import Derived.Test.YtenjpccpldajoaaGreatDoorPk37
namespace Go.Proofs.YtenjpccpldajoaaGreatDoor
set_option maxRecDepth 100000
open Go.RowKit Go.Shelf
set_option linter.unusedVariables false
set_option linter.unusedSimpArgs false
set_option maxHeartbeats 4000000
theorem qFA (x y:FracA×FracA) (va vb:Value) (w:World) (h1:IsTurnA w va x) (h2:IsTurnA w vb y):Calls Tryz.prog 36 #[va,vb] w fun e w'=>e= .returned (.bool (qHF x y))∧Le w w':=by
 obtain⟨x1A,x1c,x1B,x1d,x2A,x2c,x2B,x2d,rfl,p1,p2⟩:=h1;obtain⟨y1A,y1c,y1B,y1d,y2A,y2c,y2B,y2d,rfl,q1,q2⟩:=h2;obtain⟨W0,hW0,hsz,hle,k0,k1⟩:=qCQ w (.cells #[.bool x.1.sn,.slice x1A x.1.gn.length x1c,.bool x.1.sd,.slice x1B x.1.gd.length x1d,.bool x.2.sn,.slice x2A x.2.gn.length x2c,.bool x.2.sd,.slice x2B x.2.gd.length x2d] 56) (.cells #[.bool y.1.sn,.slice y1A y.1.gn.length y1c,.bool y.1.sd,.slice y1B y.1.gd.length y1d,.bool y.2.sn,.slice y2A y.2.gn.length y2c,.bool y.2.sd,.slice y2B y.2.gd.length y2d] 56);obtain⟨a0,a1,a2,a3,a4,a5,a6,a7⟩:=qAX k0;obtain⟨b0,b1,b2,b3,b4,b5,b6,b7⟩:=qAX k1;have r1:=qC3 (fun _=>True) (fun _=>True) x.1 y.1 _ _ W0 (p1.le hle) (q1.le hle);have r2:=fun W (hW:Le W0 W)=>qC3 (fun _=>True) (fun _=>True) x.2 y.2 _ _ W (p2.le (hle.trans hW)) (q2.le (hle.trans hW));obtain⟨s1,hs1⟩:∃s,qBq x.1 y.1=s:=⟨_,rfl⟩;obtain⟨s2,hs2⟩:∃s,qBq x.2 y.2=s:=⟨_,rfl⟩;have hT:qHF x y=(s1&&s2):=by unfold qHF;rw[hs1,hs2]
 rw[hs1]at r1;rw[hs2]at r2;rw[hT];have⟨hle',k0',k1',p1',p2',q1',q2',r1'⟩:=hyd8 hle k0 k1 p1 p2 q1 q2 r1;have⟨r2',hs1',hs2',hT'⟩:=hyd4 r2 hs1 hs2 hT;clear hT hs2 hs1 r2 r1 q2 q1 p2 p1 k1 k0 hle
 cases s1
 ·go_enter Tryz.func36,Tryz.ntmps36;go_wp2_with (fail);clear hW0;go_at_call 51;refine r1'.out.mono ?_;rintro e W1 ⟨rfl,hle1⟩;have hl1:=hle'.out.trans hle1;have⟨hle1',hl1'⟩:=hyd2 hle1 hl1;clear hl1 hle1;go_wp2;go_ret;exact⟨by simp,hl1'.out⟩
 ·go_enter Tryz.func36,Tryz.ntmps36;go_wp2_with (fail);clear hW0;go_at_call 51;refine r1'.out.mono ?_;rintro e W1 ⟨rfl,hle1⟩;clear a0 a1 a2 a3 a4 a5 a6 a7 b0 b1 b2 b3 b4 b5 b6 b7;obtain⟨a0,a1,a2,a3,a4,a5,a6,a7⟩:=qAX (bxl hle1 k0'.out);obtain⟨b0,b1,b2,b3,b4,b5,b6,b7⟩:=qAX (bxl hle1 k1'.out);have r3:=r2'.out W1 hle1;have⟨hle1',r3'⟩:=hyd2 hle1 r3;clear r3 hle1;go_wp2_with (fail);go_at_call 51;refine r3'.out.mono ?_;rintro e W2 ⟨rfl,hle2⟩;have hl2:=(hle'.out.trans hle1'.out).trans hle2;have⟨hle2',hl2'⟩:=hyd2 hle2 hl2;clear hl2 hle2;go_wp2;go_ret;exact⟨by simp,hl2'.out⟩
theorem fe5 (D s N Q:Rat) (hD:D≠0) (hQ:Q≠0) (hs0:s≠0):N / D / (Q / D)=(s*N) / (s*Q):=by grind
theorem GL.monic {n:Nat} {l:List Rat} (h:GL n l) (h0:qB4 l≠0):GL n (qAf l):=by
 obtain⟨D,d1,d2,d3⟩:=h;obtain⟨Qt,qt1,qt2⟩:=GL.getD d3 (l.length - 1);have hD:(D:Rat)≠0:=by exact_mod_cast Nat.ne_of_gt d1
 have hlast:qB4 l=(Qt:Rat) / (D:Rat):=qt1;have hQ0:Qt≠0:=fun h=>h0 (by rw[hlast,h,Rat.intCast_zero,qCc]);have hQr:(Qt:Rat)≠0:=by exact_mod_cast hQ0
 have hp:0<Qt.natAbs:=Int.natAbs_pos.2 hQ0
 obtain⟨sg9,hs1,hs2⟩:∃s:Int,(s=1∨s= -1)∧(Qt.natAbs:Int)=s*Qt:=by
  rcases Int.natAbs_eq Qt with h|h
  ·exact⟨1,.inl rfl,by omega⟩
  ·exact⟨-1,.inr rfl,by omega⟩
 have hsr:((Qt.natAbs:Nat):Rat)=(sg9:Rat)*(Qt:Rat):=by
  rw[←Rat.intCast_mul,←hs2];rfl
 have hb:∀N:Int,(sg9*N).natAbs =N.natAbs:=fun N=>by rcases hs1 with rfl|rfl<;>simp
 have hs0:(sg9:Rat)≠0:=by rcases hs1 with rfl|rfl<;>decide+kernel
 refine⟨Qt.natAbs,hp,qt2,fun r hr=>?_⟩;unfold qAf at hr;rw[List.mem_map]at hr;obtain⟨x,hx,rfl⟩:=hr;obtain⟨N,e,hN⟩:=d3 x hx;refine⟨sg9*N,?_,by rw[hb];exact hN⟩;rw[hlast,e,hsr,Rat.intCast_mul];exact fe5 _ _ _ _ hD hQr hs0
theorem GL.part {n:Nat} {l l':List Rat} (h:GL n l) (hs:∀r∈l',r∈l):GL n l':=by
 obtain⟨D,d1,d2,d3⟩:=h;exact⟨D,d1,d2,fun r hr=>d3 r (hs r hr)⟩
theorem qNG {n k:Nat} {P q:List Rat} (hP:GL n P) (hq:GL k q) (h0:q.getD (q.length - 1) 0≠0):GL (n+(P.length+1 - q.length)*(k+1)) (qAw P q):=by
 unfold qAw
 by_cases h:P.length<q.length
 ·rw[if_pos h];exact hP.up (by omega)
 ·rw[if_neg h,show P.length+1 - q.length=P.length - q.length+1 by omega];exact(qH8 hP hq h0 _ _).part fun r hr=>List.mem_of_mem_take hr
theorem qNH {p q:List Rat} (tp:qAT p=true) (tq:qAT q=true) (hq0:q.length≠0):(qAw p q).length <q.length:=by
 have e1:=(qCg q).len (qAh _) tq;have hn:(qAC q).length ≠0:=by omega
 have h:=qII (qCg p) (qCg q) (qAh _) (qAh _) tp tq hn;have e2:=h.len (qCK (qAh _)) (qEO tp);have:=qB8 (a:=qAC p) (b:=qAC q) hn;omega
noncomputable def gcdQ (x y:List Rat):List Rat:=qBu y.length (qAf x) (qAf y)
def Scp (A:List Int) (r:List Rat):Prop:=∃c:Rat,0<c∧∀j,((A.getD j 0:Int):Rat)=c*r.getD j 0
theorem Scp.sc {A:List Int} {r:List Rat} (h:Scp A r):Sc A r:=by
 obtain⟨c,hc,h⟩:=h;exact⟨c,Rat.ne_of_gt hc,h⟩
theorem qJ5 {a b:Rat} (ha:0<a) (hb:0<b):0<a / b:=by
 rw[Rat.div_def];exact Rat.mul_pos ha (Rat.inv_pos.2 hb)
theorem Scp.prim {A:List Int} {r:List Rat} (h:Scp A r):Scp (qA3 A) r:=by
 obtain⟨c,hc,h⟩:=h
 by_cases hg:gcdI (qAE A)=0
 ·have hz:(qAE A).length =0:=Classical.byContradiction fun h0=>qDk (List.getElem_mem (show 0<(qAE A).length by omega)) hg;have hz2:∀j,(qA3 A).getD j 0=0:=fun j=>qBI (by unfold qA3;rw[List.length_map];omega);refine⟨c,hc,fun j=>?_⟩;rw[hz2,←h j,qCu A j,hz2,Int.mul_zero]
 ·have hg2:0<((gcdI (qAE A):Nat):Rat):=Rat.natCast_pos.2 (by omega);refine⟨c / ((gcdI (qAE A):Nat):Rat),qJ5 hc hg2,fun j=>?_⟩;have h1:=h j;rw[qCu A j]at h1
  have h2:((((gcdI (qAE A):Nat):Int)*(qA3 A).getD j 0:Int):Rat)=((gcdI (qAE A):Nat):Rat)*(((qA3 A).getD j 0:Int):Rat):=by
   rw[Rat.intCast_mul]
   rfl
  rw[h2]at h1;generalize (((qA3 A).getD j 0:Int):Rat)=x at h1 ⊢;generalize ((gcdI (qAE A):Nat):Rat)=g at h1 hg2 ⊢;generalize r.getD j 0=y at h1 ⊢;have hg3:=Rat.ne_of_gt hg2;clear hg2 h hg
  grind
theorem qEs (l:List Rat):Scp (qAC l) l:=by
 unfold qAC;refine Scp.prim ⟨((denI l:Nat):Rat),Rat.natCast_pos.2 (qEg l l.length),fun j=>?_⟩
 by_cases hj:j<l.length
 ·rw[List.getD_eq_getElem?_getD,List.getD_eq_getElem?_getD,List.getElem?_map,List.getElem?_eq_getElem hj];exact qGz (qGS (List.getElem_mem hj))
 ·rw[qBI (by rw[List.length_map];exact hj),qBU hj,Rat.mul_zero]
  rfl
def derQ (p:List Rat):List Rat:=(List.range (p.length - 1)).map fun j=>p.getD (j+1) 0*((j+1:Nat):Rat)
theorem qDy (p:List Rat):(derQ p).length =p.length - 1:=by unfold derQ;rw[List.length_map,List.length_range]
theorem qIQ (p:List Rat) (j:Nat):(derQ p).getD j 0=p.getD (j+1) 0*((j+1:Nat):Rat):=by
 by_cases hj:j<p.length - 1
 ·unfold derQ;rw[List.getD_eq_getElem?_getD,List.getElem?_map,List.getElem?_range hj]
  rfl
 ·rw[qBU (by rw[qDy];exact hj),qBU (by omega),Rat.zero_mul]
theorem qMO (p:List Int) (j:Nat):(derS p).getD j 0=p.getD (j+1) 0*((j+1:Nat):Int):=by
 by_cases hj:j<p.length - 1
 ·unfold derS;rw[List.getD_eq_getElem?_getD,List.getElem?_map,List.getElem?_range hj]
  rfl
 ·rw[qBI (by rw[qJT];exact hj),qBI (by omega),Int.zero_mul]
theorem Scp.der {A:List Int} {r:List Rat} (h:Scp A r):Scp (derI A) (derQ r):=by
 obtain⟨c,hc,h⟩:=h;unfold derI;refine Scp.prim ⟨c,hc,fun j=>?_⟩;rw[qMO,qIQ,Rat.intCast_mul,h (j+1),Rat.mul_assoc]
 rfl
theorem qGY {p:List Rat} (h:qAT p=true):qAT (derQ p)=true:=by
 unfold qAT
 by_cases h1:p.length≤1
 ·rw[decide_eq_true (by rw[qDy];omega)];rfl
 ·have hz:=qDt h (by omega)
  have e:(derQ p).getD ((derQ p).length - 1) 0≠0:=by
   rw[qIQ,qDy,show p.length - 1 - 1+1=p.length - 1 by omega];intro h0
   rcases Rat.mul_eq_zero.1 h0 with h2|h2
   ·exact hz h2
   ·have:(0:Rat)<((p.length - 1:Nat):Rat):=Rat.natCast_pos.2 (by omega);rw[h2]at this;exact absurd this (by decide)
  rw[decide_eq_false e];simp
theorem qNI {p:List Rat} (h:qAT p=true):gcdD p=gcdQ p (derQ p):=by
 have hd:=qGY h;have h1:=(qEs p).der;have hl:=h1.sc.len (qCL _) hd;have:=qKL (derI (qAC p)).length (qAC p) (derI (qAC p)) (qAf p) (qAf (derQ p)) ((qCg p).monic' h) (h1.sc.monic' hd) (qAh _) (qCL _) (qBe h) (qBe hd) ((qCg p).ratios (qAh _) h) (h1.sc.ratios (qCL _) hd);unfold gcdD qAk gcdQ;rw[this,hl]
theorem qMP {x:FracA} {r:Rat} (h:inE x= .ok r) (hg:qBV x 2=false):Rsz r 2:=by
 have h40:=qLl h;unfold inE at h
 cases hr:x.rat? with
 | none=>rw[hr]at h;cases h
 | some r'=>
  rw[hr]at h;injection h with h;subst h;have hv:=FracA.val hr;unfold Rsz at h40 ⊢;rw[hv.num,hv.den]at h40 ⊢;unfold qBV bigB at hg;simp at hg;omega
theorem qLE {l:List FracA} (h:qCf l 8 2=false):(l.length≤8∨l.length=66)∧∀x∈l,qBV x 2=false:=by
 unfold qCf at h;rw[Bool.or_eq_false_iff]at h;refine⟨?_,fun x hx=>by have:=List.any_eq_false.1 h.2 x hx;simpa using this⟩;have h1:=h.1;simp at h1;omega
theorem qEt {l:List FracA} {xs:List Rat} (hg:qCf l 8 2=false) (h:qA8 l= .ok xs):xs.length≤8∧∀r∈xs,Rsz r 2:=by
 obtain⟨g1,g2⟩:=qLE hg;have h0:=(qBd h).1;unfold qA8 at h
 split at h
 ·cases h
 ·cases hm:mapE inE l with
  | error z=>rw[hm]at h;cases h
  | ok rs=>
   rw[hm]at h;dsimp only at h
   split at h
   ·injection h with h;subst h;have hl:=qDP hm;refine⟨by omega,fun r hr=>?_⟩;obtain⟨x,hx,hf⟩:=qGN hm r hr;exact qMP hf (g2 x hx)
   ·cases h
theorem qNT:∀p,p<9→∀q,q<9→(max p q - min p q+2)*3^min p q≤13122:=by decide
theorem qF5 {xs:List Rat} (h8:xs.length≤8) (hs:∀r∈xs,Rsz r 2):∀z∈qAC xs,Isz z 19:=by
 unfold qAC;refine qEi fun z hz=>?_;rw[List.mem_map]at hz;obtain⟨r,hr,rfl⟩:=hz;have h1:=qFf hs (by decide) xs.length;exact(qFU (hs r hr) (N:=17) (by unfold denI;omega)).up (by decide)
end Go.Proofs.YtenjpccpldajoaaGreatDoor

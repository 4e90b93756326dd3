/- reference 1: fractions: lowest, Sign, Minus. reference 1: fractions: Plus. reference 1: fractions: Times, By. reference 1: fractions: absolute, Int, Over, .. -/
import Derived.Test.YtfmfefibadpobaaGreatDoorPk13
import Derived.Test.YtfmfefibadpobaaGreatDoorPk16
namespace Go.Proofs.YtfmfefibadpobaaGreatDoor
set_option maxRecDepth 100000
set_option maxHeartbeats 1000000
open Go.RowKit Go.Shelf
set_option linter.unusedVariables false
set_option linter.unusedSimpArgs false
theorem qCX:(1:Nat)<B9:=by have:=qAD;omega
theorem qEC {L:Nat->Prop} {neg:Bool} {n d:Nat} {w W:World} {B:Nat} {t:TypeId} {An Ad:Option Addr} {cn cd ln ld:Nat} (hn0:n≠0) (hd:d≠0) (hle:Le w W) (hB:w.heap.size<=B)
  (hbx:W.heap[B]? =some (Obj.cells #[.bool false,.slice none 0 0,.slice none 0 0] t)) (hn:NumL L .i64 W (.slice An ln cn) (n / Nat.gcd n d)) (hdn:NumL L .i64 W (.slice Ad ld cd) (d / Nat.gcd n d)):
  RatL L .i64 (((W.setCell ⟨B,0,none⟩ (.bool neg)).setCell ⟨B,1,none⟩ (.slice An ln cn)).setCell ⟨B,2,none⟩ (.slice Ad ld cd)) (.agg #[.bool neg,.slice An ln cn,.slice Ad ld cd]) (mkR neg n d):=by
 refine⟨_,_,by rw[qEV _ _ _ hd,show decide (0<n)=true by simp;omega,Bool.and_true],?_,?_⟩
 ·rw[qC8 _ _ _ hd];exact hn.box3 hbx
 ·rw[qDU _ _ _ hd];exact hdn.box3 hbx
theorem qCO (L:Nat->Prop) (neg:Bool) (n d:Nat) (vn vd:Value) (w:World) (hL:Up w L) (hn:NumL L .i64 w vn n) (hd:NumL L .i64 w vd d) (hd0:d≠0) (hmn:(dg n).length <=10000000) (hmd:(dg d).length <=10000000):
  Calls Tryz.prog 27 #[.bool neg,vn,vd] w λe w'=>∃v',e= .returned v'/\Le w w'/\RatL L .i64 w' v' (mkR neg n d):=by
 obtain⟨An,cn,rfl⟩:=hn.slice;obtain⟨Ad,cd,rfl⟩:=hd.slice
 by_cases hz:n=0
 ·have J:(dg n).length =0:=by rw[hz,qAI];rfl
  rw[J];have⟨aj,af,H,aG,aP⟩:=hyd5 hn hd hL hz J;clear J hz hL hd hn;go_enter Tryz.func27,Tryz.ntmps27;go_wp2
  have a2:RatL L .i64 ((w.alloc (.cells #[.bool false,.slice none 0 0,.slice (some ⟨w.heap.size+1,0,none⟩) 1 1] 49)).alloc (.cells #[.int .i64 1] 3)) (.agg #[.bool false,.slice none 0 0,.slice (some ⟨w.heap.size+1,0,none⟩) 1 1]) (mkR neg n d):=by
   rw[aG.out,qFA];refine⟨_,_,rfl,by unfold NumL;rw[show rnum 0=0 from rfl,qAI];exact ArrL.nil _ _ _,?_⟩;have h:=qAt (L:=L) (k:= .i64) (V:=w.alloc (.cells #[.bool false,.slice none 0 0,.slice (some ⟨w.heap.size+1,0,none⟩) 1 1] 49)) (g:=1) (H.out.le (qAA _ _)) (by omega) qCX 3;rw[World.size_alloc]at h;exact h
  exact bodyPost_ret (v:= .agg #[.bool false,.slice none 0 0,.slice (some ⟨w.heap.size+1,0,none⟩) 1 1]) (by simp[results,Tryz.results27,go_sem]) rfl ⟨_,rfl,(qAA _ _).trans (qAA _ _),a2⟩
 ·have J:(((dg n).length :Int)==0)=false:=beq_eq_false_iff_ne.2 (by have:=dg_length_pos.2 hz;omega);have bb:¬((dg n).length :Int)=0:=by have:=dg_length_pos.2 hz;omega
  have⟨aj,af,H⟩:=hyd3 hn hd hL;clear hL hd hn;go_enter Tryz.func27,Tryz.ntmps27;go_wp2_with (fail);go_at_call 37;refine(qD4 L n d _ _ _ (H.out.le (qAA _ _)) (aj.out.le (qAA _ _)) (af.out.le (qAA _ _)) hmn hmd).mono ?_;rintro e w1 ⟨vg,rfl,ah,hg⟩;obtain⟨m,I⟩:=qAl ah;obtain⟨G,z⟩:∃G,Nat.gcd n d=G:=⟨_,rfl⟩;have ba:0<G:=by rw[<-z];exact Nat.gcd_pos_of_pos_right _ (Nat.pos_of_ne_zero hd0)
  have ao:(dg G).length <=10000000:=by
   rw[<-z];have:=qFe n d (.inr hd0);omega
  rw[z]at hg;obtain⟨Ag,cg,rfl⟩:=hg.slice;have az:=aj.out.le m;have ap:=af.out.le m;have P:=H.out.le m;have S:=λo=>(Below.block (qAA w1 o) w.heap.size (gsl I)).trans I;have⟨ay,F,D,ag,ab,X,r,ae⟩:=hyd8 ah m I hg az ap P S;clear S P ap az hg I m ah;go_wp2_with (fail);go_at_call 36;refine(qCC L L G 1 _ _ _ (ag.out.le (qAA _ _)) (qAt (g:=1) r.out (by omega) qCX _)).mono ?_;rintro e w2 ⟨rfl,nd,rfl⟩;obtain⟨w2,O⟩:∃w2,(w1.alloc (.cells #[.int .i64 ((1:Nat):Int)] 3)).drewN nd=w2:=⟨_,rfl⟩;have b:Le w1 w2:=by rw[<-O];exact(qAA _ _).trans (Le.quiet nd)
  rw[O];have aa:=F.out.trans b;have T:=(Below.block b w.heap.size (gsl D.out)).trans D.out;have a0:=ab.out.le b;have aq:=X.out.le b;have av:=ag.out.le b;have Q:=r.out.le b;clear ab X ag r ae D ay F;have⟨aT,a5,t,c,ac,Y,Z,A⟩:=hyd8 O b aa T a0 aq av Q;clear Q av aq a0 T aa b O
  by_cases i:G=1
  ·have M:ordI G 1=0:=ordI_zero.2 i;have a1:(ordI G 1==0)=true:=by rw[M];rfl
   obtain⟨c0,c1,c2,f0,f1,f2⟩:=qAF c.out;have l:=qEC (neg:=neg) hz hd0 t.out (Nat.le_refl _) c.out (by rw[z,i,Nat.div_one];exact ac.out) (by rw[z,i,Nat.div_one];exact Y.out);have q:=λu0 u1 u2=>qBX (u0:=u0) (u1:=u1) (u2:=u2) t.out (Nat.le_refl _);have B:=λu0 u1 u2=>qAF (qAu (u0:=u0) (u1:=u1) (u2:=u2) c.out);rw[M];clear M a1;have⟨s,x,aA,an,C⟩:=hyd5 l q z i B;clear B i z q l;go_wp2;obtain⟨d0,d1,d2,-⟩:=C.out (.bool neg) (.slice An (dg n).length cn) (.slice Ad (dg d).length cd);exact bodyPost_ret (v:= .agg #[.bool neg,.slice An (dg n).length cn,.slice Ad (dg d).length cd]) (by simp[results,Tryz.results27,go_sem,d0,d1,d2]) rfl ⟨_,rfl,x.out _ _ _,s.out⟩
  ·obtain⟨o,M⟩:∃o,ordI G 1=o:=⟨_,rfl⟩;rw[M];have bd:(o==0)=false:=beq_eq_false_iff_ne.2 (λh=>i (ordI_zero.1 (M.trans h)));have a1:¬o=0:=λh=>i (ordI_zero.1 (M.trans h));have⟨bc,an⟩:=hyd2 M i;clear i M;go_wp2_with (fail);go_at_call 51;refine(qCw L n G _ _ w2 A.out ac.out Z.out hmn ao (by omega)).mono ?_;rintro e w3 ⟨v1,v2,rfl,f,hq,hr⟩;obtain⟨A1,c1,rfl⟩:=hq.slice;obtain⟨A2,c2,rfl⟩:=hr.slice;have U:=(Below.block f _ (gsl c.out)).trans c.out;have ar:=Y.out.le f;have aw:=Z.out.le f;have R:=A.out.le f;have⟨ai,aE,be,E,au,ax,ad⟩:=hyd7 f hq hr U ar aw R;clear R aw ar U hr hq f;go_wp2_with (fail);go_at_call 51;refine(qCw L d G _ _ w3 ad.out au.out ax.out hmd ao (by omega)).mono ?_;rintro e w4 ⟨v1,v2,rfl,p,N,al⟩;obtain⟨A3,c3,rfl⟩:=N.slice;obtain⟨A4,c4,rfl⟩:=al.slice;have j:=(Below.block p _ (gsl E.out)).trans E.out;have ak:=aE.out.le p;have y:=Le.trans (Le.trans t.out ai.out) p;obtain⟨c0,e1,e2,f0,f1,f2⟩:=qAF j;have l:=qEC (neg:=neg) hz hd0 y (Nat.le_refl _) j (by rw[z];exact ak) (by rw[z];exact N);have q:=λu0 u1 u2=>qBX (u0:=u0) (u1:=u1) (u2:=u2) y (Nat.le_refl _);have B:=λu0 u1 u2=>qAF (qAu (u0:=u0) (u1:=u1) (u2:=u2) j);have⟨s,x,aA,C,aB,aQ,aD,aC⟩:=hyd8 l q z B j ak y p
   have⟨aR,aS⟩:=hyd2 N al;clear al N p y ak j B z q l;go_wp2;obtain⟨d0,d1,d2,-⟩:=C.out (.bool neg) (.slice A1 (dg (n / G)).length c1) (.slice A3 (dg (d / G)).length c3);exact bodyPost_ret (v:= .agg #[.bool neg,.slice A1 (dg (n / G)).length c1,.slice A3 (dg (d / G)).length c3]) (by simp[results,Tryz.results27,go_sem,d0,d1,d2]) rfl ⟨_,rfl,x.out _ _ _,s.out⟩
end Go.Proofs.YtfmfefibadpobaaGreatDoor

/- exact: fractions: reduced, sign. exact: fractions: times, over. -/
import Derived.Test.YtfmfefibadpobaaGreatDoorPk12
namespace Go.Proofs.YtfmfefibadpobaaGreatDoor
set_option maxRecDepth 100000
set_option maxHeartbeats 1000000
open Go.RowKit Go.Shelf
set_option linter.unusedVariables false
set_option linter.unusedSimpArgs false
theorem NumL.box3 {L:Nat->Prop} {k:IntKind} {W:World} {v u0 u1 u2:Value} {b0:Bool} {A1 A2:Option Addr} {n1 c1 n2 c2 n B:Nat} {t:TypeId} (h:NumL L k W v n) (hk:W.heap[B]? =some (Obj.cells #[.bool b0,.slice A1 n1 c1,.slice A2 n2 c2] t)):
  NumL L k (((W.setCell ⟨B,0,none⟩ u0).setCell ⟨B,1,none⟩ u1).setCell ⟨B,2,none⟩ u2) v n:=by
 obtain⟨A,c,z,o,p,r,q⟩:=h;refine⟨A,c,z,o,p,r,λl=>?_⟩;obtain⟨b,f,s,x,i,m⟩:=q l
 have g:b≠B:=by
  rintro rfl;have d:=m 0 l;rw[cell_of_row W b (f+0) _ t (0,0) hk]at d;unfold gv at d;rw[Nat.add_zero]at d
  match f,d with
  | 0,d=>simp at d
  | 1,d=>simp at d
  | 2,d=>simp at d
  | f+3,d=>simp at d
 refine⟨b,f,s,x,by simpa[World.setCell]using i,λj y=>(World.cell?_of_block ?_).trans (m j y)⟩;exact(Below.heap_setCell _ _ _ _ g).trans ((Below.heap_setCell _ _ _ _ g).trans (Below.heap_setCell _ _ _ _ g))
theorem qAu {W:World} {X:Nat} {v0 v1 v2 u0 u1 u2:Value} {t:TypeId} (h:W.heap[X]? =some (Obj.cells #[v0,v1,v2] t)):(((W.setCell ⟨X,0,none⟩ u0).setCell ⟨X,1,none⟩ u1).setCell ⟨X,2,none⟩ u2).heap[X]? =some (Obj.cells #[u0,u1,u2] t):=by
 simp only[World.setCell,Array.getElem?_modify,h];simp
theorem qAF {W:World} {X:Nat} {v0 v1 v2:Value} {t:TypeId} (h:W.heap[X]? =some (Obj.cells #[v0,v1,v2] t)):W.cell? ⟨X,0,none⟩=some v0/\W.cell? ⟨X,1,none⟩=some v1/\W.cell? ⟨X,2,none⟩=some v2/\W.frozen? ⟨X,0,none⟩=false/\W.frozen? ⟨X,1,none⟩=false/\W.frozen? ⟨X,2,none⟩=false:=
 ⟨cell_of_row W X 0 _ _ _ h,cell_of_row W X 1 _ _ _ h,cell_of_row W X 2 _ _ _ h,by simp[World.frozen?,h],by simp[World.frozen?,h],by simp[World.frozen?,h]⟩
theorem qBX {w W:World} {X:Nat} {u0 u1 u2:Value} (h:Le w W) (hX:w.heap.size<=X):Le w (((W.setCell ⟨X,0,none⟩ u0).setCell ⟨X,1,none⟩ u1).setCell ⟨X,2,none⟩ u2):=
 ((Below.setCell h (p:=⟨X,0,none⟩) hX _).setCell (p:=⟨X,1,none⟩) hX _).setCell (p:=⟨X,2,none⟩) hX _
theorem qD5 {L:Nat->Prop} {neg:Bool} {n d:Nat} {w W:World} {B:Nat} {t:TypeId} {An Ad:Option Addr} {cn cd ln ld:Nat} (hd:d≠0) (hle:Le w W) (hB:w.heap.size<=B)
  (hbx:W.heap[B]? =some (Obj.cells #[.bool false,.slice none 0 0,.slice none 0 0] t)) (hn:NumL L .u32 W (.slice An ln cn) (n / Nat.gcd n d)) (hdn:NumL L .u32 W (.slice Ad ld cd) (d / Nat.gcd n d)):
  RatL L .u32 (((W.setCell ⟨B,0,none⟩ (.bool (neg&&decide (0<n)))).setCell ⟨B,1,none⟩ (.slice An ln cn)).setCell ⟨B,2,none⟩ (.slice Ad ld cd)) (.agg #[.bool (neg&&decide (0<n)),.slice An ln cn,.slice Ad ld cd]) (mkR neg n d):=by
 refine⟨_,_,by rw[qEV _ _ _ hd],?_,?_⟩
 ·rw[qC8 _ _ _ hd];exact hn.box3 hbx
 ·rw[qDU _ _ _ hd];exact hdn.box3 hbx
theorem qEB (L:Nat->Prop) (neg:Bool) (n d:Nat) (vn vd:Value) (w:World) (hL:Up w L) (hn:NumL L .u32 w vn n) (hd:NumL L .u32 w vd d) (hd0:d≠0) (hmn:(dg n).length <=10000000) (hmd:(dg d).length <=10000000):
  Calls Tryz.prog 24 #[.bool neg,vn,vd] w λe w'=>∃v',e= .returned v'/\Le w w'/\RatL L .u32 w' v' (mkR neg n d):=by
 have au:=hn;have E:=hd;obtain⟨An,cn,rfl⟩:=hn.slice;obtain⟨Ad,cd,rfl⟩:=hd.slice;have⟨ar,al,a5,F,aj⟩:=hyd5 hn hd au E hL;clear hL E au hd hn;go_enter Tryz.func24,Tryz.ntmps24;go_wp2_with (fail);go_at_call 34;refine(qDO L n d _ _ _ (aj.out.le (qAA _ _)) (ar.out.le (qAA _ _)) (al.out.le (qAA _ _)) hmn hmd).mono ?_;rintro e w1 ⟨vg,rfl,U,hg⟩;obtain⟨o,ak⟩:=qAl U;obtain⟨G,x⟩:∃G,Nat.gcd n d=G:=⟨_,rfl⟩;have aH:0<G:=by rw[<-x];exact Nat.gcd_pos_of_pos_right _ (Nat.pos_of_ne_zero hd0)
 have ai:(dg G).length <=10000000:=by
  rw[<-x];have:=qFe n d (.inr hd0);omega
 have aw:n / G=0↔n=0:=by
  rw[<-x];constructor
  ·intro h;refine Nat.eq_zero_of_not_pos λhp=>?_;have h1:=Nat.div_pos (Nat.le_of_dvd hp (Nat.gcd_dvd_left n d)) (Nat.gcd_pos_of_pos_left d hp);omega
  ·intro h;rw[h,Nat.zero_div]
 rw[x]at hg;obtain⟨Ag,cg,rfl⟩:=hg.slice;have av:=ar.out.le o;have E:=al.out.le o;have I:=aj.out.le o;have⟨a4,r,k,R,N,F,B,O⟩:=hyd8 U o ak hg av E I aw;clear aw I E av hg ak o U;go_wp2_with (fail);go_at_call 32;refine(qDy L G _ w1 R.out).mono ?_;rintro e w2 ⟨rfl,rfl⟩
 by_cases j:G=1
 ·have ao:decide (G=1)=true:=by simpa using j
  obtain⟨c0,P,c2,f0,f1,f2⟩:=qAF k.out;have m:=qD5 (neg:=neg) hd0 r.out (Nat.le_refl _) k.out (by rw[x,j,Nat.div_one];exact N.out) (by rw[x,j,Nat.div_one];exact F.out);have q:=λu0 u1 u2=>qBX (u0:=u0) (u1:=u1) (u2:=u2) r.out (Nat.le_refl _);have C:=λu0 u1 u2=>qAF (qAu (u0:=u0) (u1:=u1) (u2:=u2) k.out);have⟨b,f,ay,ah,g⟩:=hyd5 m q x j C;clear C j x q m
  cases neg with
  | false=>
   go_wp2;obtain⟨y,z,A,-⟩:=g.out (.bool false) (.slice An (dg n).length cn) (.slice Ad (dg d).length cd);exact bodyPost_ret (v:= .agg #[.bool false,.slice An (dg n).length cn,.slice Ad (dg d).length cd]) (by simp[results,Tryz.results24,go_sem,y,z,A]) rfl ⟨_,rfl,f.out _ _ _,b.out⟩
  | true=>
   by_cases s:n=0
   ·have S:¬(0<((dg n).length :Int)):=by rw[s,qAI];simp
    have T:¬(0<(dg n).length):=by omega
    have c:=b.out;rw[show(true&&decide (0<n))=false by simp[s]]at c;clear b;have b:=hyd1 c;clear c;have Z:=hyd1 s;clear s;go_wp2;obtain⟨y,z,A,-⟩:=g.out (.bool false) (.slice An (dg n).length cn) (.slice Ad (dg d).length cd);exact bodyPost_ret (v:= .agg #[.bool false,.slice An (dg n).length cn,.slice Ad (dg d).length cd]) (by simp[results,Tryz.results24,go_sem,y,z,A]) rfl ⟨_,rfl,f.out _ _ _,b.out⟩
   ·have T:0<(dg n).length :=dg_length_pos.2 (s);have S:0<((dg n).length :Int):=by omega
    have c:=b.out;rw[show(true&&decide (0<n))=true by simp;omega]at c;clear b;have b:=hyd1 c;clear c;have Z:=hyd1 s;clear s;go_wp2;obtain⟨y,z,A,-⟩:=g.out (.bool true) (.slice An (dg n).length cn) (.slice Ad (dg d).length cd);exact bodyPost_ret (v:= .agg #[.bool true,.slice An (dg n).length cn,.slice Ad (dg d).length cd]) (by simp[results,Tryz.results24,go_sem,y,z,A]) rfl ⟨_,rfl,f.out _ _ _,b.out⟩
 ·have ao:decide (G=1)=false:=by simpa using j
  go_wp2_with (fail);go_at_call 46;refine(qE1 L n G _ _ w1 B.out N.out R.out hmn ai (by omega)).mono ?_;rintro e w2 ⟨v1,v2,rfl,i,hq,hr⟩;obtain⟨A1,P,rfl⟩:=hq.slice;obtain⟨A2,c2,rfl⟩:=hr.slice;have M:=(Below.block i _ (gsl k.out)).trans k.out;have am:=F.out.le i;have ap:=R.out.le i;have J:=B.out.le i;have⟨V,a2,aI,D,an,aq,Q⟩:=hyd7 i hq hr M am ap J;clear J ap am M hr hq i;go_wp2_with (fail);go_at_call 46;refine(qE1 L d G _ _ w2 Q.out an.out aq.out hmd ai (by omega)).mono ?_;rintro e w3 ⟨v1,v2,rfl,p,H,Y⟩;obtain⟨A3,c3,rfl⟩:=H.slice;obtain⟨A4,c4,rfl⟩:=Y.slice;have l:=(Below.block p _ (gsl D.out)).trans D.out;have X:=a2.out.le p;have t:=Le.trans (Le.trans r.out V.out) p;obtain⟨c0,e1,e2,f0,f1,f2⟩:=qAF l;have m:=qD5 (neg:=neg) hd0 t (Nat.le_refl _) l (by rw[x];exact X) (by rw[x];exact H);have q:=λu0 u1 u2=>qBX (u0:=u0) (u1:=u1) (u2:=u2) t (Nat.le_refl _);have C:=λu0 u1 u2=>qAF (qAu (u0:=u0) (u1:=u1) (u2:=u2) l);have⟨b,f,ay,ah,g,az,a7,a1⟩:=hyd8 m q x j C l X t;have⟨a0,a8,a9⟩:=hyd3 p H Y;clear Y H p t X l C j x q m
  cases neg with
  | false=>
   go_wp2;obtain⟨y,z,A,-⟩:=g.out (.bool false) (.slice A1 (dg (n / G)).length P) (.slice A3 (dg (d / G)).length c3);exact bodyPost_ret (v:= .agg #[.bool false,.slice A1 (dg (n / G)).length P,.slice A3 (dg (d / G)).length c3]) (by simp[results,Tryz.results24,go_sem,y,z,A]) rfl ⟨_,rfl,f.out _ _ _,b.out⟩
  | true=>
   by_cases s:n=0
   ·have S:¬(0<((dg (n / G)).length :Int)):=by rw[O.out.2 s,qAI];simp
    have T:¬(0<(dg (n / G)).length):=by omega
    have c:=b.out;rw[show(true&&decide (0<n))=false by simp[s]]at c;clear b;have b:=hyd1 c;clear c;have Z:=hyd1 s;clear s;go_wp2;obtain⟨y,z,A,-⟩:=g.out (.bool false) (.slice A1 (dg (n / G)).length P) (.slice A3 (dg (d / G)).length c3);exact bodyPost_ret (v:= .agg #[.bool false,.slice A1 (dg (n / G)).length P,.slice A3 (dg (d / G)).length c3]) (by simp[results,Tryz.results24,go_sem,y,z,A]) rfl ⟨_,rfl,f.out _ _ _,b.out⟩
   ·have T:0<(dg (n / G)).length :=dg_length_pos.2 (λh=>s (O.out.1 h));have S:0<((dg (n / G)).length :Int):=by omega
    have c:=b.out;rw[show(true&&decide (0<n))=true by simp;omega]at c;clear b;have b:=hyd1 c;clear c;have Z:=hyd1 s;clear s;go_wp2;obtain⟨y,z,A,-⟩:=g.out (.bool true) (.slice A1 (dg (n / G)).length P) (.slice A3 (dg (d / G)).length c3);exact bodyPost_ret (v:= .agg #[.bool true,.slice A1 (dg (n / G)).length P,.slice A3 (dg (d / G)).length c3]) (by simp[results,Tryz.results24,go_sem,y,z,A]) rfl ⟨_,rfl,f.out _ _ _,b.out⟩
theorem RatL.form {L:Nat->Prop} {k:IntKind} {w:World} {v:Value} {r:Rat} (h:RatL L k w v r):∃A1 c1 A2 c2,v= .agg #[.bool (rneg r),.slice A1 (dg (rnum r)).length c1,.slice A2 (dg r.den).length c2]/\NumL L k w (.slice A1 (dg (rnum r)).length c1) (rnum r)/\NumL L k w (.slice A2 (dg r.den).length c2) r.den:=by
 obtain⟨f,d,rfl,b,c⟩:=h;obtain⟨A1,c1,rfl⟩:=b.slice;obtain⟨A2,c2,rfl⟩:=c.slice;exact⟨A1,c1,A2,c2,rfl,b,c⟩
def Rsz (r:Rat) (n:Nat):Prop:=(dg (rnum r)).length <=n/\(dg r.den).length <=n
end Go.Proofs.YtfmfefibadpobaaGreatDoor

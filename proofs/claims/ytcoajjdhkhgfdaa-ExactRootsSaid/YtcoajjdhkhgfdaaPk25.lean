/- Integers: minus. (The region between --@ARM and --@END is printed by gen_poly.py.) -/
import Derived.Test.YtcoajjdhkhgfdaaPk24
namespace Go.Proofs.Ytcoajjdhkhgfdaa
set_option maxRecDepth 100000
set_option maxHeartbeats 1000000
open Go.RowKit Go.Shelf
set_option linter.unusedVariables false
set_option linter.unusedSimpArgs false
def MPred.bn (b:Bool) (n:Nat):MPred:=⟨λv w=>∃A m c,v= .agg #[.bool b,.slice A m c]/\NumL (λ_=>True) .u32 w (.slice A m c) n,λ_ _ _ hb ⟨A,m,c,e,h⟩=>⟨A,m,c,e,h.le hb⟩⟩
theorem qHO (a b:Int) (va vb:Value) (w:World) (ha:IntL w va a) (hb:IntL w vb b) (hma:Isz a 90000000) (hmb:Isz b 90000000):
  Calls Try.prog 54 #[va,vb] w λe w'=>∃v',e= .returned v'/\Le w w'/\IntL w' v' (a - b):=by
 obtain⟨A1,n1,c1,rfl,a7⟩:=ha;obtain⟨A2,n2,c2,rfl,a8⟩:=hb;obtain⟨W1,aP,V,k1⟩:=enew w (.cells #[.bool (decide (a<0)),.slice A1 n1 c1] 84);obtain⟨W2,aQ,X,k2⟩:=enew W1 (.cells #[.bool (decide (b<0)),.slice A2 n2 c2] 84);obtain⟨W3,be,ao,k3⟩:=enew W2 (.cells #[.bool false,.slice none 0 0] 84);have aj:=(ao.block _ (gsl ((X.block _ (gsl k1)).trans k1))).trans ((X.block _ (gsl k1)).trans k1);have ak:=(ao.block _ (gsl k2)).trans k2;have M:Le w W3:=(V.trans (X.mono V.size)).trans (ao.mono (V.trans (X.mono V.size)).size);obtain⟨sa,ar⟩:∃s,decide (a<0)=s:=⟨_,rfl⟩;obtain⟨sb,au⟩:∃s,decide (b<0)=s:=⟨_,rfl⟩;rw[ar]at aj aP ⊢;rw[au]at ak aQ ⊢;obtain⟨I,bN⟩:∃x,w.heap.size=x:=⟨_,rfl⟩;obtain⟨x1,bO⟩:∃x,W1.heap.size=x:=⟨_,rfl⟩;obtain⟨x2,bP⟩:∃x,W2.heap.size=x:=⟨_,rfl⟩;have a3:w.heap.size<=x2:=by have:=V.size;have:=X.size;omega
 rw[bN]at aj;rw[bO]at ak;rw[bP]at k3;have aC:n1=(dg a.natAbs).length :=a7.len;have aR:n2=(dg b.natAbs).length :=a8.len;have aS:(0<n1)↔a.natAbs≠0:=by rw[aC,dg_length_pos]
 have p0:W3.cell? ⟨I,0,none⟩=some (.bool sa):=cell_of_row W3 I 0 _ _ _ aj;have p1:W3.cell? ⟨I,1,none⟩=some (.slice A1 n1 c1):=cell_of_row W3 I 1 _ _ _ aj;have q0:W3.cell? ⟨x1,0,none⟩=some (.bool sb):=cell_of_row W3 x1 0 _ _ _ ak;have q1:W3.cell? ⟨x1,1,none⟩=some (.slice A2 n2 c2):=cell_of_row W3 x1 1 _ _ _ ak;have N:=a7.le M;have S:=a8.le M;obtain⟨z,hz⟩:∃z,a - b=z:=⟨_,rfl⟩;rw[hz]
 by_cases bg:sa=sb
 ·subst bg;have E:(a<0)↔(b<0):=by rw[<-decide_eq_decide,ar,au]
  have kc:=qCq (λ_=>True) a.natAbs b.natAbs _ _ W3 N S (Nat.le_trans hma (by decide)) (Nat.le_trans hmb (by decide));have⟨b1,b2,bt,bu,bv,bQ,bR,az⟩:=hyd8 a7 a8 V X ao k1 k2 k3;have⟨F,G,ab,bi,av,aJ,bz,b0⟩:=hyd8 aj ak M kc hz au aC aR;have⟨b6,aF,aH,j⟩:=hyd4 aS N S E;clear E S N aS aR aC au hz kc M ak aj k3 k2 k1 ao X V a8 a7;have ai:=hyd1 ar;clear ar;go_enter Try.func54,Try.ntmps54;go_wp2_with (fail);clear aP aQ be;go_at_call 81;refine bi.out.mono ?_;rintro e W4 ⟨c,rfl,o,a6,-⟩;have aw:=(o.block _ (gsl F.out)).trans F.out;have ax:=(o.block _ (gsl G.out)).trans G.out;have aM:=(o.block _ (gsl az.out)).trans az.out;have Y:Le w W4:=(show Le w W3 from ab.out).trans o;have O:=aF.out.le o;have T:=aH.out.le o;have p0:W4.cell? ⟨I,0,none⟩=some (.bool sa):=cell_of_row W4 I 0 _ _ _ aw;have p1:W4.cell? ⟨I,1,none⟩=some (.slice A1 n1 c1):=cell_of_row W4 I 1 _ _ _ aw;have q0:W4.cell? ⟨x1,0,none⟩=some (.bool sa):=cell_of_row W4 x1 0 _ _ _ ax;have q1:W4.cell? ⟨x1,1,none⟩=some (.slice A2 n2 c2):=cell_of_row W4 x1 1 _ _ _ ax;have l1:=gsl aw;have l2:=gsl ax;have l3:=gsl aM
  by_cases ah:a.natAbs<b.natAbs
  ·have hc:c<0:=a6.2 ah;have k:z.natAbs=b.natAbs - a.natAbs:=by have:=av.out;have:=j.out;omega
   have b3:(!sa)=decide (z<0):=by
    have h1:=j.out;have h2:=av.out;have h3:=ai.out
    cases sa with
    | true=>
     have:a<0:=of_decide_eq_true h3;have:¬z<0:=by omega
     rw[decide_eq_false this];rfl
    | false=>
     have:¬a<0:=of_decide_eq_false h3;have:z<0:=by omega
     rw[decide_eq_true this];rfl
   obtain⟨B,hB⟩:∃n,b.natAbs=n:=⟨_,rfl⟩;obtain⟨A,hA⟩:∃n,a.natAbs=n:=⟨_,rfl⟩;rw[hA]at O k ah;rw[hB]at T k ah;have bM:(dg B).length <=100000000:=by rw[<-hB];exact Nat.le_trans hmb (by decide)
   have⟨bf,bw,aK,b7,al,Z,aG,aI⟩:=hyd8 o a6 aw ax aM Y O T;have⟨aq,b4,cr,cs,aB⟩:=hyd5 k b3 hA hB ah;clear ah hB hA b3 k T O Y aM ax aw a6 o;go_wp2_with (fail);have⟨bU,bV,cw,bW⟩:=hyd4 p0 p1 q0 q1;clear q1 q0 p1 p0;refine qAV (R:=leRel) 9 [some 45,some 46,some 47,some 48,some 49,some 50,some 51,some 52,some 53,none] [[],[0],[1],[],[3],[],[5],[4,6],[2,7],[8]]
    [.eq (.pointer (some ⟨I,0,none⟩)),.eq (.bool sa),.eq (.bool (!sa)),.eq (.pointer (some ⟨x1,1,none⟩)),.eq (.slice A2 n2 c2),.eq (.pointer (some ⟨I,1,none⟩)),.eq (.slice A1 n1 c1),MPred.num (λ_=>True) .u32 (B - A),MPred.bn (!sa) (B - A)] (λ_ _=>False) (by kernel_rfl) (by kernel_rfl) (by kernel_rfl) (by kernel_rfl) (by kernel_rfl) ?_ (λ_ _ _ _ h=>h.elim) ?_
   ·simp only[List.take_succ_cons,List.take_zero];refine sMc rfl ?_ (sMc rfl ?_ (sMc rfl ?_ (sMc rfl ?_ (sMc rfl ?_ (sMc rfl ?_ (sMc rfl ?_ (sMc rfl ?_ (sMc rfl ?_ (qA2)))))))))
    ·intro xv W H hf Q hK t;simp only[fA]at hK ⊢;go_wp2;exact hK _ _ lrR rfl
    ·intro xv W H hf Q hK t;obtain⟨e0,-⟩:=hf;change _=_ at e0;have t0:=(Below.cell H (p:=⟨I,0,none⟩) l1).trans bU.out;simp only[fA,e0]at hK ⊢;go_wp2;exact hK _ _ lrR rfl
    ·intro xv W H hf Q hK t;obtain⟨e0,-⟩:=hf;change _=_ at e0;simp only[fA,e0]at hK ⊢;go_wp2;exact hK _ _ lrR rfl
    ·intro xv W H hf Q hK t;simp only[fA]at hK ⊢;go_wp2;exact hK _ _ lrR rfl
    ·intro xv W H hf Q hK t;obtain⟨e0,-⟩:=hf;change _=_ at e0;have t0:=(Below.cell H (p:=⟨x1,1,none⟩) l2).trans bW.out;simp only[fA,e0]at hK ⊢;go_wp2;exact hK _ _ lrR rfl
    ·intro xv W H hf Q hK t;simp only[fA]at hK ⊢;go_wp2;exact hK _ _ lrR rfl
    ·intro xv W H hf Q hK t;obtain⟨e0,-⟩:=hf;change _=_ at e0;have t0:=(Below.cell H (p:=⟨I,1,none⟩) l1).trans bV.out;simp only[fA,e0]at hK ⊢;go_wp2;exact hK _ _ lrR rfl
    ·intro xv W H hf Q hK t;obtain⟨e0,e1,-⟩:=hf;change _=_ at e0 e1;simp only[fA,e0,e1]at hK ⊢;have kc:=qEX (λ_=>True) B A _ _ W (Up.any _) (aI.out.le H) (aG.out.le H) (Nat.le_of_lt aB.out) bM;have bi:=hyd1 kc;clear kc;go_wp2_with (fail);go_at_call 82;refine bi.out.mono ?_;rintro e w' ⟨v',rfl,y1,y2⟩;have⟨bX,bY⟩:=hyd2 y1 y2;clear y2 y1;go_wp2;exact hK _ _ bX.out bY.out
    ·intro xv W H hf Q hK t;obtain⟨e0,e1,-⟩:=hf;change _=_ at e0;replace e1:NumL (λ_=>True) .u32 W (xv 7) (B - A):=e1;have e9:=e1;obtain⟨A9,c9,q9⟩:=e1.slice;rw[q9]at e9;simp only[fA,e0,q9]at hK ⊢;have bK:=hyd1 e9;clear e9;go_wp2;exact hK _ _ lrR ⟨_,_,_,rfl,bK.out⟩
   intro xv W H hf Q' bs _;obtain⟨A3,m3,c3,qv,f8⟩:=hf 8 (by decide);simp only[List.drop_succ_cons,List.drop_zero];rw[show List.range 9=[0,1,2,3,4,5,6,7,8]from rfl];simp only[fA,qv];clear hf;clear qv;have f:=(H.block _ l3).trans al.out;have t0:W.cell? ⟨x2,0,none⟩=some (.bool false):=cell_of_row W x2 0 _ _ _ f;have t1:W.cell? ⟨x2,1,none⟩=some (.slice none 0 0):=cell_of_row W x2 1 _ _ _ f;have⟨w0,w1⟩:=frz2 f;have⟨br,bd,U⟩:=hyd3 f8 H f;clear f H f8;go_wp2;refine bs _ _ ?_;clear bs t0 t1 w0 w1;have f8:=br.out;have H:=bd.out;clear br bd U;have d:Le w W:=(show Le w W4 from Z.out).trans H;have f:=(H.block _ l3).trans al.out;have bh:NumL (λ_=>True) .u32 W (.slice A3 m3 c3) z.natAbs:=by rw[aq.out];exact f8
   obtain⟨g1,g2,C,D⟩:=qCS (b:= !sa) (z:=z) d a3 f (qAO _) (qAF _ _ _) bh b4.out;have⟨bd,ac,U,cg,J,L⟩:=hyd6 H d f bh g1 g2;clear g2 g1 bh f d H;go_wp2;exact bodyPost_ret (v:= .agg #[.bool (!sa),.slice A3 m3 c3]) (by simp[results,Try.results54,go_sem,C,D]) rfl ⟨_,rfl,J.out,L.out⟩
  ·have hc:¬c<0:=λh=>ah (a6.1 h);have k:z.natAbs=a.natAbs - b.natAbs:=by have:=av.out;have:=j.out;omega
   have km:=qEX (λ_=>True) a.natAbs b.natAbs _ _ W4 (Up.any _) O T (by omega) (Nat.le_trans hma (by decide));rw[<-k]at km;have ct:decide (c<0)=false:=decide_eq_false hc;have⟨bf,bw,aK,b7,al,Z,aG,aI⟩:=hyd8 o a6 aw ax aM Y O T;have⟨aq,bT,aB⟩:=hyd3 k km ah;clear ah km k T O Y aM ax aw a6 o;go_wp2_with (fail);clear p0 p1 q0 q1;go_at_call 82;refine bT.out.mono ?_;rintro e q ⟨v5,rfl,d,l⟩;obtain⟨A5,c5,rfl⟩:=l.slice;have m:=l;obtain⟨P,t⟩:∃P,(dg z.natAbs).length =P:=⟨_,rfl⟩;rw[t]at m ⊢;have y:(0<P)↔z≠0:=by rw[<-t,dg_length_pos];omega
   have r:=(d.block _ (gsl aK.out)).trans aK.out;have f:=(d.block _ (gsl al.out)).trans al.out;have g:Le w q:=(show Le w W4 from Z.out).trans d;have p0:q.cell? ⟨I,0,none⟩=some (.bool sa):=cell_of_row q I 0 _ _ _ r;have r0:q.cell? ⟨x2,0,none⟩=some (.bool false):=cell_of_row q x2 0 _ _ _ f;have r1:q.cell? ⟨x2,1,none⟩=some (.slice none 0 0):=cell_of_row q x2 1 _ _ _ f;have⟨f0,f1⟩:=frz2 f;have i:=λb h=>qCS (b:=b) (z:=z) g a3 f (qAO _) (qAF _ _ _) m h;have h1:=j.out;have h2:=av.out;have h3:=ai.out;have h4:=aB.out
   cases sa with
   | true=>
    have h5:a<0:=of_decide_eq_true h3;obtain⟨g1,g2,C,D⟩:=i (decide (0<P)) (decide_eq_decide.2 (by rw[y];omega));have⟨ac,aD,aE,bc,aA,aL,U,aa⟩:=hyd8 d l m t y r f g;have⟨ap,J,L,ad,ae⟩:=hyd5 i g1 g2 C D;clear D C g2 g1 i g f r y t m l d;clear h1 h2 h3 h4 h5;go_wp2;have C:=ad.out;have D:=ae.out;exact bodyPost_ret (v:= .agg #[.bool (decide (0<P)),.slice A5 P c5]) (by simp[results,Try.results54,go_sem,C,D]) rfl ⟨_,rfl,J.out,L.out⟩
   | false=>
    have h5:¬a<0:=of_decide_eq_false h3;obtain⟨g1,g2,C,D⟩:=i false (by rw[decide_eq_false (by omega)]);have⟨ac,aD,aE,bc,aA,aL,U,aa⟩:=hyd8 d l m t y r f g;have⟨ap,J,L,ad,ae⟩:=hyd5 i g1 g2 C D;clear D C g2 g1 i g f r y t m l d;clear h1 h2 h3 h4 h5;go_wp2;have C:=ad.out;have D:=ae.out;exact bodyPost_ret (v:= .agg #[.bool false,.slice A5 P c5]) (by simp[results,Try.results54,go_sem,C,D]) rfl ⟨_,rfl,J.out,L.out⟩
 ·have E:(a<0)↔¬(b<0):=by
   rw[<-decide_eq_true_iff (p:=a<0),<-decide_eq_true_iff (p:=b<0),ar,au]
   cases sa<;>cases sb<;>simp at bg ⊢
  have k:z.natAbs=a.natAbs+b.natAbs:=by omega
  have kp:=qIp (λ_=>True) a.natAbs b.natAbs _ _ W3 (Up.any _) N S (Nat.le_trans hma (by decide)) (Nat.le_trans hmb (by decide));rw[<-k]at kp;have aT:(sa != sb)=true:=by simpa using bg
  have⟨b1,b2,bt,bu,bv,bQ,bR,az⟩:=hyd8 a7 a8 V X ao k1 k2 k3;have⟨F,G,ab,bB,av,aJ,bz,b0⟩:=hyd8 aj ak M kp hz au aC aR;have⟨b6,aF,aH,j,aq⟩:=hyd5 aS N S E k;clear k E S N aS aR aC au hz kp M ak aj k3 k2 k1 ao X V a8 a7;have ai:=hyd1 ar;clear ar
  cases sa with
  | true=>
   obtain rfl:sb=false:=by cases sb<;>simp at aT ⊢
   go_enter Try.func54,Try.ntmps54;go_wp2_with (fail);clear aP aQ be;go_at_call 80;refine bB.out.mono ?_;rintro e q ⟨v5,rfl,d,l⟩;obtain⟨A5,c5,rfl⟩:=l.slice;have m:=l;obtain⟨P,t⟩:∃P,(dg z.natAbs).length =P:=⟨_,rfl⟩;rw[t]at m ⊢;have y:(0<P)↔z≠0:=by rw[<-t,dg_length_pos];omega
   have r:=(d.block _ (gsl F.out)).trans F.out;have ay:=(d.block _ (gsl G.out)).trans G.out;have f:=(d.block _ (gsl az.out)).trans az.out;have g:Le w q:=(show Le w W3 from ab.out).trans d;have p0:q.cell? ⟨I,0,none⟩=some (.bool true):=cell_of_row q I 0 _ _ _ r;have p1:q.cell? ⟨I,1,none⟩=some (.slice A1 n1 c1):=cell_of_row q I 1 _ _ _ r;have q0:q.cell? ⟨x1,0,none⟩=some (.bool false):=cell_of_row q x1 0 _ _ _ ay;have r0:q.cell? ⟨x2,0,none⟩=some (.bool false):=cell_of_row q x2 0 _ _ _ f;have r1:q.cell? ⟨x2,1,none⟩=some (.slice none 0 0):=cell_of_row q x2 1 _ _ _ f;have⟨f0,f1⟩:=frz2 f;have i:=λb h=>qCS (b:=b) (z:=z) g a3 f (qAO _) (qAF _ _ _) m h;have h1:=j.out;have h2:=av.out;have h3:=ai.out;have h4:=aJ.out;have h5:a<0:=of_decide_eq_true h3;obtain⟨g1,g2,C,D⟩:=i (decide (0<P)) (decide_eq_decide.2 (by rw[y];omega));have⟨ac,aD,aE,bc,aA,aL,b8,U⟩:=hyd8 d l m t y r ay f;have⟨aa,ap,J,L,ad,ae⟩:=hyd6 g i g1 g2 C D;clear D C g2 g1 i g f ay r y t m l d;clear h1 h2 h3 h4 h5;go_wp2;have C:=ad.out;have D:=ae.out;exact bodyPost_ret (v:= .agg #[.bool (decide (0<P)),.slice A5 P c5]) (by simp[results,Try.results54,go_sem,C,D]) rfl ⟨_,rfl,J.out,L.out⟩
  | false=>
   obtain rfl:sb=true:=by cases sb<;>simp at aT ⊢
   go_enter Try.func54,Try.ntmps54;go_wp2_with (fail);clear aP aQ be;go_at_call 80;refine bB.out.mono ?_;rintro e q ⟨v5,rfl,d,l⟩;obtain⟨A5,c5,rfl⟩:=l.slice;have m:=l;obtain⟨P,t⟩:∃P,(dg z.natAbs).length =P:=⟨_,rfl⟩;rw[t]at m ⊢;have y:(0<P)↔z≠0:=by rw[<-t,dg_length_pos];omega
   have r:=(d.block _ (gsl F.out)).trans F.out;have ay:=(d.block _ (gsl G.out)).trans G.out;have f:=(d.block _ (gsl az.out)).trans az.out;have g:Le w q:=(show Le w W3 from ab.out).trans d;have p0:q.cell? ⟨I,0,none⟩=some (.bool false):=cell_of_row q I 0 _ _ _ r;have p1:q.cell? ⟨I,1,none⟩=some (.slice A1 n1 c1):=cell_of_row q I 1 _ _ _ r;have q0:q.cell? ⟨x1,0,none⟩=some (.bool true):=cell_of_row q x1 0 _ _ _ ay;have r0:q.cell? ⟨x2,0,none⟩=some (.bool false):=cell_of_row q x2 0 _ _ _ f;have r1:q.cell? ⟨x2,1,none⟩=some (.slice none 0 0):=cell_of_row q x2 1 _ _ _ f;have⟨f0,f1⟩:=frz2 f;have i:=λb h=>qCS (b:=b) (z:=z) g a3 f (qAO _) (qAF _ _ _) m h;have h1:=j.out;have h2:=av.out;have h3:=ai.out;have h4:=aJ.out;have h5:¬a<0:=of_decide_eq_false h3;obtain⟨g1,g2,C,D⟩:=i false (by rw[decide_eq_false (by omega)]);have⟨ac,aD,aE,bc,aA,aL,b8,U⟩:=hyd8 d l m t y r ay f;have⟨aa,ap,J,L,ad,ae⟩:=hyd6 g i g1 g2 C D;clear D C g2 g1 i g f ay r y t m l d;clear h1 h2 h3 h4 h5
   by_cases bx:n1=0
   ·subst bx;go_wp2;have C:=ad.out;have D:=ae.out;exact bodyPost_ret (v:= .agg #[.bool false,.slice A5 P c5]) (by simp[results,Try.results54,go_sem,C,D]) rfl ⟨_,rfl,J.out,L.out⟩
   ·have j1:((n1:Int)==0)=false:=by simpa using bx
    go_wp2;have C:=ad.out;have D:=ae.out;exact bodyPost_ret (v:= .agg #[.bool false,.slice A5 P c5]) (by simp[results,Try.results54,go_sem,C,D]) rfl ⟨_,rfl,J.out,L.out⟩
end Go.Proofs.Ytcoajjdhkhgfdaa

/- Polynomials, the reference: TimesPoly. (The regions between --@ARM and --@END are printed by gen_polyr.py.) -/
import Derived.Test.YtcoajjdhkhgfdaaGreatPk41
namespace Go.Proofs.YtcoajjdhkhgfdaaGreat
set_option maxRecDepth 100000
set_option maxHeartbeats 1000000
open Go.RowKit Go.Shelf
set_option linter.unusedVariables false
set_option linter.unusedSimpArgs false
def tq (X Y:List Rat) (i:Nat):Nat->Rat
 | 0=>0
 | k+1=>tq X Y i k+X.getD k 0*Y.getD (i - k) 0
def tqL (X Y:List Rat) (n:Nat):List Rat:=(List.range n).map λi=>tq X Y i (i+1)
theorem qLh (X Y:List Rat) (n:Nat):(tqL X Y n).length =n:=by unfold tqL;rw[List.length_map,List.length_range]
theorem qLB (X Y:List Rat) (n:Nat):tqL X Y (n+1)=tqL X Y n++[tq X Y n (n+1)]:=by
 unfold tqL;rw[List.range_succ,List.map_append]
 rfl
def qB4 (X Y:List Rat):List Rat:=if X.length=0∨Y.length=0 then[]else cutz (tqL X Y (X.length+Y.length - 1))
theorem qLR {X Y:List Rat} {m:Nat} (hX:∀r∈X,Rsz r m) (hY:∀r∈Y,Rsz r m) (hm:1<=m) (i:Nat):∀k,Rsz (tq X Y i k) (1+k*(m+m+1))
 | 0=>by unfold tq;exact qAN qEZ (by omega)
 | k+1=>by
  have ih:=qLR hX hY hm i k;unfold tq;exact qAN (qHw ih (qCg (qBS hX hm _) (qBS hY hm _))) (by rw[Nat.add_mul];omega)
theorem qBH {l:List Rat} {k:Nat} (h:¬k<l.length):l.getD k 0=0:=by rw[List.getD_eq_getElem?_getD,List.getElem?_eq_none (by omega)];rfl
theorem qIs {X Y:List Rat} {i k:Nat} (h:¬(k<X.length/\i - k<Y.length)):tq X Y i (k+1)=tq X Y i k:=by
 have:X.getD k 0*Y.getD (i - k) 0=0:=by
  by_cases b:k<X.length
  ·rw[qBH (l:=Y) (k:=i - k) (λc=>h ⟨b,c⟩),Rat.mul_zero]
  ·rw[qBH b,Rat.zero_mul]
 show tq X Y i k+X.getD k 0*Y.getD (i - k) 0=_
 rw[this,Rat.add_zero]
theorem qGn (vx vy:Value) (X Y:List Rat) (w:World) (hx:RowE (ratK .i64) 93 0 w vx X) (hy:RowE (ratK .i64) 93 0 w vy Y) (hlx:X.length<=65) (hly:Y.length<=65) (hsx:∀r∈X,Rsz r 40) (hsy:∀r∈Y,Rsz r 40):
  Calls Tryz.prog 36 #[vx,vy] w λe w'=>∃v',e= .returned v'/\Le w w'/\RowE (ratK .i64) 93 w.heap.size w' v' (qB4 X Y):=by
 have L:=qEF;obtain⟨AX,cX,rfl⟩:=hx.slice;obtain⟨AY,cY,rfl⟩:=hy.slice;obtain⟨nX,M⟩:∃n,X.length=n:=⟨_,rfl⟩;obtain⟨nY,N⟩:∃n,Y.length=n:=⟨_,rfl⟩
 by_cases h0:nX=0∨nY=0
 ·have hm:qB4 X Y=[]:=by unfold qB4;rw[if_pos (by rw[M,N];exact h0)]
  rw[hm];rw[M]at hx ⊢;rw[N]at hy ⊢;have⟨b0,b1,a3,a4,ak,al,cI,ai⟩:=hyd8 hx hy hsx hsy M N hm L;clear L hm N M hsy hsx hy hx;go_enter Tryz.func36,Tryz.ntmps36
  by_cases aO:nX=0
  ·subst aO;go_wp2;go_ret;exact⟨_,rfl,Le.refl _,RowE.nil _ _ _ _⟩
  ·have b2:nY=0:=by omega
   subst b2;have j1:((nX:Int)==0)=false:=by simpa using aO
   go_wp2;go_ret;exact⟨_,rfl,Le.refl _,RowE.nil _ _ _ _⟩
 ·have aO:¬nX=0:=by omega
  have b2:¬nY=0:=by omega
  obtain⟨n,hn⟩:∃n,nX+nY - 1=n:=⟨_,rfl⟩;have hm:qB4 X Y=cutz (tqL X Y n):=by unfold qB4;rw[if_neg (by rw[M,N];exact h0),M,N,hn]
  rw[hm];rw[M]at hx hlx ⊢;rw[N]at hy hly ⊢;have j1:((nX:Int)==0)=false:=by simpa using aO
  have j2:((nY:Int)==0)=false:=by simpa using b2
  have j3:(nX:Int)+(nY:Int) - 1=(n:Int):=by omega
  have ef:n<=200:=by omega
  have⟨b0,b1,a3,a4,ak,al,cI,ai⟩:=hyd8 hx hy hsx hsy M N hm L;have ee:=hyd1 hn;clear hn L hm N M hsy hsx hy hx;go_enter Tryz.func36,Tryz.ntmps36;go_wp2_with (fail);go_loopw [5,6] (λs i wr=>∃k:Nat,i= .int .i64 (k:Int)/\k<=n/\Hid (Below w.heap.size w wr)/\Hid (RowE (ratK .i64) 93 w.heap.size wr s (tqL X Y k))) (λ_ i _=>n - (intOf i).toNat)
  case atStart=>exact⟨0,rfl,Nat.zero_le _,Lib.hid (Below.refl _ _),Lib.hid (RowE.nil _ _ _ _)⟩
  case round=>
   obtain⟨i,rfl,hi,C,l⟩:=hrel;obtain⟨SA,sc,rfl⟩:=l.out.slice;have am:=qLh X Y i;rw[am]at l ⊢
   by_cases ed:i<n
   ·have kn:=qFk (λ_=>True) 0 wr (Up.any _) (by decide) (by decide);have j5:(i:Int)<(n:Int):=by omega
    have j6:(0:Int)<=(i:Int):=by omega
    have⟨D,o,cO,bc⟩:=hyd4 C l kn am;clear am kn l C;go_wp2_with (fail);go_at_call 71;refine cO.out.mono ?_;rintro e W1 ⟨v1,rfl,U,aK⟩;obtain⟨s4,A4,n4,c4,B4,m4,d4,rfl⟩:=aK.frm;obtain⟨W2,cD,aG,k2⟩:=enew W1 (.cells #[.bool s4,.slice A4 n4 c4,.slice B4 m4 d4] 93);obtain⟨f,cE⟩:∃b,W1.heap.size=b:=⟨_,rfl⟩;rw[cE]at k2;have aj:Le wr W2:=U.trans aG;have ah:Below w.heap.size w W2:=D.out.out.trans (aj.mono D.out.out.size);have ax:=o.out.out.le aj;have bV:=b0.out.le ah;have bY:=b1.out.le ah
    have ch:RatL (λ_=>True) .i64 W2 (.agg #[.bool s4,.slice A4 n4 c4,.slice B4 m4 d4]) (tq X Y i 0):=by
     have:=aK.le aG;simpa[tq]using this
    have bU:w.heap.size<=f:=by have:=D.out.out.size;have:=U.size;omega
    have bD:∀b,(Value.slice SA i sc).ownBlock =some b->b≠f:=λb C e=>by have:=(o.out.out.nib C).2.1;have:=U.size;omega
    have bF:∀b,(Value.slice AX nX cX).ownBlock =some b->b≠f:=λb C e=>by have:=(b0.out.nib C).2.1;omega
    have bH:∀b,(Value.slice AY nY cY).ownBlock =some b->b≠f:=λb C e=>by have:=(b1.out.nib C).2.1;omega
    have⟨cF,d0,dw,cN,cG,bp,aL,bW⟩:=hyd8 U aK aG k2 aj ah ax bV;have⟨bZ,ci,bE,bG⟩:=hyd4 bY ch bD bF;clear bF bD ch bY bV ax ah aj k2 aG aK U;have bI:=hyd1 bH;clear bH;go_wp2_with (fail);clear cD;rename World=>wz
    go_loopw [8] (λj wr=>∃(k:Nat) (s A n c B m d:_),j= .int .i64 (k:Int)/\k<=i+1/\Hid (Below w.heap.size w wr)/\Hid (RowE (ratK .i64) 93 w.heap.size wr (.slice SA i sc) (tqL X Y i))/\Hid (RowE (ratK .i64) 93 0 wr (.slice AX nX cX) X)/\Hid (RowE (ratK .i64) 93 0 wr (.slice AY nY cY) Y)∧
     Hid (wr.heap[f]? =some (.cells #[.bool s,.slice A n c,.slice B m d] 93))/\Hid (RatL (λ_=>True) .i64 wr (.agg #[.bool s,.slice A n c,.slice B m d]) (tq X Y i k))) (λj _=>i+1 - (intOf j).toNat)
    case atStart=>exact⟨0,s4,A4,n4,c4,B4,m4,d4,rfl,Nat.zero_le _,bp,aL,bW,bZ,cN,ci⟩
    case round=>
     obtain⟨k,s1,A1,n1,c1,B1,m1,d1,rfl,hk,C,l,S,T,ks,F⟩:=hrel
     by_cases ec:k<=i
     ·have j7:(k:Int)<=(i:Int):=by omega
      have j8:(0:Int)<=(k:Int):=by omega
      obtain⟨t,ht⟩:∃t,i - k=t:=⟨_,rfl⟩;have bx:(i:Int) - (k:Int)=(t:Int):=by omega
      by_cases bJ:k<nX
      ·have j9:(k:Int)<(nX:Int):=by omega
       by_cases bR:t<nY
       ·have cj:(t:Int)<(nY:Int):=by omega
        have eh:(0:Int)<=(t:Int):=by omega
        have bt:k<X.length:=by rw[ak.out];exact bJ
        have bz:t<Y.length:=by rw[al.out];exact bR
        obtain⟨gx,cx,y,-,br,-,-,cs,bO,hc⟩:=S.out.at bt;rw[ak.out]at y;injection y with y e2 e3;subst y e3;clear e2;obtain⟨gy,cy,y,-,bs,-,-,dY,be,au⟩:=T.out.at bz;rw[al.out]at y;injection y with y e2 e3;subst y e3;clear e2;have aQ:X.getD k 0=X[k]:=by rw[List.getD_eq_getElem?_getD,List.getElem?_eq_getElem bt];rfl
        have aS:Y.getD t 0=Y[t]:=by rw[List.getD_eq_getElem?_getD,List.getElem?_eq_getElem bz];rfl
        have a0:Rsz X[k] 40:=a3.out _ (List.getElem_mem bt);have a1:Rsz Y[t] 40:=a4.out _ (List.getElem_mem bz);have E:tq X Y i (k+1)=tq X Y i k+X.getD k 0*Y.getD t 0:=by rw[<-ht];rfl
        rw[aQ,aS]at E;generalize X[k]=a at bO aQ a0 E;generalize Y[t]=b at be aS a1 E;obtain⟨s5,A5,n5,c5,B5,m5,d5,rfl,b7⟩:=bO;obtain⟨s6,A6,n6,c6,B6,m6,d6,rfl,bA⟩:=be;have ac:=qLR a3.out a4.out (by decide) i k;obtain⟨l9,aI⟩:∃s,tq X Y i k=s:=⟨_,rfl⟩;rw[aI]at E ac;have bu:=F.out;rw[aI]at bu;have cb:Rsz a 5000000:=qAN a0 (by decide);have cd:Rsz b 5000000:=qAN a1 (by decide);have cf:Rsz l9 2000000:=qAN ac (by omega);have bi:Rsz (a*b) 2000000:=qAN (qCg a0 a1) (by decide);have x0:wr.cell? ⟨gx,k*3,none⟩=some (.bool s5):=hc 0 _ rfl;have x1:wr.cell? ⟨gx,k*3+1,none⟩=some (.slice A5 n5 c5):=hc 1 _ rfl;have x2:wr.cell? ⟨gx,k*3+2,none⟩=some (.slice B5 m5 d5):=hc 2 _ rfl;have y0:wr.cell? ⟨gy,t*3,none⟩=some (.bool s6):=au 0 _ rfl;have y1:wr.cell? ⟨gy,t*3+1,none⟩=some (.slice A6 n6 c6):=au 1 _ rfl;have y2:wr.cell? ⟨gy,t*3+2,none⟩=some (.slice B6 m6 d6):=au 2 _ rfl;have z0:wr.cell? ⟨f,0,none⟩=some (.bool s1):=cell_of_row wr f 0 _ _ _ ks.out;have z1:wr.cell? ⟨f,1,none⟩=some (.slice A1 n1 c1):=cell_of_row wr f 1 _ _ _ ks.out;have z2:wr.cell? ⟨f,2,none⟩=some (.slice B1 m1 d1):=cell_of_row wr f 2 _ _ _ ks.out;have Z:=gsl ks.out;have⟨D,o,I,J,ae,a2,eb,dy⟩:=hyd8 C l S T ks F hc au;have⟨aJ,d9,dA,d2⟩:=hyd4 E aQ aS a0
        clear a0 aS aQ E au hc F ks T S l C;have⟨d7,b8,bB,bf,dz,bK,cc,ce⟩:=hyd8 a1 b7 bA ac aI bu cb cd;have⟨cg,b4,cZ,da⟩:=hyd4 cf bi x0 x1;clear x1 x0 bi cf cd cb bu aI ac bA b7 a1;have⟨db,dc,a6,a7,cn,co,cp,a5⟩:=hyd8 x2 y0 y1 y2 z0 z1 z2 bx;have bQ:=hyd1 ht;clear ht bx z2 z1 z0 y2 y1 y0 x2;have bx:=a5.out;go_wp2_with (fail);have cj:=a5.out;refine qAW (R:=leRel) 13 [some 45,some 46,some 47,some 48,some 49,some 50,some 51,some 52,some 53,some 54,some 55,some 56,some 57,none] [[],[],[],[1,2],[3],[],[],[],[6,7],[5,8],[9],[4,10],[0,11],[12]]
         [.eq (.agg #[.bool s1,.slice A1 n1 c1,.slice B1 m1 d1]),.eq (.slice (some ⟨gx,0,none⟩) nX cX),.eq (.int .i64 (k:Int)),.eq (.pointer (some ⟨gx,k*3,none⟩)),.eq (.agg #[.bool s5,.slice A5 n5 c5,.slice B5 m5 d5]),.eq (.slice (some ⟨gy,0,none⟩) nY cY),.eq (.int .i64 (i:Int)),.eq (.int .i64 (k:Int)),.eq (.int .i64 (t:Int)),.eq (.pointer (some ⟨gy,t*3,none⟩)),.eq (.agg #[.bool s6,.slice A6 n6 c6,.slice B6 m6 d6]),MPred.ratW (a*b),MPred.ratW (l9+a*b)] (λ_ _=>False) (by kernel_rfl) (by kernel_rfl) (by kernel_rfl) (by kernel_rfl) (by kernel_rfl) ?_ (λ_ _ _ _ h=>h.elim) ?_
        ·simp only[List.take_succ_cons,List.take_zero];refine sMc rfl ?_ (sMc rfl ?_ (sMc rfl ?_ (sMc rfl ?_ (sMc rfl ?_ (sMc rfl ?_ (sMc rfl ?_ (sMc rfl ?_ (sMc rfl ?_ (sMc rfl ?_ (sMc rfl ?_ (sMc rfl ?_ (sMc rfl ?_ (qA0)))))))))))))
         ·intro xv W q G Q hK hP;have t0:=(Below.cell q (p:=⟨f,0,none⟩) Z).trans cn.out;have t1:=(Below.cell q (p:=⟨f,1,none⟩) Z).trans co.out;have t2:=(Below.cell q (p:=⟨f,2,none⟩) Z).trans cp.out;simp only[fA]at hK ⊢;go_wp2;exact hK _ _ lrR rfl
         ·intro xv W q G Q hK hP;simp only[fA]at hK ⊢;go_wp2;exact hK _ _ lrR rfl
         ·intro xv W q G Q hK hP;simp only[fA]at hK ⊢;go_wp2;exact hK _ _ lrR rfl
         ·intro xv W q G Q hK hP;obtain⟨H,y,-⟩:=G;change _=_ at H y;simp only[fA,H,y]at hK ⊢;go_wp2;exact hK _ _ lrR rfl
         ·intro xv W q G Q hK hP;obtain⟨H,-⟩:=G;change _=_ at H;have t0:=(Below.cell q (p:=⟨gx,k*3,none⟩) br).trans cZ.out;have t1:=(Below.cell q (p:=⟨gx,k*3+1,none⟩) br).trans da.out;have t2:=(Below.cell q (p:=⟨gx,k*3+2,none⟩) br).trans db.out;simp only[fA,H]at hK ⊢;go_wp2;exact hK _ _ lrR rfl
         ·intro xv W q G Q hK hP;simp only[fA]at hK ⊢;go_wp2;exact hK _ _ lrR rfl
         ·intro xv W q G Q hK hP;simp only[fA]at hK ⊢;go_wp2;exact hK _ _ lrR rfl
         ·intro xv W q G Q hK hP;simp only[fA]at hK ⊢;go_wp2;exact hK _ _ lrR rfl
         ·intro xv W q G Q hK hP;obtain⟨H,y,-⟩:=G;change _=_ at H y;have jj:=a5.out;simp only[fA,H,y]at hK ⊢;go_wp2;exact hK _ _ lrR (by show Value.int _ _=Value.int _ _;congr 1)
         ·intro xv W q G Q hK hP;obtain⟨H,y,-⟩:=G;change _=_ at H y;simp only[fA,H,y]at hK ⊢;go_wp2;exact hK _ _ lrR rfl
         ·intro xv W q G Q hK hP;obtain⟨H,-⟩:=G;change _=_ at H;have t0:=(Below.cell q (p:=⟨gy,t*3,none⟩) bs).trans dc.out;have t1:=(Below.cell q (p:=⟨gy,t*3+1,none⟩) bs).trans a6.out;have t2:=(Below.cell q (p:=⟨gy,t*3+2,none⟩) bs).trans a7.out;simp only[fA,H]at hK ⊢;go_wp2;exact hK _ _ lrR rfl
         ·intro xv W q G Q hK hP;obtain⟨H,y,-⟩:=G;change _=_ at H y;simp only[fA,H,y]at hK ⊢;have kc:=qEV (λ_=>True) a b _ _ W (Up.any _) (b8.out.le q) (bB.out.le q) cc.out ce.out;have b5:=hyd1 kc;clear kc;go_wp2_with (fail);go_at_call 72;refine b5.out.mono ?_;rintro e w' ⟨v',rfl,y1,y2⟩;obtain⟨vs,vA,vn,vc,vB,vm,vd,rfl⟩:=y2.frm;have⟨a6,a7⟩:=hyd2 y1 y2;clear y2 y1;go_wp2;exact hK _ _ a6.out a7.out
         ·intro xv W q G Q hK hP;obtain⟨H,y,-⟩:=G;change _=_ at H;replace y:RatL (λ_=>True) .i64 W (xv 11) (a*b):=y;obtain⟨ws,wA,wn,wc,wB,wm,wd,qw⟩:=y.frm;rw[qw]at y;simp only[fA,H,qw]at hK ⊢;have kc:=qDC (λ_=>True) l9 (a*b) _ _ W (Up.any _) (bK.out.le q) y cg.out b4.out;have⟨b5,dZ⟩:=hyd2 kc y;clear y kc;go_wp2_with (fail);go_at_call 67;refine b5.out.mono ?_;rintro e w' ⟨v',rfl,y1,y2⟩;obtain⟨vs,vA,vn,vc,vB,vm,vd,rfl⟩:=y2.frm;have⟨a6,a7⟩:=hyd2 y1 y2;clear y2 y1;go_wp2;exact hK _ _ a6.out a7.out
        intro xv W q G Q' b6 _;have aa:RatL (λ_=>True) .i64 W (xv 12) (l9+a*b):=G 12 (by decide);obtain⟨s3,A3,n3,c3,B3,m3,d3,qv⟩:=aa.frm;simp only[List.drop_succ_cons,List.drop_zero];rw[show List.range 13=[0,1,2,3,4,5,6,7,8,9,10,11,12]from rfl];simp only[fA,qv];clear G;rw[qv]at aa;clear qv;have t0:=(Below.cell q (p:=⟨f,0,none⟩) Z).trans cn.out;have t1:=(Below.cell q (p:=⟨f,1,none⟩) Z).trans co.out;have t2:=(Below.cell q (p:=⟨f,2,none⟩) Z).trans cp.out;have af:=(q.block f Z).trans ae.out.out;have⟨w0,w1,w2⟩:=frz3 af;have⟨aZ,bo,cm⟩:=hyd3 aa q af;clear af q aa;go_wp2;refine b6 _ _ ?_;clear b6 t0 t1 t2 w0 w1 w2;have aa:=aZ.out;have q:=bo.out;clear aZ bo cm;have af:=(q.block f Z).trans ae.out.out;have nb:NIB .i64 W f:=qLQ af;have av:=(qBQ (k:= .i64) [.bool s3,.slice A3 n3 c3,.slice B3 m3 d3] W 0 nb (λu hu=>by simp only[List.mem_cons,List.not_mem_nil,or_false]at hu;rcases hu with rfl|rfl|rfl<;>first |exact qAK _|exact qAB _ _ _)).1;have ho:∀b,b≠f->(W.setCells f 0 [.bool s3,.slice A3 n3 c3,.slice B3 m3 d3]).heap[b]? =W.heap[b]? :=λb C=>qAa C _ _ _;have O:=(o.out.out.le q).keep av λb C=>ho b (bE.out b C);have aP:=(I.out.out.le q).keep av λb C=>ho b (bG.out b C);have aR:=(J.out.out.le q).keep av λb C=>ho b (bI.out b C);have az:=aa.kp av
        have aU:=qAk (qAk (qAk af 0 (.bool s3)) 1 (.slice A3 n3 c3)) 2 (.slice B3 m3 d3);have aH:=qA7 (n:=w.heap.size) (g:=f) bU [.bool s3,.slice A3 n3 c3,.slice B3 m3 d3] 0 w W ((show Below w.heap.size w _ from D.out.out).trans (q.mono D.out.out.size));rw[<-aJ.out]at az;change RowE _ _ _ (((W.setCell ⟨f,0,none⟩ (.bool s3)).setCell ⟨f,1,none⟩ (.slice A3 n3 c3)).setCell ⟨f,2,none⟩ (.slice B3 m3 d3)) _ _ at O aP aR;change RatL _ _ (((W.setCell ⟨f,0,none⟩ (.bool s3)).setCell ⟨f,1,none⟩ (.slice A3 n3 c3)).setCell ⟨f,2,none⟩ (.slice B3 m3 d3)) _ _ at az;change (((W.setCell ⟨f,0,none⟩ (.bool s3)).setCell ⟨f,1,none⟩ (.slice A3 n3 c3)).setCell ⟨f,2,none⟩ (.slice B3 m3 d3)).heap[_]? =_ at aU;change Below _ _ (((W.setCell ⟨f,0,none⟩ (.bool s3)).setCell ⟨f,1,none⟩ (.slice A3 n3 c3)).setCell ⟨f,2,none⟩ (.slice B3 m3 d3))at aH;obtain⟨V,hV⟩:∃V,((W.setCell ⟨f,0,none⟩ (.bool s3)).setCell ⟨f,1,none⟩ (.slice A3 n3 c3)).setCell ⟨f,2,none⟩ (.slice B3 m3 d3)=V:=⟨_,rfl⟩;rw[hV]at O aP aR az aU aH ⊢;clear av ho nb af hV aa;have⟨bo,aN,bX,ca,bP,cl,b9⟩:=hyd7 q O aP aR az aU aH;clear aH aU az aR aP O q;go_wp2;go_roundw
        case rel=>exact⟨k+1,s3,A3,n3,c3,B3,m3,d3,by go_num,by omega,b9,aN,bX,ca,cl,bP⟩
        case measure=>simp[intOf];omega
       ·have cj:¬(t:Int)<(nY:Int):=by omega
        have ab:=qIs (X:=X) (Y:=Y) (i:=i) (k:=k) (λh=>bR (by have:=h.2;rw[al.out,ht]at this;exact this));have v:=F.out;rw[<-ab]at v;have⟨D,o,I,J,ae,a2,bQ,bL⟩:=hyd8 C l S T ks F ht ab;have P:=hyd1 v;clear v ab ht F ks T S l C;go_wp2;go_roundw
        case rel=>exact⟨k+1,s1,A1,n1,c1,B1,m1,d1,by go_num,by omega,D.out,o.out,I.out,J.out,ae.out,P⟩
        case measure=>simp[intOf];omega
      ·have j9:¬(k:Int)<(nX:Int):=by omega
       have ab:=qIs (X:=X) (Y:=Y) (i:=i) (k:=k) (λh=>bJ (by have:=h.1;rw[ak.out]at this;exact this));have v:=F.out;rw[<-ab]at v;have⟨D,o,I,J,ae,a2,bQ,bL⟩:=hyd8 C l S T ks F ht ab;have P:=hyd1 v;clear v ab ht F ks T S l C;go_wp2;go_roundw
       case rel=>exact⟨k+1,s1,A1,n1,c1,B1,m1,d1,by go_num,by omega,D.out,o.out,I.out,J.out,ae.out,P⟩
       case measure=>simp[intOf];omega
     ·obtain rfl:k=i+1:=by omega
      have j7:¬((i+1:Nat):Int)<=(i:Int):=by omega
      have z0:wr.cell? ⟨f,0,none⟩=some (.bool s1):=cell_of_row wr f 0 _ _ _ ks.out;have z1:wr.cell? ⟨f,1,none⟩=some (.slice A1 n1 c1):=cell_of_row wr f 1 _ _ _ ks.out;have z2:wr.cell? ⟨f,2,none⟩=some (.slice B1 m1 d1):=cell_of_row wr f 2 _ _ _ ks.out;obtain⟨W4,ea,ar,k4⟩:=enew wr (.cells #[.bool s1,.slice A1 n1 c1,.slice B1 m1 d1] 93);obtain⟨x4,cK⟩:∃x,wr.heap.size=x:=⟨_,rfl⟩;rw[cK]at k4;have aq:Below w.heap.size w W4:=C.out.trans (ar.mono C.out.size);have ay:=l.out.le ar;obtain⟨z9,aT⟩:∃z,tq X Y i (i+1)=z:=⟨_,rfl⟩;have ac:tqL X Y (i+1)=tqL X Y i++[z9]:=by rw[qLB,aT]
      have v:=F.out;rw[aT]at v;have bh:(ratK .i64).rd W4 [.bool s1,.slice A1 n1 c1,.slice B1 m1 d1] z9:=⟨s1,A1,n1,c1,B1,m1,d1,rfl,v.le ar⟩;have bd:=qDS k4;have cL:=aq.size;have⟨dx,el,bq,aM,b3,bw,bf,dB⟩:=hyd8 ar k4 aq ay bh bd ac aT;have⟨D,o,I,J⟩:=hyd4 C l S T;clear T S l C aT ac bd bh ay aq k4 ar;have⟨ae,a2,P⟩:=hyd3 ks F v;clear v F ks;go_wp2_with (first | (at_builtin;go_must (refine RowE.append aM.out rfl _ _ 63 rfl 56 (.agg #[.bool false,.slice none 0 0,.slice none 0 0]) (by decide) Tryz.underlying63 ai.out rfl qDP rfl x4 rfl b3.out bw.out (by rw[bc.out];omega) cL ?_)));intro v7 W7 q1 q2 q3 q4 q5;rw[<-bf.out]at q1;have r3:Below w.heap.size w W7:=(show Below w.heap.size w W4 from bq.out).trans q2;have⟨cT,em,en,eo,ep,cV⟩:=hyd6 q1 q2 q3 q4 q5 r3;clear r3 q5 q4 q3 q2 q1;go_wp2;go_roundw
      case rel=>exact⟨i+1,by go_num,by omega,cV,cT⟩
      case measure=>simp[intOf];omega
   ·obtain rfl:i=n:=by omega
    have j5:¬(i:Int)<(i:Int):=by omega
    have kt:=qDl w.heap.size _ (tqL X Y i) wr l.out (by rw[am];omega);have⟨D,o,cP,bc⟩:=hyd4 C l kt am;clear am kt l C;go_wp2_with (fail);go_at_call 69;refine cP.out.mono ?_;rintro e W5 ⟨v5,rfl,aw,bM⟩;have bS:Le w W5:=(show Below w.heap.size w wr from D.out.out).trans (aw.mono D.out.out.size);have⟨cH,bN,bT⟩:=hyd3 aw bM bS;clear bS bM aw;go_wp2;go_ret;exact⟨_,rfl,bT.out,bN.out⟩
end Go.Proofs.YtcoajjdhkhgfdaaGreat

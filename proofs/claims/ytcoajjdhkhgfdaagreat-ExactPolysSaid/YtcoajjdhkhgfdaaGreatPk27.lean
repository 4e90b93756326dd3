/- Polynomials, program side: MulPoly's function, its walk. (The regions between --@ARM and --@END are printed by gen_poly.py.) -/
import Derived.Test.YtcoajjdhkhgfdaaGreatPk26
namespace Go.Proofs.YtcoajjdhkhgfdaaGreat
set_option maxRecDepth 100000
set_option maxHeartbeats 4000000
open Go.RowKit Go.Shelf
set_option linter.unusedVariables false
set_option linter.unusedSimpArgs false
theorem qHx:(Tryz.prog.info? 58).map (λi=>(i.zero,i.size,i.bytes))=some (some (.agg #[.bool false,.slice none 0 0,.slice none 0 0]),3,56):=by kernel_rfl
structure MulSt (w:World) (g n:Nat) (vX vY:Value) (X Y:List Rat) (l:List Rat) (W:World):Prop where
 below:Below w.heap.size w W
 row:RowE (ratK .u32) 58 w.heap.size W (.slice (some ⟨g,0,none⟩) n n) l
 x:RowE (ratK .u32) 58 w.heap.size W vX X
 y:RowE (ratK .u32) 58 w.heap.size W vY Y
theorem MulSt.le {w:World} {g n:Nat} {vX vY:Value} {X Y l:List Rat} {W V:World} (h:MulSt w g n vX vY X Y l W) (hb:Le W V):MulSt w g n vX vY X Y l V:=
 ⟨h.below.trans (hb.mono h.below.size),h.row.le hb,h.x.le hb,h.y.le hb⟩
theorem MulSt.store {w:World} {g n:Nat} {vX vY:Value} {X Y l:List Rat} {W:World} (h:MulSt w g n vX vY X Y l W) (hg:w.heap.size<=g) (hX:∀b,vX.ownBlock=some b->b≠g) (hY:∀b,vY.ownBlock=some b->b≠g) {j:Nat} (hj:j<l.length)
  {s:Bool} {A B:Option Addr} {a c b d:Nat} {r:Rat} (hr:RatL (λ_=>True) .u32 W (.agg #[.bool s,.slice A a c,.slice B b d]) r):
  MulSt w g n vX vY X Y (l.set j r) (((W.setCell ⟨g,j*3,none⟩ (.bool s)).setCell ⟨g,j*3+1,none⟩ (.slice A a c)).setCell ⟨g,j*3+2,none⟩ (.slice B b d))∧
   ∀q,q≠g->(((W.setCell ⟨g,j*3,none⟩ (.bool s)).setCell ⟨g,j*3+1,none⟩ (.slice A a c)).setCell ⟨g,j*3+2,none⟩ (.slice B b d)).heap[q]? =W.heap[q]? :=by
 have f:=RowE.store h.row (i:=j) hj (cs:=[.bool s,.slice A a c,.slice B b d]) (y:=r) ⟨_,_,_,_,_,_,_,rfl,hr⟩;have k:∀q,q≠g->(W.setCells g (j*3) [.bool s,.slice A a c,.slice B b d]).heap[q]? =W.heap[q]? :=λq hq=>qAa hq _ _ _;exact⟨⟨qA7 hg [.bool s,.slice A a c,.slice B b d] (j*3) _ _ h.below,f.1,h.x.keep f.2 λq hq=>k q (hX q hq),h.y.keep f.2 λq hq=>k q (hY q hq)⟩,k⟩
theorem qIb (L:Nat->Prop) (p q:List FracA) (vp vq:Value) (Bp Bq:Nat) (tp tq:TypeId) (w:World) (hL:Up w L) (kp:w.heap[Bp]? =some (.cells #[vp] tp)) (kq:w.heap[Bq]? =some (.cells #[vq] tq)) (hp:SeqE inK w vp p) (hq:SeqE inK w vq q):
  Calls Tryz.prog 33 #[.pointer (some ⟨Bp,0,none⟩),.pointer (some ⟨Bq,0,none⟩)] w (MapPost (frK L) 27 w (mulP p q)):=by
 obtain⟨res,aQ⟩:∃r,mulP p q=r:=⟨_,rfl⟩;rw[aQ];have dL:=gsl kp;have dN:=gsl kq;have aN:=qHx;have⟨d9,dT,dU,dK,dM,aR,bt⟩:=hyd7 hL kp kq hp hq aQ aN;clear aN aQ hq hp kq kp hL;go_enter Tryz.func33,Tryz.ntmps33;go_wp2_with (fail);refine qCI (R:=leRel) 4 [some 11,some 12,some 13,some 14,some 3,some 4] [[],[0],[],[1,2],[1],[3]]
  [.eq vp,MPred.poly w.heap.size p,.eq vq,MPred.poly w.heap.size q] GTwo (λch W=>Le w W/\∃z,addF p q= .error z/\ch=flt z) (by kernel_rfl) (by kernel_rfl) (by kernel_rfl) (by kernel_rfl) (by kernel_rfl) GTwo.start ?_ ?_ ?_
 ·simp only[List.take_succ_cons,List.take_zero];refine sGc rfl ?_ (sGc rfl ?_ (sGc rfl ?_ (sGc rfl ?_ (qA0))))
  ·intro Dn E W hD bs c s hG Q hK Z;have cc:=(Below.cell c (p:=⟨Bp,0,none⟩) dL).trans (cell_of_row w Bp 0 _ _ _ dT.out);have cc:W.cell? ⟨Bp,0,none⟩=some vp:=cc;simp only[fA]at hK ⊢;go_wp2;exact hK _ _ lrR rfl (hG.keep (by decide) (by decide))
  ·intro Dn E W hD bs c s hG Q hK Z;obtain⟨A,-⟩:=s;change _=_ at A;have kc:=qBR _ p W (dK.out.le c);simp only[fA,A]at hK ⊢;have⟨a3,cM,t⟩:=hyd3 kc hG c;clear c hG kc;go_wp2_with (fail);go_at_call 26;refine a3.out.mono ?_;rintro e w' ⟨T,⟨xs,v,G,rfl,y3⟩| ⟨z,G,rfl⟩⟩
   ·have y4:=y3.base (base':=w.heap.size) t.out.size;have⟨ai,U,em,a4⟩:=hyd4 T G y3 y4;clear y4 y3 G T;go_wp2;exact hK _ _ ai.out ⟨xs,U.out,a4.out⟩ (cM.out.one hD)
   ·have y4:Le w w':=t.out.trans T;have⟨ai,U,a4⟩:=hyd3 T G y4;clear y4 G T;go_wp2_with (fail);exact Z _ _ _ ⟨a4.out,z,qD9 U.out,rfl⟩
  ·intro Dn E W hD bs c s hG Q hK Z;have cc:=(Below.cell c (p:=⟨Bq,0,none⟩) dN).trans (cell_of_row w Bq 0 _ _ _ dU.out);have cc:W.cell? ⟨Bq,0,none⟩=some vq:=cc;simp only[fA]at hK ⊢;go_wp2;exact hK _ _ lrR rfl (hG.keep (by decide) (by decide))
  ·intro Dn E W hD bs c s hG Q hK Z;obtain⟨A,d,-⟩:=s;change _=_ at d;have d1:=bs 1 (by decide);replace A:∃xs,qAC p= .ok xs/\RowE (ratK .u32) 58 w.heap.size W (E 1) xs:=A;have kc:=qBR _ q W (dM.out.le c);simp only[fA,d]at hK ⊢;have⟨a3,cM,t,cK⟩:=hyd4 kc hG c A;clear A c hG kc;go_wp2_with (fail);go_at_call 26;refine a3.out.mono ?_;rintro e w' ⟨T,⟨xs,v,G,rfl,y3⟩| ⟨z,G,rfl⟩⟩
   ·have y4:=y3.base (base':=w.heap.size) t.out.size
    have y5:∀g,v.ownBlock=some g->(E 1).ownBlock ≠some g:=λg h1 h2=>by
     obtain⟨ek,-,h3⟩:=cK.out;have h4:=(h3.nib h2).2.1;have h5:=(y3.nib h1).1;omega
    have⟨ai,U,em,a4,c0⟩:=hyd5 T G y3 y4 y5;clear y5 y4 y3 G T;go_wp2;exact hK _ _ ai.out ⟨xs,U.out,a4.out⟩ (GTwo.two d1 c0.out)
   ·have y4:Le w w':=t.out.trans T;obtain⟨ek,h3,-⟩:=cK.out;have y5:=qDa h3 G;have⟨ai,U,a4,c0,fc⟩:=hyd5 T G y4 y5 h3;clear h3 y5 y4 G T;go_wp2_with (fail);exact Z _ _ _ ⟨a4.out,z,c0.out,rfl⟩
 ·rintro a9 ch W9 dD ⟨cZ,z,hz,rfl⟩;exact⟨dD,cZ,.inr ⟨z,by rw[<-aR.out];exact qME hz,rfl⟩⟩
 intro D E W hD c s hG Q' aI _;obtain⟨X,B,O⟩:=s 1 (by decide);obtain⟨Y,C,P⟩:=s 3 (by decide);have I:=hG.2 (hD 3 (by decide));simp only[List.drop_succ_cons,List.drop_zero];rw[show List.range 4=[0,1,2,3]from rfl];simp only[fA];clear s hG;obtain⟨vx,de⟩:∃v,E 1=v:=⟨_,rfl⟩;obtain⟨vy,df⟩:∃v,E 3=v:=⟨_,rfl⟩;rw[de]at O I ⊢;rw[df]at P I ⊢;clear de df hD;have⟨ap,aq,ac,ad,a5,t⟩:=hyd6 B C O P I c;clear c I P O C B;go_wp2;refine aI _ _ ?_;clear aI;have B:=ap.out;have C:=aq.out;have O:=ac.out;have P:=ad.out;have I:=a5.out;have c:=t.out;clear ap aq ac ad a5 t;have f:=aR.out;unfold mulP at f;rw[B,C]at f;dsimp only at f;obtain⟨ej,b4,-⟩:=qAL B;obtain⟨en,b5,-⟩:=qAL C;obtain⟨AX,cX,rfl⟩:=O.slice;obtain⟨AY,cY,rfl⟩:=P.slice;obtain⟨S,ae⟩:∃n,X.length=n:=⟨_,rfl⟩;obtain⟨nY,af⟩:∃n,Y.length=n:=⟨_,rfl⟩;rw[ae]at O ej I;rw[af]at P en I;rw[ae,af]
 by_cases h0:S=0∨nY=0
 ·have hm:mulL X Y=[]:=by unfold mulL;rw[if_pos (by rw[ae,af];exact h0)]
  rw[hm]at f;have cg:res= .ok []:=by rw[<-f];rfl
  have bF:MapPost (frK L) 27 w res (.returned (.slice none 0 0)) W:=⟨c,.inl ⟨[],_,cg,rfl,RowE.nil _ _ _ _⟩⟩;have⟨t,ap,aq,a6,aA,aB,ac,ad⟩:=hyd8 c B C f b4 b5 O P;have⟨aO,an,a5,eF,aM,dI⟩:=hyd6 ae af I cg bF hm;clear hm bF cg I af ae P O b5 b4 f C B c
  by_cases ba:S=0
  ·subst ba;go_wp2;go_ret;exact aM.out
  ·have cr:nY=0:=by omega
   subst cr;have j1:((S:Int)==0)=false:=by simpa using ba
   have j2:¬S=0:=ba;go_wp2;go_ret;exact aM.out
 ·have ba:¬S=0:=by omega
  have cr:¬nY=0:=by omega
  obtain⟨n,hn⟩:∃n,S+nY - 1=n:=⟨_,rfl⟩;have hm:mulL X Y=(List.range n).map (cv X Y S):=by unfold mulL;rw[if_neg (by rw[ae,af];exact h0),ae,af,hn]
  rw[hm]at f;have j1:((S:Int)==0)=false:=by simpa using ba
  have j2:((nY:Int)==0)=false:=by simpa using cr
  have j3:(S:Int)+(nY:Int) - 1=(n:Int):=by omega
  have j4:IntKind.i64.wrap ((S:Int)+(nY:Int))=(S:Int)+(nY:Int):=IntWalk.i64_in _ (by omega);have a8:=c.size;have fj:n<=200:=by omega
  have⟨t,ap,aq,a6,aA,aB,ac,ad⟩:=hyd8 c B C f b4 b5 O P;have⟨aO,an,a5,dI⟩:=hyd4 ae af I hm;clear hm I af ae P O b5 b4 f C B c;go_wp2_with (at_make;go_must (refine qDb (k:= .u32) _ rfl _ _ 54 rfl w.heap.size 58 56 Tryz.underlying54 bt.out (by decide) n (by go_num) (by go_num) (by omega) a8 ?_);intro W0 o1 o2 o3;have cz:=Lib.hid o1;have b3:=Lib.hid o2;clear o1 o2);obtain⟨g,hg⟩:∃g,W.heap.size=g:=⟨_,rfl⟩;rw[hg]at cz o3 a8 ⊢;have bK:=ac.out.le b3.out;have bL:=ad.out.le b3.out;have cQ:Below w.heap.size w W0:=t.out.trans (b3.out.mono (by omega));have hX:∀b,(Value.slice AX S cX).ownBlock =some b->b≠g:=λb hb e=>by have:=(ac.out.nib hb).2.1;omega
  have hY:∀b,(Value.slice AY nY cY).ownBlock =some b->b≠g:=λb hb e=>by have:=(ad.out.nib hb).2.1;omega
  have⟨bb,bc,bD,cO,cP,fd⟩:=hyd6 bK bL cQ hX hY hg;clear hg hY hX cQ bL bK;go_loopw [32] (λi wr=>∃k:Nat,i= .int .i64 (k:Int)/\k<=n/\g<wr.heap.size/\Hid (Below w.heap.size w wr)/\Hid (RowE (ratO .u32) 58 w.heap.size wr (.slice (some ⟨g,0,none⟩) n n) (qC1 n k))/\Hid (RowE (ratK .u32) 58 w.heap.size wr (.slice AX S cX) X)/\Hid (RowE (ratK .u32) 58 w.heap.size wr (.slice AY nY cY) Y)) (λi _=>n - (intOf i).toNat)
  case atStart=>exact⟨0,rfl,Nat.zero_le _,o3,bD,Lib.hid (by rw[qJR];exact cz.out),bb,bc⟩
  case round=>
   obtain⟨k,rfl,hk,fe,hb,hz,hx,hy⟩:=hrel
   by_cases da:k<n
   ·have kn:=qGw (λ_=>True) 0 wr (Up.any _) (by decide) (by decide);have j5:(k:Int)<(n:Int):=by omega
    have j6:(0:Int)<=(k:Int):=by omega
    have dS:=hyd1 kn;clear kn;go_wp2_with (fail);go_at_call 34;refine dS.out.mono ?_;rintro e W1 ⟨v1,rfl,H,bw⟩;obtain⟨s3,A3,n3,c3,B3,m3,d3,rfl⟩:=bw.frm;have az:=hz.out.le H;have B:=hx.out.le H;have C:=hy.out.le H;have al:Below w.heap.size w W1:=hb.out.trans (H.mono hb.out.size);have bu:k<(qC1 n k).length :=by simp[qC1];exact da
    have bX:∃u0 u1 u2,W1.cell? ⟨g,k*3,none⟩=some u0/\W1.cell? ⟨g,k*3+1,none⟩=some u1/\W1.cell? ⟨g,k*3+2,none⟩=some u2:=by
     obtain⟨g',c',d,-,-,-,-,cs,J,hc⟩:=az.at bu;injection d with d e2 e3;injection d with d;injection d with d;subst d;have hl:=(ratO .u32).len J
     match cs,hl with
     | [a0,a1,a2],_=>exact⟨a0,a1,a2,hc 0 _ rfl,hc 1 _ rfl,hc 2 _ rfl⟩
    obtain⟨u0,u1,u2,t0,t1,t2⟩:=bX;have y0:=az.frz (k*3);have T:=az.frz (k*3+1);have G:=az.frz (k*3+2);have o:=RowE.store az (i:=k) bu (cs:=[.bool s3,.slice A3 n3 c3,.slice B3 m3 d3]) (y:=some (0:Rat)) ⟨_,_,_,_,_,_,_,rfl,by simpa using bw⟩;rw[qKL da]at o;have ho:∀q,q≠g->(W1.setCells g (k*3) [.bool s3,.slice A3 n3 c3,.slice B3 m3 d3]).heap[q]? =W1.heap[q]? :=λq hq=>qAa hq _ _ _;have b0:=B.keep o.2 λq hq=>ho q (cO.out q hq);have ay:=C.keep o.2 λq hq=>ho q (cP.out q hq);have br:=qA7 (n:=w.heap.size) a8 [.bool s3,.slice A3 n3 c3,.slice B3 m3 d3] (k*3) w W1 al;obtain⟨V,hV⟩:∃V,((W1.setCell ⟨g,k*3,none⟩ (.bool s3)).setCell ⟨g,k*3+1,none⟩ (.slice A3 n3 c3)).setCell ⟨g,k*3+2,none⟩ (.slice B3 m3 d3)=V:=⟨_,rfl⟩;have M:=o.1;have dG:g<V.heap.size:=by rw[<-hV];have:=H.size;simp[World.setCell];omega
    change RowE _ _ _ (((W1.setCell ⟨g,k*3,none⟩ (.bool s3)).setCell ⟨g,k*3+1,none⟩ (.slice A3 n3 c3)).setCell ⟨g,k*3+2,none⟩ (.slice B3 m3 d3)) _ _ at M b0 ay;change Below _ _ (((W1.setCell ⟨g,k*3,none⟩ (.bool s3)).setCell ⟨g,k*3+1,none⟩ (.slice A3 n3 c3)).setCell ⟨g,k*3+2,none⟩ (.slice B3 m3 d3))at br;rw[hV]at M b0 ay br;clear o ho;have⟨dH,eE,eI,ap,aq,cR,eB,ax⟩:=hyd8 H bw az B C al bu M;have⟨dh,bd,cU⟩:=hyd3 b0 ay br;clear br ay b0 M bu al C B az bw H;clear hb hz hx hy;go_wp2;clear t0 t1 t2 y0 T G;go_roundw
    case rel=>exact⟨k+1,by go_num,by omega,dG,cU,ax,dh,bd⟩
    case measure=>simp[intOf];omega
   ·obtain rfl:k=n:=by omega
    have bI:MulSt w g k (.slice AX S cX) (.slice AY nY cY) X Y (cvL X Y k 0 0) wr:=⟨hb.out,by rw[qKN];exact hz.out.allSet (qKM k),hx.out,hy.out⟩;have j5:¬(k:Int)<(k:Int):=by omega
    have cj:=hyd1 bI;clear bI;clear hb hz hx hy cz b3 o3 bb bc bD;go_wp2_with (fail);rename World=>wz
    go_loopw [42] (λi wr=>∃i':Nat,i= .int .i64 (i':Int)/\i'<=S/\Hid (MulSt w g k (.slice AX S cX) (.slice AY nY cY) X Y (cvL X Y k i' 0) wr)) (λi _=>S - (intOf i).toNat)
    case atStart=>exact⟨0,rfl,Nat.zero_le _,cj⟩
    case round=>
     obtain⟨i,rfl,hi,o⟩:=hrel
     by_cases cV:i<S
     ·have bZ:i<X.length:=by rw[aO.out];exact cV
      obtain⟨gx,cx,d,-,ff,-,-,cs,J,hc⟩:=o.out.x.at bZ;rw[aO.out]at d;injection d with d e2 e3;subst d e3;clear e2;have cq:X.getD i 0=X[i]:=by rw[List.getD_eq_getElem?_getD,List.getElem?_eq_getElem bZ];rfl
      have aW:Rsz X[i] 5000000:=qAN (aA.out _ (List.getElem_mem bZ)) (by decide);generalize X[i]=a at J cq aW;obtain⟨s1,A1,n1,c1,B1,m1,d1,rfl,bR⟩:=J;have q0:wr.cell? ⟨gx,i*3,none⟩=some (.bool s1):=hc 0 _ rfl;have q1:wr.cell? ⟨gx,i*3+1,none⟩=some (.slice A1 n1 c1):=hc 1 _ rfl;have q2:wr.cell? ⟨gx,i*3+2,none⟩=some (.slice B1 m1 d1):=hc 2 _ rfl;obtain⟨W1,dA,al,k1⟩:=enew wr (.cells #[.bool s1,.slice A1 n1 c1,.slice B1 m1 d1] 58);obtain⟨b8,bU⟩:∃b,wr.heap.size=b:=⟨_,rfl⟩;rw[bU]at k1;have M:=o.out.le al;have b9:=bR.le al;have dF:g≠b8:=by have:=(o.out.row.nib (g:=g) rfl).2.1;omega
      have j6:(i:Int)<(S:Int):=by omega
      have j7:(0:Int)<=(i:Int):=by omega
      have⟨bJ,cn,cR,dQ,ax,bS,e6,dC⟩:=hyd8 cq aW al k1 M b9 bR hc;have cS:=hyd1 bU;clear bU hc bR b9 M k1 al aW cq;clear o;go_wp2_with (fail);rw[cS.out];clear dA q0 q1 q2;rename World=>wy
      go_loopw [49] (λi' wr=>∃q:Nat,i'= .int .i64 (q:Int)/\q<=nY/\Hid (MulSt w g k (.slice (some ⟨gx,0,none⟩) S cX) (.slice AY nY cY) X Y (cvL X Y k i q) wr)/\Hid (wr.heap[b8]? =some (.cells #[.bool s1,.slice A1 n1 c1,.slice B1 m1 d1] 58))/\Hid (RatL (λ_=>True) .u32 wr (.agg #[.bool s1,.slice A1 n1 c1,.slice B1 m1 d1]) a)) (λi' _=>nY - (intOf i').toNat)
      case atStart=>exact⟨0,rfl,Nat.zero_le _,ax,dQ,bS⟩
      case round=>
       obtain⟨q,rfl,fk,o,k8,bC⟩:=hrel
       by_cases dd:q<nY
       ·have bv:q<Y.length:=by rw[an.out];exact dd
        obtain⟨gy,cy,d,-,fg,-,-,cs,J,hc⟩:=o.out.y.at bv;rw[an.out]at d;injection d with d e2 e3;subst d e3;clear e2;have b1:Y.getD q 0=Y[q]:=by rw[List.getD_eq_getElem?_getD,List.getElem?_eq_getElem bv];rfl
        have aY:Rsz Y[q] 5000000:=qAN (aB.out _ (List.getElem_mem bv)) (by decide);have ah:Rsz Y[q] 40:=aB.out _ (List.getElem_mem bv);generalize Y[q]=b at J b1 aY ah;obtain⟨s2,A2,n2,c2,B2,m2,d2,rfl,bV⟩:=J;have q0:wr.cell? ⟨gy,q*3,none⟩=some (.bool s2):=hc 0 _ rfl;have q1:wr.cell? ⟨gy,q*3+1,none⟩=some (.slice A2 n2 c2):=hc 1 _ rfl;have q2:wr.cell? ⟨gy,q*3+2,none⟩=some (.slice B2 m2 d2):=hc 2 _ rfl;obtain⟨W2,dB,aC,k2⟩:=enew wr (.cells #[.bool s2,.slice A2 n2 c2,.slice B2 m2 d2] 58);have aT:=o.out.le aC;have aE:=(aC.block b8 (gsl k8.out)).trans k8.out;have bA:=bC.out.le aC;have bE:=bV.le aC;have aD:i+q<(cvL X Y k i q).length :=by rw[qJS];omega
        obtain⟨gl,cl,d,-,aa,-,-,cs,J,aL⟩:=aT.row.at aD;injection d with d e2 e3;injection d with d;injection d with d;subst d;clear e2 e3;have bQ:=qMD aD;have ao:=qL7 (x:=X) (y:=Y) (n:=k) (i:=i) (k:=q) (by omega);have aZ:Rsz (cv X Y i (i+q)) 2000000:=qAN (qLP aA.out aB.out (by decide) (i+q) i) (by omega)
        have aX:Rsz (a*b) 2000000:=by
         have d8:Rsz a 40:=by rw[<-bJ.out];exact qBS aA.out (by decide) i
         exact qAN (qCg d8 ah) (by decide)
        rw[bQ]at J;obtain⟨l9,ca⟩:∃l,cv X Y i (i+q)=l:=⟨_,rfl⟩;rw[ca]at J aZ ao;rw[bJ.out,b1]at ao;obtain⟨s4,A4,n4,c4,B4,m4,d4,rfl,db⟩:=J;have x0:W2.cell? ⟨g,(i+q)*3,none⟩=some (.bool s4):=aL 0 _ rfl;have x1:W2.cell? ⟨g,(i+q)*3+1,none⟩=some (.slice A4 n4 c4):=aL 1 _ rfl;have x2:W2.cell? ⟨g,(i+q)*3+2,none⟩=some (.slice B4 m4 d4):=aL 2 _ rfl;have z0:=cell_of_row W2 wr.heap.size 0 _ _ _ k2;have z1:=cell_of_row W2 wr.heap.size 1 _ _ _ k2;have z2:=cell_of_row W2 wr.heap.size 2 _ _ _ k2;have r0:=cell_of_row W2 b8 0 _ _ _ aE;have r1:=cell_of_row W2 b8 1 _ _ _ aE;have r2:=cell_of_row W2 b8 2 _ _ _ aE;have ct:=gsl k2;have bp:=gsl aE;obtain⟨F,cW⟩:∃m,i+q=m:=⟨_,rfl⟩;rw[cW]at ao x0 x1 x2 aD;have j8:(q:Int)<(nY:Int):=by omega
        have j9:(0:Int)<=(q:Int):=by omega
        have di:(i:Int)+(q:Int)=(F:Int):=by omega
        have fm:(F:Int)<(k:Int):=by omega
        have fn:(0:Int)<=(F:Int):=by omega
        have bH:F<(cvL X Y k i q).length :=aD;clear cW;have⟨eH,co,dv,e8,e7,fs,N,dj⟩:=hyd8 b1 aY ah bV aC k2 aT aE;have⟨aJ,bW,e5,ci,cp,bz,eC,dc⟩:=hyd8 bA bE bQ ao aZ aX ca db;have⟨dm,dn,dp,eo,ep,er,ec,ed⟩:=hyd8 x0 x1 x2 z0 z1 z2 r0 r1;have⟨ee,dC,e9,eD,cf,bM⟩:=hyd6 r2 hc aL aD bH di;clear di bH aD aL hc r2 r1 r0 z2 z1 z0 x2 x1 x0 db ca aX aZ ao bQ bE bA aE aT k2 aC bV ah aY b1;clear o k8 bC;go_wp2_with (fail);clear dB q0 q1 q2;refine qAW (R:=leRel) 15 [some 54,some 55,some 56,some 57,some 58,some 59,some 60,some 61,some 62,some 63,some 64,some 65,some 66,some 67,some 68,none] [[],[],[],[1,2],[],[],[],[5,6],[4,7],[8],[],[],[10,11],[9,12],[0,3],[13,14]]
         [.eq (.slice (some ⟨g,0,none⟩) k k),.eq (.int .i64 (i:Int)),.eq (.int .i64 (q:Int)),.eq (.int .i64 (F:Int)),.eq (.slice (some ⟨g,0,none⟩) k k),.eq (.int .i64 (i:Int)),.eq (.int .i64 (q:Int)),.eq (.int .i64 (F:Int)),.eq (.pointer (some ⟨g,F*3,none⟩)),.eq (.agg #[.bool s4,.slice A4 n4 c4,.slice B4 m4 d4]),.eq (.agg #[.bool s1,.slice A1 n1 c1,.slice B1 m1 d1]),.eq (.agg #[.bool s2,.slice A2 n2 c2,.slice B2 m2 d2]),MPred.ratU (a*b),MPred.ratU (l9+a*b),.eq (.pointer (some ⟨g,F*3,none⟩))] (λ_ _=>False) (by kernel_rfl) (by kernel_rfl) (by kernel_rfl) (by kernel_rfl) (by kernel_rfl) ?_ (λ_ _ _ _ h=>h.elim) ?_
        ·simp only[List.take_succ_cons,List.take_zero];refine sMc rfl ?_ (sMc rfl ?_ (sMc rfl ?_ (sMc rfl ?_ (sMc rfl ?_ (sMc rfl ?_ (sMc rfl ?_ (sMc rfl ?_ (sMc rfl ?_ (sMc rfl ?_ (sMc rfl ?_ (sMc rfl ?_ (sMc rfl ?_ (sMc rfl ?_ (sMc rfl ?_ (qA0)))))))))))))))
         ·intro E W c s Q hK Z;simp only[fA]at hK ⊢;go_wp2;exact hK _ _ lrR rfl
         ·intro E W c s Q hK Z;simp only[fA]at hK ⊢;go_wp2;exact hK _ _ lrR rfl
         ·intro E W c s Q hK Z;simp only[fA]at hK ⊢;go_wp2;exact hK _ _ lrR rfl
         ·intro E W c s Q hK Z;obtain⟨A,d,-⟩:=s;change _=_ at A d;have jj:=bM.out;simp only[fA,A,d]at hK ⊢;go_wp2;exact hK _ _ lrR (by show Value.int _ _=Value.int _ _;congr 1)
         ·intro E W c s Q hK Z;simp only[fA]at hK ⊢;go_wp2;exact hK _ _ lrR rfl
         ·intro E W c s Q hK Z;simp only[fA]at hK ⊢;go_wp2;exact hK _ _ lrR rfl
         ·intro E W c s Q hK Z;simp only[fA]at hK ⊢;go_wp2;exact hK _ _ lrR rfl
         ·intro E W c s Q hK Z;obtain⟨A,d,-⟩:=s;change _=_ at A d;have jj:=bM.out;simp only[fA,A,d]at hK ⊢;go_wp2;exact hK _ _ lrR (by show Value.int _ _=Value.int _ _;congr 1)
         ·intro E W c s Q hK Z;obtain⟨A,d,-⟩:=s;change _=_ at A d;simp only[fA,A,d]at hK ⊢;go_wp2;exact hK _ _ lrR rfl
         ·intro E W c s Q hK Z;obtain⟨A,-⟩:=s;change _=_ at A;have t0:=(Below.cell c (p:=⟨g,F*3,none⟩) aa).trans dm.out;have t1:=(Below.cell c (p:=⟨g,F*3+1,none⟩) aa).trans dn.out;have t2:=(Below.cell c (p:=⟨g,F*3+2,none⟩) aa).trans dp.out;simp only[fA,A]at hK ⊢;go_wp2;exact hK _ _ lrR rfl
         ·intro E W c s Q hK Z;have t0:=(Below.cell c (p:=⟨b8,0,none⟩) bp).trans ec.out;have t1:=(Below.cell c (p:=⟨b8,1,none⟩) bp).trans ed.out;have t2:=(Below.cell c (p:=⟨b8,2,none⟩) bp).trans ee.out;simp only[fA]at hK ⊢;go_wp2;exact hK _ _ lrR rfl
         ·intro E W c s Q hK Z;have t0:=(Below.cell c (p:=⟨wr.heap.size,0,none⟩) ct).trans eo.out;have t1:=(Below.cell c (p:=⟨wr.heap.size,1,none⟩) ct).trans ep.out;have t2:=(Below.cell c (p:=⟨wr.heap.size,2,none⟩) ct).trans er.out;simp only[fA]at hK ⊢;go_wp2;exact hK _ _ lrR rfl
         ·intro E W c s Q hK Z;obtain⟨A,d,-⟩:=s;change _=_ at A d;simp only[fA,A,d]at hK ⊢;have kc:=qEt (λ_=>True) a b _ _ W (Up.any _) (aJ.out.le c) (bW.out.le c) cn.out co.out;have a3:=hyd1 kc;clear kc;go_wp2_with (fail);go_at_call 35;refine a3.out.mono ?_;rintro e w' ⟨v',rfl,T,G⟩;obtain⟨vs,vA,vn,vc,vB,vm,vd,rfl⟩:=G.frm;have⟨ai,U⟩:=hyd2 T G;clear G T;go_wp2;exact hK _ _ ai.out U.out
         ·intro E W c s Q hK Z;obtain⟨A,d,-⟩:=s;change _=_ at A;replace d:RatL (λ_=>True) .u32 W (E 12) (a*b):=d;obtain⟨ws,wA,wn,wc,wB,wm,wd,qw⟩:=d.frm;rw[qw]at d;simp only[fA,A,qw]at hK ⊢;have kc:=qET (λ_=>True) l9 (a*b) _ _ W (Up.any _) (dc.out.le c) d cp.out bz.out;have⟨a3,eZ⟩:=hyd2 kc d;clear d kc;go_wp2_with (fail);go_at_call 27;refine a3.out.mono ?_;rintro e w' ⟨v',rfl,T,G⟩;obtain⟨vs,vA,vn,vc,vB,vm,vd,rfl⟩:=G.frm;have⟨ai,U⟩:=hyd2 T G;clear G T;go_wp2;exact hK _ _ ai.out U.out
         ·intro E W c s Q hK Z;obtain⟨A,d,-⟩:=s;change _=_ at A d;simp only[fA,A,d]at hK ⊢;go_wp2;exact hK _ _ lrR rfl
        intro E W c s Q' aI _;have ar:RatL (λ_=>True) .u32 W (E 13) (l9+a*b):=s 13 (by decide);obtain⟨s3,A3,n3,c3,B3,m3,d3,qv⟩:=ar.frm;have bO:=s 14 (by decide);change _=_ at bO;simp only[List.drop_succ_cons,List.drop_zero];rw[show List.range 15=[0,1,2,3,4,5,6,7,8,9,10,11,12,13,14]from rfl];simp only[fA,qv,bO];clear s;rw[qv]at ar;clear qv bO;have t0:=(Below.cell c (p:=⟨g,F*3,none⟩) aa).trans dm.out;have t1:=(Below.cell c (p:=⟨g,F*3+1,none⟩) aa).trans dn.out;have t2:=(Below.cell c (p:=⟨g,F*3+2,none⟩) aa).trans dp.out;have y0:=(N.out.row.le c).frz (F*3);have T:=(N.out.row.le c).frz (F*3+1);have G:=(N.out.row.le c).frz (F*3+2);have⟨b7,t⟩:=hyd2 ar c;clear c ar;go_wp2;refine aI _ _ ?_;clear aI t0 t1 t2 y0 T G;have ar:=b7.out;have c:=t.out;clear b7 t;have bx:=N.out.le c |>.store a8 cO.out cP.out cf.out ar
        rw[ci.out]at bx;have bB:RatL (λ_=>True) .u32 W (.agg #[.bool s1,.slice A1 n1 c1,.slice B1 m1 d1]) a:=aJ.out.le c;have bG:Kp .u32 W (((W.setCell ⟨g,F*3,none⟩ (.bool s3)).setCell ⟨g,F*3+1,none⟩ (.slice A3 n3 c3)).setCell ⟨g,F*3+2,none⟩ (.slice B3 m3 d3)):=(qBQ (k:= .u32) [.bool s3,.slice A3 n3 c3,.slice B3 m3 d3] W (F*3) ((N.out.row.le c).nib (g:=g) rfl).2.2 (λu hu=>by simp only[List.mem_cons,List.not_mem_nil,or_false]at hu;rcases hu with rfl|rfl|rfl<;>first |exact qAK _|exact qAB _ _ _)).1;have aK:=bB.kp bG;have cw:=(bx.2 b8 (Ne.symm dF)).trans ((c.block b8 bp).trans dj.out);have aV:=bx.1;obtain⟨V,hV⟩:∃V,((W.setCell ⟨g,F*3,none⟩ (.bool s3)).setCell ⟨g,F*3+1,none⟩ (.slice A3 n3 c3)).setCell ⟨g,F*3+2,none⟩ (.slice B3 m3 d3)=V:=⟨_,rfl⟩;rw[hV]at aV aK cw ⊢;clear bx bG bB hV ar;have⟨t,cm,bT,dk⟩:=hyd4 c aV aK cw;clear cw aK aV c;go_wp2;go_roundw
        case rel=>exact⟨q+1,by go_num,by omega,cm,dk,bT⟩
        case measure=>simp[intOf];omega
       ·obtain rfl:q=nY:=by omega
        have aU:=o.out;rw[<-an.out,qKt,an.out]at aU;have j8:¬(q:Int)<(q:Int):=by omega
        have ck:=hyd1 aU;clear aU;go_wp2;go_roundw
        case rel=>exact⟨i+1,by go_num,by omega,ck⟩
        case measure=>simp[intOf];omega
     ·obtain rfl:i=S:=by omega
      have ag:=o.out.row;have bY:cvL X Y k i 0=(List.range k).map (cv X Y i):=List.map_congr_left λj _=>qFm X Y i j;rw[bY]at ag;have aP:=qCf L _ _ wr (d9.out.le o.out.below) ag.seq;rw[a6.out]at aP;have cT:=o.out.below;have j6:¬(i:Int)<(i:Int):=by omega
      have⟨du,eA,ce,am⟩:=hyd4 ag bY aP cT;clear cT aP bY ag;go_wp2_with (fail);go_at_call 28;refine ce.out.mono ?_;rintro e W3 ⟨ab,⟨ys,v3,ay,rfl,aw⟩| ⟨z,hz,rfl⟩⟩
      ·have ak:Below w.heap.size w W3:=am.out.trans (ab.mono am.out.size);have a7:=aw.base (base':=w.heap.size) am.out.size;have⟨cb,bd,dt,au,aS⟩:=hyd5 ab ay aw ak a7;clear a7 ak aw ay ab;go_wp2;go_ret;exact⟨au.out,.inl ⟨ys,_,bd.out,rfl,aS.out⟩⟩
      ·have ak:Below w.heap.size w W3:=am.out.trans (ab.mono am.out.size);have⟨cb,dO,au⟩:=hyd3 ab hz ak;clear ak hz ab;go_wp2_with (fail);exact⟨rfl,au.out,.inr ⟨z,dO.out,rfl⟩⟩
end Go.Proofs.YtcoajjdhkhgfdaaGreat

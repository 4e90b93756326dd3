/- Polynomials, the reference: monic. (The region between --@ARM and --@END is printed by gen_polyr.py.) -/
import Derived.Test.YtcoajjdhkhgfdaaPk35
namespace Go.Proofs.Ytcoajjdhkhgfdaa
set_option maxRecDepth 100000
set_option maxHeartbeats 1000000
open Go.RowKit Go.Shelf
set_option linter.unusedVariables false
set_option linter.unusedSimpArgs false
def qAP (l:List Rat):Rat:=l.getD (l.length - 1) 0
def qAL (l:List Rat):List Rat:=l.map λr=>r / qAP l
def MPred.oneQ (r:Rat):MPred:=⟨λv W=>∃B s A n c D m d,v= .slice (some ⟨B,0,none⟩) 1 1/\W.heap[B]? =some (.cells #[.bool s,.slice A n c,.slice D m d] 63)/\RatL (λ_=>True) .i64 W (.agg #[.bool s,.slice A n c,.slice D m d]) r,
 λ_ _ _ hb ⟨B,s,A,n,c,D,m,d,e,k,h⟩=>⟨B,s,A,n,c,D,m,d,e,(hb.block B (gsl k)).trans k,h.le hb⟩⟩
theorem qE8 (base:Nat) (v:Value) (l:List Rat) (w:World) (hv:RowE (ratK .i64) 63 base w v l) (hl:l.length<=1000) (h0:l.length≠0->qAP l≠0) (hs:∀r∈l,Rsz r 5000000):
  Calls Try.prog 90 #[v] w λe w'=>∃v',e= .returned v'/\Le w w'/\RowE (ratK .i64) 63 w.heap.size w' v' (qAL l):=by
 have I:=qFD;obtain⟨A,c,rfl⟩:=hv.slice;obtain⟨n,hn⟩:∃n,l.length=n:=⟨_,rfl⟩;rw[hn]at hl hv h0 ⊢;have⟨a8,C,a5,aC,N⟩:=hyd5 hv hn hs h0 I;clear I h0 hs hn hv;go_enter Try.func90,Try.ntmps90;go_wp2_with (fail);go_loopw [3,4] (λs i wr=>∃k:Nat,i= .int .i64 (k:Int)/\k<=n/\Hid (Below w.heap.size w wr)/\Hid (RowE (ratK .i64) 63 w.heap.size wr s ((l.take k).map λr=>r / qAP l))) (λ_ i _=>n - (intOf i).toNat)
 case atStart=>exact⟨0,rfl,Nat.zero_le _,Lib.hid (Below.refl _ _),Lib.hid (RowE.nil _ _ _ _)⟩
 case round=>
  obtain⟨k,rfl,hk,X,y⟩:=hrel
  by_cases aD:k<n
  ·have aa:k<l.length:=by rw[C.out];exact aD
   obtain⟨t,ht⟩:∃t,n=t+1:=⟨n - 1,by omega⟩;have ah:t<l.length:=by rw[C.out];omega
   obtain⟨g,c',x,-,F,-,-,cs,a4,hc⟩:=(a8.out.le X.out).at aa;rw[C.out]at x;injection x with x e2 e3;subst x e3;clear e2;obtain⟨g2,b2,x,-,-,-,-,b4,J,H⟩:=(a8.out.le X.out).at ah;rw[C.out]at x;injection x with x e2 e3;injection x with x;injection x with x;subst x;clear e2 e3;have z:l[t]=qAP l:=by unfold qAP;rw[List.getD_eq_getElem?_getD,C.out,show n - 1=t by omega,List.getElem?_eq_getElem ah];rfl
   have ac:qAP l≠0:=aC.out (by omega);have T:l.take (k+1)=l.take k++[l[k]]:=by rw[List.take_succ_eq_append_getElem aa]
   have ag:Rsz l[k] 5000000:=a5.out _ (List.getElem_mem aa);have S:Rsz l[t] 5000000:=a5.out _ (List.getElem_mem ah);rw[z]at J S;generalize l[k]=a at a4 T ag;obtain⟨b,M⟩:∃b,qAP l=b:=⟨_,rfl⟩;have q:=y.out;rw[M]at J S ac q;obtain⟨s5,A5,n5,c5,B5,m5,d5,rfl,ao⟩:=a4;obtain⟨s6,A6,n6,c6,B6,m6,d6,rfl,aw⟩:=J;have x0:wr.cell? ⟨g,k*3,none⟩=some (.bool s5):=hc 0 _ rfl;have x1:wr.cell? ⟨g,k*3+1,none⟩=some (.slice A5 n5 c5):=hc 1 _ rfl;have x2:wr.cell? ⟨g,k*3+2,none⟩=some (.slice B5 m5 d5):=hc 2 _ rfl;have y0:wr.cell? ⟨g,t*3,none⟩=some (.bool s6):=H 0 _ rfl;have y1:wr.cell? ⟨g,t*3+1,none⟩=some (.slice A6 n6 c6):=H 1 _ rfl;have y2:wr.cell? ⟨g,t*3+2,none⟩=some (.slice B6 m6 d6):=H 2 _ rfl;obtain⟨SA,sc,rfl⟩:=q.slice;have ab:((l.take k).map λr=>r / b).length =k:=by rw[List.length_map,List.length_take,C.out];omega
   rw[ab]at q ⊢;have a1:((l.take (k+1)).map λr=>r / qAP l)=((l.take k).map λr=>r / b)++[a / b]:=by rw[T,List.map_append,M];rfl
   have j1:(k:Int)<(n:Int):=by omega
   have j2:(0:Int)<=(k:Int):=by omega
   have j3:(n:Int) - 1=(t:Int):=by omega
   have j4:(t:Int)<(n:Int):=by omega
   have j5:(0:Int)<=(t:Int):=by omega
   have⟨Y,af,b8,ba,aA,a0,bc,a6⟩:=hyd8 X y hc H z ac T ag;have⟨a7,aZ,O,ap⟩:=hyd4 S M q ao;clear ao q M S ag T ac z H hc y X;have⟨ax,aN,aO,aP,aQ,ai,aj,az⟩:=hyd8 aw x0 x1 x2 y0 y1 y2 ab;have⟨a2,b9,aG⟩:=hyd3 a1 ht j3;clear j3 ht a1 ab y2 y1 y0 x2 x1 x0 aw;go_wp2_with (fail);refine qB9 (R:=leRel) 13 [some 11,some 12,some 13,some 14,some 15,some 16,some 17,some 18,some 19,some 20,some 21,some 22,some 23,some 24,some 3] [[],[],[],[1,2],[3],[],[],[6],[7],[5,8],[9],[4,10],[11],[0,12],[13]]
    [.eq (.slice SA k sc),.eq (.slice (some ⟨g,0,none⟩) n c),.eq (.int .i64 (k:Int)),.eq (.pointer (some ⟨g,k*3,none⟩)),.eq (.agg #[.bool s5,.slice A5 n5 c5,.slice B5 m5 d5]),.eq (.slice (some ⟨g,0,none⟩) n c),.eq (.slice (some ⟨g,0,none⟩) n c),.eq (.int .i64 (n:Int)),.eq (.int .i64 (t:Int)),.eq (.pointer (some ⟨g,t*3,none⟩)),.eq (.agg #[.bool s6,.slice A6 n6 c6,.slice B6 m6 d6]),MPred.ratW (a / b),MPred.oneQ (a / b)] (λ_ _=>False) (by kernel_rfl) (by kernel_rfl) (by kernel_rfl) (by kernel_rfl) (by kernel_rfl) ?_ (λ_ _ _ _ h=>h.elim) ?_
   ·simp only[List.take_succ_cons,List.take_zero];refine sMc rfl ?_ (sMc rfl ?_ (sMc rfl ?_ (sMc rfl ?_ (sMc rfl ?_ (sMc rfl ?_ (sMc rfl ?_ (sMc rfl ?_ (sMc rfl ?_ (sMc rfl ?_ (sMc rfl ?_ (sMc rfl ?_ (sMc rfl ?_ (qA2)))))))))))))
    ·intro E W j o Q hK G;simp only[fA]at hK ⊢;go_wp2;exact hK _ _ lrR rfl
    ·intro E W j o Q hK G;simp only[fA]at hK ⊢;go_wp2;exact hK _ _ lrR rfl
    ·intro E W j o Q hK G;simp only[fA]at hK ⊢;go_wp2;exact hK _ _ lrR rfl
    ·intro E W j o Q hK G;obtain⟨f,x,-⟩:=o;change _=_ at f x;simp only[fA,f,x]at hK ⊢;go_wp2;exact hK _ _ lrR rfl
    ·intro E W j o Q hK G;obtain⟨f,-⟩:=o;change _=_ at f;have t0:=(Below.cell j (p:=⟨g,k*3,none⟩) F).trans aN.out;have t1:=(Below.cell j (p:=⟨g,k*3+1,none⟩) F).trans aO.out;have t2:=(Below.cell j (p:=⟨g,k*3+2,none⟩) F).trans aP.out;simp only[fA,f]at hK ⊢;go_wp2;exact hK _ _ lrR rfl
    ·intro E W j o Q hK G;simp only[fA]at hK ⊢;go_wp2;exact hK _ _ lrR rfl
    ·intro E W j o Q hK G;simp only[fA]at hK ⊢;go_wp2;exact hK _ _ lrR rfl
    ·intro E W j o Q hK G;obtain⟨f,-⟩:=o;change _=_ at f;simp only[fA,f]at hK ⊢;go_wp2;exact hK _ _ lrR rfl
    ·intro E W j o Q hK G;obtain⟨f,-⟩:=o;change _=_ at f;have jj:=aG.out;simp only[fA,f]at hK ⊢;go_wp2;exact hK _ _ lrR (by show Value.int _ _=Value.int _ _;congr 1)
    ·intro E W j o Q hK G;obtain⟨f,x,-⟩:=o;change _=_ at f x;simp only[fA,f,x]at hK ⊢;go_wp2;exact hK _ _ lrR rfl
    ·intro E W j o Q hK G;obtain⟨f,-⟩:=o;change _=_ at f;have t0:=(Below.cell j (p:=⟨g,t*3,none⟩) F).trans aQ.out;have t1:=(Below.cell j (p:=⟨g,t*3+1,none⟩) F).trans ai.out;have t2:=(Below.cell j (p:=⟨g,t*3+2,none⟩) F).trans aj.out;simp only[fA,f]at hK ⊢;go_wp2;exact hK _ _ lrR rfl
    ·intro E W j o Q hK G;obtain⟨f,x,-⟩:=o;change _=_ at f x;simp only[fA,f,x]at hK ⊢;have kc:=qEv (λ_=>True) a b _ _ W (Up.any _) (ap.out.le j) (ax.out.le j) a6.out a7.out a0.out;have aI:=hyd1 kc;clear kc;go_wp2_with (fail);go_at_call 58;refine aI.out.mono ?_;rintro e w' ⟨v',rfl,y1,y2⟩;obtain⟨vs,vA,vn,vc,vB,vm,vd,rfl⟩:=y2.frm;have⟨ai,aj⟩:=hyd2 y1 y2;clear y2 y1;go_wp2;exact hK _ _ ai.out aj.out
    ·intro E W j o Q hK G;obtain⟨f,-⟩:=o;replace f:RatL (λ_=>True) .i64 W (E 11) (a / b):=f;obtain⟨ws,wA,wn,wc,wB,wm,wd,qw⟩:=f.frm;rw[qw]at f;simp only[fA,qw]at hK ⊢;obtain⟨V4,b7,aq,k4⟩:=enew W (.cells #[.bool ws,.slice wA wn wc,.slice wB wm wd] 63);have⟨aB,U,aH⟩:=hyd3 f aq k4;clear k4 aq f;go_wp2;exact hK _ _ U.out ⟨_,_,_,_,_,_,_,_,rfl,aH.out,aB.out.le U.out⟩
   intro E W j o Q' an _;obtain⟨B9,s3,A3,n3,c3,B3,m3,d3,qv,kq,al⟩:∃B s A n c D m d,E 12= .slice (some ⟨B,0,none⟩) 1 1/\W.heap[B]? =some (.cells #[.bool s,.slice A n c,.slice D m d] 63)/\RatL (λ_=>True) .i64 W (.agg #[.bool s,.slice A n c,.slice D m d]) (a / b):=o 12 (by decide);have f:=o 0 (by decide);change _=_ at f;simp only[List.drop_succ_cons,List.drop_zero];rw[show List.range 13=[0,1,2,3,4,5,6,7,8,9,10,11,12]from rfl];simp only[fA,qv,f];clear o;clear qv f;have Z:Below w.heap.size w W:=Y.out.out.trans (j.mono Y.out.out.size);have L:=O.out.le j;have aF:=Z.size;have V:=qCT kq;have⟨av,P,ad,bB,am,b6⟩:=hyd6 Z L V kq al j;clear j al kq V L Z;refine RowE.append P.out rfl _ _ 51 rfl 56 (.agg #[.bool false,.slice none 0 0,.slice none 0 0]) (by decide) Try.underlying51 N.out rfl qD1 rfl B9 rfl (cs:=[.bool s3,.slice A3 n3 c3,.slice B3 m3 d3]) ⟨_,_,_,_,_,_,_,rfl,am.out⟩ ad.out (by rw[az.out];omega) aF ?_;intro v7 W7 q1 q2 q3 q4 q5;have r3:Below w.heap.size w W7:=(show Below w.heap.size w W from av.out).trans q2;rw[<-a2.out]at q1;have⟨aL,bE,bF,bG,bH,aM⟩:=hyd6 q1 q2 q3 q4 q5 r3;clear r3 q5 q4 q3 q2 q1;go_wp2;refine an _ _ ?_;clear an;go_wp2;go_roundw
   case rel=>exact⟨k+1,by go_num,by omega,aM,aL⟩
   case measure=>simp[intOf];omega
  ·obtain rfl:k=n:=by omega
   have j1:¬(k:Int)<(k:Int):=by omega
   have ae:=y.out;rw[<-C.out,List.take_length]at ae;have ar:=X.out;have⟨Y,af,a3,au⟩:=hyd4 X y ae ar;clear ar ae y X;go_wp2;go_ret;exact⟨_,rfl,au.out,a3.out⟩
end Go.Proofs.Ytcoajjdhkhgfdaa

/- Roots, program side: derived. (The region between --@ARM and --@END is printed by gen_roots.py.) -/
import Derived.Test.YtcoajjdhkhgfdaaPk30
namespace Go.Proofs.Ytcoajjdhkhgfdaa
set_option maxRecDepth 100000
set_option maxHeartbeats 1000000
open Go.RowKit Go.Shelf
set_option linter.unusedVariables false
set_option linter.unusedSimpArgs false
def derS (p:List Int):List Int:=(List.range (p.length - 1)).map λj=>p.getD (j+1) 0*((j+1:Nat):Int)
def derI (p:List Int):List Int:=qA5 (derS p)
def derK (p:List Int) (k:Nat):List Int:=(List.range (k - 1)).map λj=>p.getD (j+1) 0*((j+1:Nat):Int)
theorem qII (p:List Int) (k:Nat):(derK p k).length =k - 1:=by unfold derK;rw[List.length_map,List.length_range]
theorem qKX (p:List Int) {k:Nat} (h:k≠0):derK p (k+1)=derK p k++[p.getD k 0*(k:Int)]:=by
 unfold derK;obtain⟨m,rfl⟩:∃m,k=m+1:=⟨k - 1,by omega⟩;rw[show m+1+1 - 1=m+1 by omega,show m+1 - 1=m by omega,List.range_succ,List.map_append]
 rfl
theorem qDC {k:Nat} (h:k<1000000000):(dg k).length <=1:=qAl (by rw[Nat.pow_one,qAM];exact h)
def MPred.oneI (z:Int):MPred:=⟨λv W=>∃B A n c,v= .slice (some ⟨B,0,none⟩) 1 1/\W.heap[B]? =some (.cells #[.bool (decide (z<0)),.slice A n c] 84)/\NumL (λ_=>True) .u32 W (.slice A n c) z.natAbs,
 λ_ _ _ hb ⟨B,A,n,c,e,k,h⟩=>⟨B,A,n,c,e,(hb.block B (gsl k)).trans k,h.le hb⟩⟩
theorem qJ7 {W4:World} {s2:Bool} {A2:Option Addr} {n2 c2:Nat} {t:TypeId} {x:Nat} (k4:W4.heap[x]? =some (.cells #[.bool s2,.slice A2 n2 c2] t)):∀(i:Nat) (u:Value),([.bool s2,.slice A2 n2 c2]:List Value)[i]? =some u->W4.cell? ⟨x,i,none⟩=some u:=λi u hu=>by
 have hi4:i<2:=(List.getElem?_eq_some_iff.1 hu).1
 match i,hi4 with
 | 0,_=>have z:=cell_of_row W4 x 0 _ _ _ k4;rw[z];simpa using hu
 | 1,_=>have z:=cell_of_row W4 x 1 _ _ _ k4;rw[z];simpa using hu
theorem qG1 (base M:Nat) (v:Value) (p:List Int) (w:World) (hv:RowE intK 84 base w v p) (hl:p.length<=1000) (hs:∀x∈p,Isz x M) (hM:M<=9000000):
  Calls Try.prog 39 #[v] w λe w'=>∃v',e= .returned v'/\Le w w'/\RowE intK 84 w.heap.size w' v' (derI p):=by
 have N:(Try.prog.info? 84).map (λi=>(i.zero,i.size,i.bytes))=some (some (.agg #[.bool false,.slice none 0 0]),2,32):=by kernel_rfl
 obtain⟨A,c,rfl⟩:=hv.slice;obtain⟨n,hn⟩:∃n,p.length=n:=⟨_,rfl⟩;rw[hn]at hl hv ⊢;have⟨bf,ap,aI,aa⟩:=hyd4 hv hn hs N;clear N hs hn hv;go_enter Try.func39,Try.ntmps39;go_wp2_with (fail);go_loopw [3,8] (λs i wr=>∃k:Nat,i= .int .i64 (k:Int)/\k<=n/\Hid (Below w.heap.size w wr)/\Hid (RowE intK 84 w.heap.size wr s (derK p k))) (λ_ i _=>n - (intOf i).toNat)
 case atStart=>exact⟨0,rfl,Nat.zero_le _,Lib.hid (Below.refl _ _),Lib.hid (RowE.nil _ _ _ _)⟩
 case round=>
  obtain⟨k,rfl,hk,Z,f⟩:=hrel
  by_cases bc:k<n
  ·have ao:k<p.length:=by rw[ap.out];exact bc
   obtain⟨g,c',e1,-,bE,-,-,cs,aH,hc⟩:=(bf.out.le Z.out).at ao;rw[ap.out]at e1;injection e1 with e1 e2 e3;subst e1 e3;clear e2;have G:p.getD k 0=p[k]:=by rw[List.getD_eq_getElem?_getD,List.getElem?_eq_getElem ao];rfl
   have T:=(aI.out _ (List.getElem_mem ao)).up (show M<=100000000 by omega);generalize p[k]=z at aH G T;obtain⟨A5,n5,c5,rfl,U⟩:=aH;obtain⟨s5,H⟩:∃s,decide (z<0)=s:=⟨_,rfl⟩;have I:IntL wr (.agg #[.bool s5,.slice A5 n5 c5]) z:=⟨A5,n5,c5,by rw[H],U⟩;rw[H]at hc;have x0:wr.cell? ⟨g,k*2,none⟩=some (.bool s5):=hc 0 _ rfl;have x1:wr.cell? ⟨g,k*2+1,none⟩=some (.slice A5 n5 c5):=hc 1 _ rfl;obtain⟨W4,a9,l,X⟩:=enew wr (.cells #[.bool s5,.slice A5 n5 c5] 84);obtain⟨bx,aY⟩:∃b,wr.heap.size=b:=⟨_,rfl⟩;rw[aY]at X;have ad:=gsl X;have t:Below w.heap.size w W4:=Z.out.trans (l.mono Z.out.size);have d:=f.out.le l;have y:=I.le l;have j1:(k:Int)<(n:Int):=by omega
   have j2:(0:Int)<=(k:Int):=by omega
   by_cases h0:k=0
   ·subst h0;have e9:derK p (0+1)=derK p 0:=rfl;rw[<-e9]at d;have⟨aA,P,aE,ah,aP,ai,q,aw⟩:=hyd8 Z f G T U I l X;have⟨E,r,V,aZ,aJ⟩:=hyd5 t d y hc H;clear H hc y d t X l I U T G f Z;go_wp2;clear a9;go_roundw
    case rel=>exact⟨1,by go_num,by omega,E,r⟩
    case measure=>simp[intOf];omega
   ·have F:=qII p k;have ar:=qKX p h0;rw[G]at ar;obtain⟨m,hm⟩:∃m,k - 1=m:=⟨_,rfl⟩;rw[hm]at F;have bH:m<=1000:=by omega
    obtain⟨SA,sc,aM⟩:=d.slice;have j3:(0:Int)<(k:Int):=by omega
    have j4:0<k:=by omega
    have aK:Isz (k:Int) 100000000:=by unfold Isz;rw[Int.natAbs_natCast];exact Nat.le_trans (qDC (by omega)) (by decide)
    have ae:IntKind.u64.wrap (k:Int)=(k:Int):=IntWalk.u64_in _ (by omega);rw[F]at aM;subst aM;have y0:W4.cell? ⟨bx,0,none⟩=some (.bool s5):=cell_of_row W4 bx 0 _ _ _ X;have y1:W4.cell? ⟨bx,1,none⟩=some (.slice A5 n5 c5):=cell_of_row W4 bx 1 _ _ _ X;have I:=y;have l:=t;have⟨aA,P,aE,ah,aP,ai,q,aw⟩:=hyd8 Z f G T U I l X;have⟨E,r,V,aZ,aJ,af,aD,aL⟩:=hyd8 t d y hc H F ar aK;have⟨an,bo,Y,bG⟩:=hyd4 ae y0 y1 hm;clear hm y1 y0 ae aK ar F H hc y d t X l I U T G f Z;clear E V;go_wp2_with (fail);clear a9;refine qB9 (R:=leRel) 8 [some 15,some 16,some 17,some 18,some 19,some 20,some 21,some 22,some 23,some 3] [[],[],[],[2],[3],[4],[1,5],[6],[0,7],[8]]
     [.eq (.slice SA m sc),.eq (.agg #[.bool s5,.slice A5 n5 c5]),.eq (.int .i64 (k:Int)),.eq (.int .u64 (k:Int)),MPred.num (λ_=>True) .u32 k,MPred.bn false k,MPred.intP (z*(k:Int)),MPred.oneI (z*(k:Int))] (λ_ _=>False) (by kernel_rfl) (by kernel_rfl) (by kernel_rfl) (by kernel_rfl) (by kernel_rfl) ?_ (λ_ _ _ _ h=>h.elim) ?_
    ·simp only[List.take_succ_cons,List.take_zero];refine sMc rfl ?_ (sMc rfl ?_ (sMc rfl ?_ (sMc rfl ?_ (sMc rfl ?_ (sMc rfl ?_ (sMc rfl ?_ (sMc rfl ?_ (qA2))))))))
     ·intro J W D C Q hK hP;simp only[fA]at hK ⊢;go_wp2;exact hK _ _ lrR rfl
     ·intro J W D C Q hK hP;have t0:=(Below.cell D (p:=⟨bx,0,none⟩) ad).trans bo.out;have t1:=(Below.cell D (p:=⟨bx,1,none⟩) ad).trans Y.out;simp only[fA]at hK ⊢;go_wp2;exact hK _ _ lrR rfl
     ·intro J W D C Q hK hP;simp only[fA]at hK ⊢;go_wp2;exact hK _ _ lrR rfl
     ·intro J W D C Q hK hP;obtain⟨o,-⟩:=C;change _=_ at o;have jj:=an.out;simp only[fA,o]at hK ⊢;go_wp2;exact hK _ _ lrR (by show Value.int _ _=Value.int _ _;congr 1)
     ·intro J W D C Q hK hP;obtain⟨o,-⟩:=C;change _=_ at o;simp only[fA,o]at hK ⊢;have kc:=qHn k W (by omega);have ax:=hyd1 kc;clear kc;go_wp2_with (fail);go_at_call 74;refine ax.out.mono ?_;rintro e w' ⟨v',rfl,y1,y2⟩;have y3:NumL (λ_=>True) .u32 w' v' k:=ArrL.of_own y2 (λ_ _=>trivial);have⟨Y,aS,bp⟩:=hyd3 y1 y2 y3;clear y3 y2 y1;go_wp2;exact hK _ _ Y.out bp.out
     ·intro J W D C Q hK hP;obtain⟨o,-⟩:=C;replace o:NumL (λ_=>True) .u32 W (J 4) k:=o;have e9:=o;obtain⟨A9,c9,q9⟩:=o.slice;rw[q9]at e9;simp only[fA,q9]at hK ⊢;have aV:=hyd1 e9;clear e9;go_wp2;exact hK _ _ lrR ⟨_,_,_,rfl,aV.out⟩
     ·intro J W D C Q hK hP;obtain⟨o,e1,-⟩:=C;change _=_ at o;replace e1:∃A m c,(J 5)= .agg #[.bool false,.slice A m c]/\NumL (λ_=>True) .u32 W (.slice A m c) k:=e1;obtain⟨A9,m9,c9,q9,h9⟩:=e1;simp only[fA,o,q9]at hK ⊢;have h8:IntL W (.agg #[.bool false,.slice A9 m9 c9]) (k:Int):=⟨A9,m9,c9,by rw[decide_eq_false (by omega)],by rw[Int.natAbs_natCast];exact h9⟩;have kc:=qCf z (k:Int) _ _ W (ai.out.le D) h8 ah.out aL.out;have ax:=hyd1 kc;clear kc;go_wp2_with (fail);go_at_call 53;refine ax.out.mono ?_;rintro e w' ⟨v',rfl,y1,y2⟩;have⟨Y,aS⟩:=hyd2 y1 y2;clear y2 y1;go_wp2;exact hK _ _ Y.out aS.out
     ·intro J W D C Q hK hP;obtain⟨o,-⟩:=C;replace o:IntL W (J 6) (z*(k:Int)):=o;obtain⟨A9,m9,c9,q9,h9⟩:=o;simp only[fA,q9]at hK ⊢;obtain⟨V4,bC,l,X⟩:=enew W (.cells #[.bool (decide (z*(k:Int)<0)),.slice A9 m9 c9] 84);have⟨aX,q,aw⟩:=hyd3 h9 l X;clear X l h9;go_wp2;exact hK _ _ q.out ⟨_,_,_,_,rfl,aw.out,aX.out.le q.out⟩
    intro J W D C Q' a8 _;obtain⟨B9,A3,n3,c3,qv,kq,f7⟩:∃B A n c,J 7= .slice (some ⟨B,0,none⟩) 1 1/\W.heap[B]? =some (.cells #[.bool (decide (z*(k:Int)<0)),.slice A n c] 84)/\NumL (λ_=>True) .u32 W (.slice A n c) (z*(k:Int)).natAbs :=C 7 (by decide);have o:=C 0 (by decide);change _=_ at o;simp only[List.drop_succ_cons,List.drop_zero];rw[show List.range 8=[0,1,2,3,4,5,6,7]from rfl];simp only[fA,qv,o];clear C;clear qv o;have al:Below w.heap.size w W:=q.out.trans (D.mono q.out.size);have S:=r.out.le D;have bh:=al.size;have ag:=qJ7 kq;have⟨aC,ab,aq,bJ,aW,bB⟩:=hyd6 al S ag kq f7 D;clear D f7 kq ag S al;refine RowE.append ab.out rfl _ _ 75 rfl 32 (.agg #[.bool false,.slice none 0 0]) (by decide) Try.underlying75 aa.out rfl qJ0 rfl B9 rfl (cs:=[.bool (decide (z*(k:Int)<0)),.slice A3 n3 c3]) ⟨_,_,_,rfl,aW.out⟩ aq.out (by rw[af.out];omega) bh ?_;intro v7 W7 q1 q2 q3 q4 q5;have r3:Below w.heap.size w W7:=(show Below w.heap.size w W from aC.out).trans q2;rw[<-aD.out]at q1;have⟨bl,bL,bM,bN,bO,bm⟩:=hyd6 q1 q2 q3 q4 q5 r3;clear r3 q5 q4 q3 q2 q1;go_wp2;refine a8 _ _ ?_;clear a8;go_wp2;go_roundw
    case rel=>exact⟨k+1,by go_num,by omega,bm,bl⟩
    case measure=>simp[intOf];omega
  ·obtain rfl:k=n:=by omega
   have j1:¬(k:Int)<(k:Int):=by omega
   have hd:derI p=qA5 (derK p k):=by unfold derI derS derK;rw[ap.out]
   have av:∀x∈derK p k,Isz x 10000000:=by
    intro x hx;unfold derK at hx;rw[List.mem_map]at hx;obtain⟨j,hj,rfl⟩:=hx;rw[List.mem_range]at hj;have h1:Isz (p.getD (j+1) 0) M:=qDB aI.out (j+1);have h2:Isz ((j+1:Nat):Int) 1:=by unfold Isz;rw[Int.natAbs_natCast];exact qDC (by omega)
    exact(qB0 h1 h2).up (by omega)
   have F:=qII p k;have kp:=qDh w.heap.size _ (derK p k) wr f.out (by omega) av;rw[<-hd]at kp;have aB:=Z.out;have⟨aA,P,bD,bt,bi,af,L⟩:=hyd7 Z f hd av kp F aB;clear aB F kp av hd f Z;go_wp2_with (fail);go_at_call 65;refine bi.out.mono ?_;rintro e W5 ⟨v5,rfl,O,au⟩;have aN:Le w W5:=(show Below w.heap.size w wr from L.out).trans (O.mono L.out.size);have aF:=au.base (base':=w.heap.size) L.out.size;have⟨bb,bs,aO,aG⟩:=hyd4 O au aN aF;clear aF aN au O;go_wp2;go_ret;exact⟨_,rfl,aO.out,aG.out⟩
end Go.Proofs.Ytcoajjdhkhgfdaa

/- Polynomials, the reference: SamePoly, GreatPoly. (The region between --@ARM and --@END is printed by gen_polyr.py.) -/
import Derived.Test.YtcoajjdhkhgfdaaGreatPk43
namespace Go.Proofs.YtcoajjdhkhgfdaaGreat
set_option maxRecDepth 100000
set_option maxHeartbeats 1000000
open Go.RowKit Go.Shelf
set_option linter.unusedVariables false
set_option linter.unusedSimpArgs false
def qFG (x y:List FracA):Bool:=decide (x.length=y.length)&&(x.zip y).all λp=>qCt p.1 p.2
def qAz (l:List FracA) (t m:Nat):Bool:=(decide (t<l.length)&& !decide (l.length=66))||l.any λx=>qAi x m
theorem ArrL.everywhere {α:Type} {L:Nat->Prop} {f:α->Value} {w:World} {v:Value} {xs:List α} (h:ArrL L f w v xs):ArrL (λ_=>True) f w v xs:=by
 obtain⟨A,c,e,k,l,m,n⟩:=h;refine⟨A,c,e,k,l,m,λj=>?_⟩;obtain⟨b,d,g,-,i⟩:=n j;exact⟨b,d,g,trivial,i⟩
theorem SeqE.answers {L:Nat->Prop} {w:World} {v:Value} {rs:List Rat} (h:SeqE (frK L) w v rs):SeqE inK w v (rs.map qJN):=by
 obtain⟨A,c,rfl,J,M,N,O⟩:=h;refine⟨A,c,by rw[List.length_map],by rw[List.length_map];exact J,M,N,λq=>?_⟩;rw[List.length_map]at q;obtain⟨b,i,F,G,S⟩:=O q;refine⟨b,i,F,G,λj r=>?_⟩;rw[List.length_map]at r;obtain⟨E,g,R⟩:=S j r;refine⟨E,?_,R⟩;rw[List.getElem_map];obtain⟨s,C,n,D,t,B,m,d,rfl,Q⟩:=g;have P:=Q.isA;obtain⟨k,o,l,p,f,H,I⟩:=P;injection f with f;have x:=congrArg (λa=>a[0]!) f;have y:=congrArg (λa=>a[1]!) f;have q2:=congrArg (λa=>a[2]!) f;have z:=congrArg (λa=>a[3]!) f;change Value.bool s=_ at x;change Value.slice C n D=_ at y;change Value.bool t=_ at q2;change Value.slice B m d=_ at z;rw[x,y,q2,z];exact⟨k,o,l,p,rfl,k,o,l,p,rfl,H.everywhere,I.everywhere⟩
theorem qBZ (vx vy:Value) (X Y:List FracA) (w:World) (hx:SeqE inK w vx X) (hy:SeqE inK w vy Y) (hlx:X.length<=1000000):
  Calls Tryz.prog 15 #[vx,vy] w λe w'=>e= .returned (.bool (qFG X Y))/\Le w w':=by
 obtain⟨AX,cX,rfl,-,-,-⟩:=hx.slice;obtain⟨AY,cY,rfl,a1,a2,-⟩:=hy.slice;unfold maxLen at a2;obtain⟨res,f⟩:∃r,qFG X Y=r:=⟨_,rfl⟩;have c:=f;unfold qFG at c;obtain⟨G,z⟩:∃n,X.length=n:=⟨_,rfl⟩;obtain⟨nY,A⟩:∃n,Y.length=n:=⟨_,rfl⟩;rw[f];rw[z]at hx hlx c ⊢;rw[A]at hy a1 c ⊢
 by_cases he:G=nY
 ·rw[decide_eq_true he,Bool.true_and]at c;subst he;have au:(X.zip Y).length =G:=by rw[List.length_zip,z,A,Nat.min_self]
  have⟨al,ao,ac,t,C,D,U⟩:=hyd7 hx hy f c z A au;clear au A z c f hy hx;go_enter Tryz.func15,Tryz.ntmps15;go_wp2_with (fail);go_loopw [5] (λi wr=>∃k:Nat,i= .int .i64 (k:Int)/\k<=G/\Hid (((X.zip Y).take k).all (λp=>qCt p.1 p.2)=true)/\Hid (Below w.heap.size w wr)) (λi _=>G - (intOf i).toNat)
  case atStart=>exact⟨0,rfl,Nat.zero_le _,Lib.hid rfl,Lib.hid (Below.refl _ _)⟩
  case round=>
   obtain⟨k,rfl,hk,m,V⟩:=hrel
   by_cases aa:k<G
   ·have ay:k<X.length:=by rw[C.out];exact aa
    have az:k<Y.length:=by rw[D.out];exact aa
    have ah:k<(X.zip Y).length :=by rw[U.out];exact aa
    obtain⟨I,J,cx,g,P,cs,ai,hc⟩:=(al.out.le V.out).at ay;rw[C.out]at g;injection g with g e2 e3;subst g e3;clear e2;obtain⟨H,L,cy,g,S,aZ,T,v⟩:=(ao.out.le V.out).at az;rw[D.out]at g;injection g with g e2 e3;subst g e3;clear e2;have ar:(X.zip Y)[k]=(X[k],Y[k]):=by rw[List.getElem_zip]
    have F:(X.zip Y).take (k+1)=(X.zip Y).take k++[(X.zip Y)[k]]:=by rw[List.take_succ_eq_append_getElem ah]
    have q:(X.zip Y)[k]∈X.zip Y:=List.getElem_mem ah;rw[ar]at F q;clear ar;generalize X[k]=x at ai F q;generalize Y[k]=y at T F q;obtain⟨A1,c1,B1,d1,rfl,am⟩:=ai;obtain⟨A2,c2,B2,d2,rfl,ap⟩:=T;have x0:wr.cell? ⟨I,J+k*4,none⟩=some (.bool x.sn):=hc 0 _ rfl;have x1:wr.cell? ⟨I,J+k*4+1,none⟩=some (.slice A1 x.gn.length c1):=hc 1 _ rfl;have x2:wr.cell? ⟨I,J+k*4+2,none⟩=some (.bool x.sd):=hc 2 _ rfl;have x3:wr.cell? ⟨I,J+k*4+3,none⟩=some (.slice B1 x.gd.length d1):=hc 3 _ rfl;have y0:wr.cell? ⟨H,L+k*4,none⟩=some (.bool y.sn):=v 0 _ rfl;have y1:wr.cell? ⟨H,L+k*4+1,none⟩=some (.slice A2 y.gn.length c2):=v 1 _ rfl;have y2:wr.cell? ⟨H,L+k*4+2,none⟩=some (.bool y.sd):=v 2 _ rfl;have y3:wr.cell? ⟨H,L+k*4+3,none⟩=some (.slice B2 y.gd.length d2):=v 3 _ rfl;obtain⟨sm,aj⟩:∃b,qCt x y=b:=⟨_,rfl⟩;have j1:(k:Int)<(G:Int):=by omega
    have j2:(0:Int)<=(k:Int):=by omega
    have⟨B,Z,ba,aM,an,aq,ak,ab⟩:=hyd8 m V hc v am ap F q;have⟨E,a7,a8,a9⟩:=hyd4 aj x0 x1 x2;clear x2 x1 x0 aj q F ap am v hc V m;have⟨aA,aB,ad,aC,aD⟩:=hyd5 x3 y0 y1 y2 y3;clear y3 y2 y1 y0 x3;go_wp2_with (fail);refine qAW (R:=leRel) 10 [some 17,some 18,some 19,some 20,some 21,some 22,some 23,some 24,some 25,some 26] [[],[],[0,1],[2],[],[],[4,5],[6],[3,7],[8]]
     [.eq (.slice (some ⟨I,J,none⟩) G cX),.eq (.int .i64 (k:Int)),.eq (.pointer (some ⟨I,J+k*4,none⟩)),.eq (.agg #[.bool x.sn,.slice A1 x.gn.length c1,.bool x.sd,.slice B1 x.gd.length d1]),.eq (.slice (some ⟨H,L,none⟩) G cY),.eq (.int .i64 (k:Int)),.eq (.pointer (some ⟨H,L+k*4,none⟩)),.eq (.agg #[.bool y.sn,.slice A2 y.gn.length c2,.bool y.sd,.slice B2 y.gd.length d2]),.eq (.bool sm),.eq (.bool (!sm))] (λ_ _=>False) (by kernel_rfl) (by kernel_rfl) (by kernel_rfl) (by kernel_rfl) (by kernel_rfl) ?_ (λ_ _ _ _ h=>h.elim) ?_
    ·simp only[List.take_succ_cons,List.take_zero];refine sMc rfl ?_ (sMc rfl ?_ (sMc rfl ?_ (sMc rfl ?_ (sMc rfl ?_ (sMc rfl ?_ (sMc rfl ?_ (sMc rfl ?_ (sMc rfl ?_ (sMc rfl ?_ (qA0))))))))))
     ·intro M W d j Q hK N;simp only[fA]at hK ⊢;go_wp2;exact hK _ _ lrR rfl
     ·intro M W d j Q hK N;simp only[fA]at hK ⊢;go_wp2;exact hK _ _ lrR rfl
     ·intro M W d j Q hK N;obtain⟨l,g,-⟩:=j;change _=_ at l g;simp only[fA,l,g]at hK ⊢;go_wp2;exact hK _ _ lrR rfl
     ·intro M W d j Q hK N;obtain⟨l,-⟩:=j;change _=_ at l;have t0:=(Below.cell d (p:=⟨I,J+k*4,none⟩) P).trans a7.out;have t1:=(Below.cell d (p:=⟨I,J+k*4+1,none⟩) P).trans a8.out;have t2:=(Below.cell d (p:=⟨I,J+k*4+2,none⟩) P).trans a9.out;have t3:=(Below.cell d (p:=⟨I,J+k*4+3,none⟩) P).trans aA.out;simp only[fA,l]at hK ⊢;go_wp2;exact hK _ _ lrR rfl
     ·intro M W d j Q hK N;simp only[fA]at hK ⊢;go_wp2;exact hK _ _ lrR rfl
     ·intro M W d j Q hK N;simp only[fA]at hK ⊢;go_wp2;exact hK _ _ lrR rfl
     ·intro M W d j Q hK N;obtain⟨l,g,-⟩:=j;change _=_ at l g;simp only[fA,l,g]at hK ⊢;go_wp2;exact hK _ _ lrR rfl
     ·intro M W d j Q hK N;obtain⟨l,-⟩:=j;change _=_ at l;have t0:=(Below.cell d (p:=⟨H,L+k*4,none⟩) S).trans aB.out;have t1:=(Below.cell d (p:=⟨H,L+k*4+1,none⟩) S).trans ad.out;have t2:=(Below.cell d (p:=⟨H,L+k*4+2,none⟩) S).trans aC.out;have t3:=(Below.cell d (p:=⟨H,L+k*4+3,none⟩) S).trans aD.out;simp only[fA,l]at hK ⊢;go_wp2;exact hK _ _ lrR rfl
     ·intro M W d j Q hK N;obtain⟨l,g,-⟩:=j;change _=_ at l g;simp only[fA,l,g]at hK ⊢;have kc:=qEe (λ_=>True) (λ_=>True) x y _ _ W (an.out.kp (Kp.of_le d)) (aq.out.kp (Kp.of_le d));rw[E.out]at kc;have a3:=hyd1 kc;clear kc;go_wp2_with (fail);go_at_call 20;refine a3.out.mono ?_;rintro e w' ⟨rfl,y1⟩;have ad:=hyd1 y1;clear y1;go_wp2;exact hK _ _ ad.out rfl
     ·intro M W d j Q hK N;obtain⟨l,-⟩:=j;change _=_ at l;simp only[fA,l]at hK ⊢;go_wp2;exact hK _ _ lrR rfl
    intro M W d j Q' ag _;have e9:=j 9 (by decide);change _=_ at e9;simp only[List.drop_succ_cons,List.drop_zero];rw[show List.range 10=[0,1,2,3,4,5,6,7,8,9]from rfl];simp only[fA,e9];clear j;clear e9;have O:=hyd1 d;clear d;go_wp2;refine ag _ _ ?_;clear ag;have d:=O.out;clear O;have s:Below w.heap.size w W:=(show Below w.heap.size w wr from Z.out.out).trans (d.mono Z.out.out.size)
    cases sm with
    | true=>
     have r1:((X.zip Y).take (k+1)).all (λp=>qCt p.1 p.2)=true:=by
      rw[ak.out,List.all_append,B.out.out];simp[E.out]
     have⟨a5,o,O⟩:=hyd3 r1 s d;clear d s r1;go_wp2;go_roundw
     case rel=>exact⟨k+1,by go_num,by omega,a5,o⟩
     case measure=>simp[intOf];omega
    | false=>
     have r1:res=false:=by
      rw[<-t.out,Bool.eq_false_iff];intro h;rw[List.all_eq_true]at h;have:=h _ ab.out;change qCt x y=true at this;rw[E.out]at this
      cases this
     have⟨o,O⟩:=hyd2 s d;clear d s;subst r1;go_wp2;go_ret;exact⟨rfl,o.out⟩
   ·obtain rfl:k=G:=by omega
    have j1:¬(k:Int)<(k:Int):=by omega
    have r1:res=true:=by rw[<-t.out,<-m.out,<-U.out,List.take_length]
    have s:=V.out;have⟨B,Z,o⟩:=hyd3 m V s;clear s V m;subst r1;go_wp2;go_ret;exact⟨rfl,o.out⟩
 ·rw[decide_eq_false he,Bool.false_and]at c;have j1:((G:Int)==(nY:Int))=false:=by simpa using λh=>he (by omega)
  have j2:¬(G:Int)=(nY:Int):=by omega
  have⟨al,ao,ac,C,D⟩:=hyd5 hx hy f z A;clear A z f hy hx;subst c;go_enter Tryz.func15,Tryz.ntmps15;go_wp2;go_ret;exact⟨rfl,Le.refl _⟩
theorem qEg (A:Option Addr) (n c:Nat) (l:List FracA) (t m:Nat) (w:World) (hn:l.length=n) (hv:SeqE inK w (.slice A n c) l) (ht:t<=1000) (hm:m<=1000) (hnl:n<=2000) (hc:(t<n/\n=66)):
  Calls Tryz.prog 22 #[.slice A n c,.int .i64 (t:Int),.int .i64 (m:Int)] w λe w'=>e= .returned (.bool (l.any λx=>qAi x m))/\Le w w':=by
 obtain⟨res,q⟩:∃r,(l.any λx=>qAi x m)=r:=⟨_,rfl⟩;rw[q];have j1:(t:Int)<(n:Int):=by omega
 have j2:((n:Int) != 66)=false:=by rw[show(n:Int)=66 by omega];rfl
 have⟨S,s,C,ab⟩:=hyd4 hv q hn hc;clear hc hn q hv;go_enter Tryz.func22,Tryz.ntmps22;go_wp2_with (fail);go_loopw [7] (λi wr=>∃k:Nat,i= .int .i64 (k:Int)/\k<=n/\Hid (((l.take k).any λx=>qAi x m)=false)/\Hid (Below w.heap.size w wr)) (λi _=>n - (intOf i).toNat)
 case atStart=>exact⟨0,rfl,Nat.zero_le _,Lib.hid rfl,Lib.hid (Below.refl _ _)⟩
 case round=>
  obtain⟨k,rfl,hk,f,G⟩:=hrel
  by_cases R:k<n
  ·have z:k<l.length:=by rw[C.out];exact R
   obtain⟨N,P,cx,O,ac,cs,I,h⟩:=(S.out.le G.out).at z;rw[C.out]at O;injection O with O e2 e3;subst O e3;clear e2;have E:l.take (k+1)=l.take k++[l[k]]:=by rw[List.take_succ_eq_append_getElem z]
   have p:l[k]∈l:=List.getElem_mem z;generalize l[k]=x at I E p;obtain⟨X,Z,Y,d1,rfl,F⟩:=I;have x0:wr.cell? ⟨N,P+k*4,none⟩=some (.bool x.sn):=h 0 _ rfl;have x1:wr.cell? ⟨N,P+k*4+1,none⟩=some (.slice X x.gn.length Z):=h 1 _ rfl;have x2:wr.cell? ⟨N,P+k*4+2,none⟩=some (.bool x.sd):=h 2 _ rfl;have x3:wr.cell? ⟨N,P+k*4+3,none⟩=some (.slice Y x.gd.length d1):=h 3 _ rfl;have T:=qEW (λ_=>True) x m _ wr (by omega) F;obtain⟨sm,D⟩:∃b,qAi x m=b:=⟨_,rfl⟩;rw[D]at T;have j5:(k:Int)<(n:Int):=by omega
   have j6:(0:Int)<=(k:Int):=by omega
   have⟨j,o,U,V,J,B,v,L⟩:=hyd8 f G h F E p D T;clear T D p E F h G f
   cases sm with
   | true=>
    go_wp2_with (fail);go_at_call 5;refine L.out.mono ?_;rintro e W ⟨rfl,y⟩;have g:Below w.heap.size w W:=(show Below w.heap.size w wr from o.out.out).trans (y.mono o.out.out.size)
    have H:res=true:=by
     rw[<-s.out,List.any_eq_true];exact⟨x,B.out,v.out⟩
    have⟨d,Q⟩:=hyd2 g y;clear y g;subst H;go_wp2;go_ret;exact⟨rfl,d.out⟩
   | false=>
    go_wp2_with (fail);go_at_call 5;refine L.out.mono ?_;rintro e W ⟨rfl,y⟩;have g:Below w.heap.size w W:=(show Below w.heap.size w wr from o.out.out).trans (y.mono o.out.out.size)
    have H:((l.take (k+1)).any λx=>qAi x m)=false:=by
     rw[J.out,List.any_append,j.out.out];simp[v.out]
    have⟨M,d,Q⟩:=hyd3 H g y;clear y g H;go_wp2;go_roundw
    case rel=>
     first
     | exact⟨k+1,by go_num,by omega,M,d⟩
     | (refine⟨_,_,_,_,_,_,_,_,_,_,_,_,_,_,⟨k+1,?_,?_,M,d⟩,rfl⟩<;>first |omega|go_num)
    case measure=>simp[intOf];omega
  ·obtain rfl:k=n:=by omega
   have j5:¬(k:Int)<(k:Int):=by omega
   have H:res=false:=by rw[<-s.out,<-f.out,<-C.out,List.take_length]
   have g:=G.out;have⟨j,o,d⟩:=hyd3 f G g;clear g G f;subst H;go_wp2;go_ret;exact⟨rfl,d.out⟩
theorem qFH (A:Option Addr) (n c:Nat) (l:List FracA) (t m:Nat) (w:World) (hn:l.length=n) (hv:SeqE inK w (.slice A n c) l) (ht:t<=1000) (hm:m<=1000) (hnl:n<=2000) (hc:(¬t<n)):
  Calls Tryz.prog 22 #[.slice A n c,.int .i64 (t:Int),.int .i64 (m:Int)] w λe w'=>e= .returned (.bool (l.any λx=>qAi x m))/\Le w w':=by
 obtain⟨res,q⟩:∃r,(l.any λx=>qAi x m)=r:=⟨_,rfl⟩;rw[q];have j1:¬(t:Int)<(n:Int):=by omega
 have j2:=hnl;have⟨S,s,C,ab⟩:=hyd4 hv q hn hc;clear hc hn q hv;go_enter Tryz.func22,Tryz.ntmps22;go_wp2_with (fail);go_loopw [7] (λi wr=>∃k:Nat,i= .int .i64 (k:Int)/\k<=n/\Hid (((l.take k).any λx=>qAi x m)=false)/\Hid (Below w.heap.size w wr)) (λi _=>n - (intOf i).toNat)
 case atStart=>exact⟨0,rfl,Nat.zero_le _,Lib.hid rfl,Lib.hid (Below.refl _ _)⟩
 case round=>
  obtain⟨k,rfl,hk,f,G⟩:=hrel
  by_cases R:k<n
  ·have z:k<l.length:=by rw[C.out];exact R
   obtain⟨N,P,cx,O,ac,cs,I,h⟩:=(S.out.le G.out).at z;rw[C.out]at O;injection O with O e2 e3;subst O e3;clear e2;have E:l.take (k+1)=l.take k++[l[k]]:=by rw[List.take_succ_eq_append_getElem z]
   have p:l[k]∈l:=List.getElem_mem z;generalize l[k]=x at I E p;obtain⟨X,Z,Y,d1,rfl,F⟩:=I;have x0:wr.cell? ⟨N,P+k*4,none⟩=some (.bool x.sn):=h 0 _ rfl;have x1:wr.cell? ⟨N,P+k*4+1,none⟩=some (.slice X x.gn.length Z):=h 1 _ rfl;have x2:wr.cell? ⟨N,P+k*4+2,none⟩=some (.bool x.sd):=h 2 _ rfl;have x3:wr.cell? ⟨N,P+k*4+3,none⟩=some (.slice Y x.gd.length d1):=h 3 _ rfl;have T:=qEW (λ_=>True) x m _ wr (by omega) F;obtain⟨sm,D⟩:∃b,qAi x m=b:=⟨_,rfl⟩;rw[D]at T;have j5:(k:Int)<(n:Int):=by omega
   have j6:(0:Int)<=(k:Int):=by omega
   have⟨j,o,U,V,J,B,v,L⟩:=hyd8 f G h F E p D T;clear T D p E F h G f
   cases sm with
   | true=>
    go_wp2_with (fail);go_at_call 5;refine L.out.mono ?_;rintro e W ⟨rfl,y⟩;have g:Below w.heap.size w W:=(show Below w.heap.size w wr from o.out.out).trans (y.mono o.out.out.size)
    have H:res=true:=by
     rw[<-s.out,List.any_eq_true];exact⟨x,B.out,v.out⟩
    have⟨d,Q⟩:=hyd2 g y;clear y g;subst H;go_wp2;go_ret;exact⟨rfl,d.out⟩
   | false=>
    go_wp2_with (fail);go_at_call 5;refine L.out.mono ?_;rintro e W ⟨rfl,y⟩;have g:Below w.heap.size w W:=(show Below w.heap.size w wr from o.out.out).trans (y.mono o.out.out.size)
    have H:((l.take (k+1)).any λx=>qAi x m)=false:=by
     rw[J.out,List.any_append,j.out.out];simp[v.out]
    have⟨M,d,Q⟩:=hyd3 H g y;clear y g H;go_wp2;go_roundw
    case rel=>
     first
     | exact⟨k+1,by go_num,by omega,M,d⟩
     | (refine⟨_,_,_,_,_,_,_,_,_,_,_,_,_,_,⟨k+1,?_,?_,M,d⟩,rfl⟩<;>first |omega|go_num)
    case measure=>simp[intOf];omega
  ·obtain rfl:k=n:=by omega
   have j5:¬(k:Int)<(k:Int):=by omega
   have H:res=false:=by rw[<-s.out,<-f.out,<-C.out,List.take_length]
   have g:=G.out;have⟨j,o,d⟩:=hyd3 f G g;clear g G f;subst H;go_wp2;go_ret;exact⟨rfl,d.out⟩
theorem qCq (v:Value) (l:List FracA) (t m:Nat) (w:World) (hv:SeqE inK w v l) (ht:t<=1000) (hm:m<=1000) (h66:t≠66):
  Calls Tryz.prog 22 #[v,.int .i64 (t:Int),.int .i64 (m:Int)] w λe w'=>e= .returned (.bool (qAz l t m))/\Le w w':=by
 obtain⟨A,c,rfl,o,p,-⟩:=hv.slice;unfold maxLen at p;obtain⟨res,d⟩:∃r,qAz l t m=r:=⟨_,rfl⟩;have b:=d;unfold qAz at b;obtain⟨n,i⟩:∃n,l.length=n:=⟨_,rfl⟩;rw[d];rw[i]at hv o b ⊢
 by_cases g:t<n/\¬n=66
 ·rw[decide_eq_true g.1,decide_eq_false g.2]at b;change true=res at b;subst b;have y:(t:Int)<(n:Int):=by omega
  have z:((n:Int)==66)=false:=by simpa using λh=>g.2 (by omega)
  have B:¬n=66:=g.2;have⟨s,j,q⟩:=hyd3 hv d i;clear i d hv;go_enter Tryz.func22,Tryz.ntmps22;go_wp2;go_ret;exact⟨rfl,Le.refl _⟩
 ·by_cases f:t<n
  ·have k:n=66:=Classical.byContradiction λh=>g ⟨f,h⟩;rw[decide_eq_true f,decide_eq_true k]at b;change (l.any λx=>qAi x m)=res at b;rw[<-b];exact qEg A n c l t m w i hv ht hm (by omega) ⟨f,k⟩
  ·rw[decide_eq_false f,Bool.false_and,Bool.false_or]at b;rw[<-b];exact qFH A n c l t m w i hv ht hm (by omega) f
end Go.Proofs.YtcoajjdhkhgfdaaGreat

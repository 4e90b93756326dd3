/- The reference of layer 3: SameInts, heights, Check, CheckRubber, Great. read.valid, read.Check: whether a picture is valid. -/
import Derived.Test.YtabfaobakmjiaaaGreatPy06
namespace Go.Proofs.YtabfaobakmjiaaaGreat
set_option maxRecDepth 100000
open Go.RowKit
set_option linter.unusedVariables false
set_option linter.unusedSimpArgs false
set_option maxHeartbeats 2000000
theorem qAA {w W:World} (h:Below w.heap.size w W) {V:World} (k:Below W.heap.size W V):Below w.heap.size w V:=h.trans (k.mono h.size)
theorem qK9 {α:Type} [Inhabited α] {l:List α} {q:α->Bool} (h:∀i (hi:i<l.length),q l[i]=true):l.all q=true:=by
 rw[List.all_eq_true];intro x b;obtain⟨i,hi,rfl⟩:=List.getElem_of_mem b;exact h i hi
theorem qKa {α:Type} {l:List α} {q:α->Bool} {i:Nat} (hi:i<l.length) (h:q l[i]=false):l.all q=false:=by
 cases e:l.all q with
 | false=>rfl
 | true=>rw[List.all_eq_true]at e;rw[e _ (List.getElem_mem hi)]at h;cases h
theorem qKb {p:Pic} (h:0<p.hs.length):p.steps=p.hs[0].ros.length :=by unfold Pic.steps;rw[List.getD_eq_getElem?_getD,List.getElem?_eq_getElem h];rfl
theorem qLt (v:Value) (p:Pic) (w:World) (hp:IsPic w v p) (hf:p.Fit):Calls Tryz.prog 57 #[v] w λe w'=>e= .returned (.bool (picB p))/\Below w.heap.size w w':=by
 obtain⟨vh,vr,rfl,hh,hr⟩:=hp;obtain⟨HA,hc,rfl,bf⟩:=hh.slice;obtain⟨RA,rc,rfl,bg⟩:=hr.slice;obtain⟨W0,bd,y,k0⟩:=newb w (.cells #[.slice HA p.hs.length hc,.int .i64 p.tl,.int .i64 p.th,.int .i64 p.al,.int .i64 p.ah,.slice RA p.rds.length rc] 51);obtain⟨c0,c1,c2,c3,c4,c5⟩:=pc6 k0;unfold maxLen at bf bg;have w1:=λW=>qAv (p.hs.length:Int) 1 4 W;have w2:=λW=>qAv (p.rds.length:Int) 1 60 W;obtain⟨B1,o⟩:∃B,qAE (p.hs.length:Int) 1 4=B:=⟨_,rfl⟩;obtain⟨B2,q⟩:∃B,qAE (p.rds.length:Int) 1 60=B:=⟨_,rfl⟩;rw[o]at w1;rw[q]at w2;have q1:decide (1<=p.hs.length/\p.hs.length<=4)=B1:=by rw[<-o];unfold qAE;rw[Bool.decide_and];congr 1<;>simp<;>omega
 have q2:decide (1<=p.rds.length/\p.rds.length<=60)=B2:=by rw[<-q];unfold qAE;rw[Bool.decide_and];congr 1<;>simp<;>omega
 have E:picB p=(B1&&(B2&&(p.hs.all (qEa p.steps)&&(setB p&&p.rds.all (rdB p.steps))))):=by unfold picB;rw[q1,q2]
 clear q1 q2
 cases B1 with
 | false=>
  have⟨a6,aB,aa,aq,ae,af,t,T⟩:=hyd8 hh hr hf k0 o q E w1;have⟨ad,s⟩:=hyd2 w2 y;clear y w2 w1 E q o k0 hf hr hh;go_enter Tryz.func57,Tryz.ntmps57;go_wp2_with (first | (go_at_call 28;((with_reducible refine(T.out _).mono ?_);rintro e w' ⟨rfl,rfl⟩)));go_ret;exact⟨by rw[t.out];rfl,s.out⟩
 | true=>
  cases B2 with
  | false=>
   have⟨a6,aB,aa,aq,ae,af,t,T⟩:=hyd8 hh hr hf k0 o q E w1;have⟨ad,s⟩:=hyd2 w2 y;clear y w2 w1 E q o k0 hf hr hh;go_enter Tryz.func57,Tryz.ntmps57;go_wp2_with (first | (go_at_call 28;((with_reducible refine(T.out _).mono ?_);rintro e w' ⟨rfl,rfl⟩))| (go_at_call 28;((with_reducible refine(ad.out _).mono ?_);rintro e w' ⟨rfl,rfl⟩)));go_ret;exact⟨by rw[t.out];rfl,s.out⟩
  | true=>
   have b9:1<=p.hs.length/\p.hs.length<=4:=by unfold qAE at o;simp at o;omega
   have bn:1<=p.rds.length/\p.rds.length<=60:=by unfold qAE at q;simp at q;omega
   have an:=qKb (p:=p) (by omega);obtain⟨b,off,bC,bT,bR,L,bA,d0,d1,i0,i1⟩:=(hh.le y).at (j:=0) (by omega);injection L with e1 e2 e3;subst e1 e3;clear e2 d1 i1;rw[Nat.zero_mul,Nat.add_zero]at d0;obtain⟨A0,b5,rfl,-⟩:=id i0;rw[<-an]at d0;have br:(0:Int)<(p.hs.length:Int):=by omega
   have az:Below W0.heap.size W0 W0:=Below.refl _ _;have a7:=hh.le y;have aC:=hr.le y;have⟨a6,aB,aa,aq,ae,af,t,T⟩:=hyd8 hh hr hf k0 o q E w1;have⟨ad,s,bs,bH,a0,a8,aD⟩:=hyd7 w2 y an i0 az a7 aC;clear aC a7 az i0 an y w2 w1 E q o k0 hf hr hh;go_enter Tryz.func57,Tryz.ntmps57;go_wp2_with (first | (go_at_call 28;((with_reducible refine(T.out _).mono ?_);rintro e w' ⟨rfl,rfl⟩))| (go_at_call 28;((with_reducible refine(ad.out _).mono ?_);rintro e w' ⟨rfl,rfl⟩)));clear bd;go_loopw [29] (λix wr=>∃j:Nat,j<=p.hs.length/\ix= .int .i64 j/\Hid (Below W0.heap.size W0 wr/\∀i (N:i<p.hs.length),i<j->qEa p.steps p.hs[i]=true)) (λix _=>p.hs.length - (intOf ix).toNat)
   case atStart=>exact⟨0,Nat.zero_le _,rfl,Lib.hid ⟨a0.out,λi _ h=>absurd h (Nat.not_lt_zero i)⟩⟩
   case round=>
    obtain⟨j,hj,rfl,hI⟩:=hrel;obtain⟨r,n⟩:=hI.out
    by_cases O:j<p.hs.length
    ·obtain⟨b2,aJ,bD,vr,vb,L,a3,d3,d4,i3,i4⟩:=(a8.out.le r).at O;injection L with e1 e2 e3;injection e1 with e1;injection e1 with e1 e4;subst e1 e3 e4;clear e2;obtain⟨A1,aW,rfl,-⟩:=id i3;obtain⟨A2,aX,rfl,-⟩:=id i4;obtain⟨W2,be,g,k2⟩:=newb wr (.cells #[.slice A1 p.hs[j].ros.length aW,.slice A2 p.hs[j].rub.length aX] 113);obtain⟨g0,g1⟩:=pc2 k2;have j1:(j:Int)<(p.hs.length:Int):=by omega
     have j2:(0:Int)<=(j:Int):=by omega
     obtain⟨R,X⟩:∃R,qAY p.hs[j].ros =R:=⟨_,rfl⟩;obtain⟨U,Y⟩:∃R,qAo p.hs[j].rub (p.steps:Int)=R:=⟨_,rfl⟩;have kr:=qB3 _ p.hs[j].ros W2 (i3.below g) R X;have ku:=qEQ _ p.hs[j].rub (p.steps:Int) W2 (i4.below g) U Y;have z:=qAA s.out (qAA r g);have I:=qAA r g;have a9:qEa p.steps p.hs[j]=(decide (p.hs[j].ros.length =p.steps)&&(R&&U)):=by unfold qEa;rw[X,Y]
     have l:qEa p.steps p.hs[j]=false->picB p=false:=λh=>by rw[t.out,qKa O h];rfl
     generalize hLL:p.hs[j].ros.length =LL at*;generalize hMM:p.hs[j].rub.length =MM at*;have⟨aZ,a5,C,bJ,bK,a2,bi,bb⟩:=hyd8 hI r n i3 i4 g k2 X;have⟨bc,au,aI,c,J,D,d,bo⟩:=hyd8 Y kr ku z I a9 l hLL;have bp:=hyd1 hMM;clear hMM hLL l a9 I z ku kr Y X k2 g i4 i3 n r hI
     by_cases hl:LL=p.steps
     ·subst hl
      cases R with
      | false=>
       go_wp2_with (first | (go_at_call 50;((with_reducible refine(au.out).mono ?_);rintro e w' ⟨rfl,rfl⟩)));go_ret;exact⟨by rw[d.out (by rw[D.out];simp)];rfl,c.out⟩
      | true=>
       cases U with
       | false=>
        go_wp2_with (first | (go_at_call 50;((with_reducible refine(au.out).mono ?_);rintro e w' ⟨rfl,rfl⟩))| (go_at_call 104;((with_reducible refine(aI.out).mono ?_);rintro e w' ⟨rfl,rfl⟩)));go_ret;exact⟨by rw[d.out (by rw[D.out];simp)];rfl,c.out⟩
       | true=>
        go_wp2_with (first | (go_at_call 50;((with_reducible refine(au.out).mono ?_);rintro e w' ⟨rfl,rfl⟩))| (go_at_call 104;((with_reducible refine(aI.out).mono ?_);rintro e w' ⟨rfl,rfl⟩)));go_roundw
        case rel=>exact⟨j+1,by omega,by go_num,Lib.hid ⟨J.out,λi N bE=>by
         by_cases e:i=j
         ·subst e;rw[D.out];simp
         ·exact C.out i N (by omega)⟩⟩
        case measure=>simp[intOf];omega
     ·have bG:¬(LL:Int)=(p.steps:Int):=by omega
      go_wp2;go_ret;exact⟨by rw[d.out (by rw[D.out];simp[hl])];rfl,c.out⟩
    ·obtain rfl:j=p.hs.length:=by omega
     have G:p.hs.all (qEa p.steps)=true:=qK9 λi N=>n i N N;have kb:=blk r aq.out;clear c0 c1 c2 c3 c4 c5;obtain⟨c0,c1,c2,c3,c4,c5⟩:=pc6 kb;have z:=qAA s.out r;obtain⟨f1,f2⟩:=aa.out.al;obtain⟨f3,f4⟩:=aa.out.ah;have P:∀B,setB p=B->picB p=(B&&p.rds.all (rdB p.steps)):=λB h=>by rw[t.out,G,h];rfl
     have aA:setB p=false->picB p=false:=λh=>by rw[P _ h];rfl
     have aH:setB p=(decide (1<=p.tl)&&(decide (p.tl<=p.th)&&(decide (p.th<=16)&&(decide (-1000<=p.al)&&(decide (p.al<=p.ah)&&(decide (p.ah<=1000)&&decide (p.ah - p.al<=40))))))):=rfl;have aE:=aD.out.le r;have⟨aZ,a5,C,ak,bN,c,Q,m⟩:=hyd8 hI r n G kb z P aA;have⟨f,aF⟩:=hyd2 aH aE;clear aE aH aA P z kb G n r hI
     by_cases s1:p.tl<1
     ·go_wp2;go_ret;exact⟨by rw[m.out (by rw[f.out];simp;omega)];rfl,c.out⟩
     by_cases s2:p.th<p.tl
     ·go_wp2;go_ret;exact⟨by rw[m.out (by rw[f.out];simp;omega)];rfl,c.out⟩
     by_cases s3:16<p.th
     ·go_wp2;go_ret;exact⟨by rw[m.out (by rw[f.out];simp;omega)];rfl,c.out⟩
     by_cases s4:p.al< -1000
     ·go_wp2;go_ret;exact⟨by rw[m.out (by rw[f.out];simp;omega)];rfl,c.out⟩
     by_cases s5:p.ah<p.al
     ·go_wp2;go_ret;exact⟨by rw[m.out (by rw[f.out];simp;omega)];rfl,c.out⟩
     by_cases s6:1000<p.ah
     ·go_wp2;go_ret;exact⟨by rw[m.out (by rw[f.out];simp;omega)];rfl,c.out⟩
     have s9: -9223372036854775808<=p.ah - p.al:=by omega
     have bQ:p.ah - p.al<=9223372036854775807:=by omega
     by_cases s7:40<p.ah - p.al
     ·go_wp2;go_ret;exact⟨by rw[m.out (by rw[f.out];simp;omega)];rfl,c.out⟩
     have aj:setB p=true:=by rw[f.out];simp;omega
     have S:=hyd1 aj;clear aj
     obtain⟨bt,bu⟩:p.steps<=1000000/\True:=by
      have h:=ak.out;rw[List.all_eq_true]at h;have h2:=h _ (List.getElem_mem (show 0<p.hs.length by omega));unfold qEa at h2;simp only[Bool.and_eq_true,decide_eq_true_eq]at h2;have h3:=(rosOk_iff.1 h2.2.1).2.1;have h4:=h2.1;exact⟨by omega,trivial⟩
     go_wp2_with (fail);clear c0 c1 c2 c3 c4 c5;rename World=>wo
     go_loopw [93] (λix wq=>∃k:Nat,k<=p.rds.length/\ix= .int .i64 k/\Hid (Below wo.heap.size wo wq/\∀i (N:i<p.rds.length),i<k->rdB p.steps p.rds[i]=true)) (λix _=>p.rds.length - (intOf ix).toNat)
     case atStart=>exact⟨0,Nat.zero_le _,rfl,Lib.hid ⟨Below.refl _ _,λi _ h=>absurd h (Nat.not_lt_zero i)⟩⟩
     case round=>
      obtain⟨k,hk,rfl,hJ⟩:=hrel;obtain⟨A,n⟩:=hJ.out
      by_cases O:k<p.rds.length
      ·obtain⟨b2,aJ,bP,L,a3,g0,g1,g2,g3⟩:=RdsL.cells (aF.out.le A) O;injection L with e1 e2 e3;subst e1 e3;clear e2;obtain⟨W2,be,g,k2⟩:=newb wr (.cells #[.int .i64 p.rds[k].cut,.int .i64 p.rds[k].step,.int .i64 p.rds[k].lo,.int .i64 p.rds[k].hi] 60);obtain⟨d0,d1,d2,d3⟩:=pc4 k2;have j1:(k:Int)<(p.rds.length:Int):=by omega
       have j2:(0:Int)<=(k:Int):=by omega
       have w3:=λW=>qAv p.rds[k].cut 0 11 W;have w4:=λW=>qAv p.rds[k].step 0 ((p.steps:Int) - 1) W;obtain⟨R,X⟩:∃R,qAE p.rds[k].cut 0 11=R:=⟨_,rfl⟩;obtain⟨U,Y⟩:∃R,qAE p.rds[k].step 0 ((p.steps:Int) - 1)=R:=⟨_,rfl⟩;rw[X]at w3;rw[Y]at w4;have z:=qAA c.out (qAA A g);have I:=qAA A g
       have aG:rdB p.steps p.rds[k]=(R&&(U&&(decide (-300000<=p.rds[k].lo)&&(decide (p.rds[k].lo <=p.rds[k].hi)&&decide (p.rds[k].hi <=300000))))):=by
        unfold rdB;rw[<-X,<-Y];unfold qAE;rw[Bool.decide_and,Bool.decide_and]
       have l:rdB p.steps p.rds[k]=false->picB p=false:=λh=>by rw[Q.out _ S.out,qKa O h];rfl
       have⟨ba,a4,C,a2,bi,bb,bc,F⟩:=hyd8 hJ A n g k2 X Y w3;have⟨V,c,J,x,d⟩:=hyd5 w4 z I aG l;clear l aG I z w4 w3 Y X k2 g n A hJ
       cases R with
       | false=>
        go_wp2_with (first | (go_at_call 28;((with_reducible refine(F.out _).mono ?_);rintro e w' ⟨rfl,rfl⟩)));go_ret;exact⟨by rw[d.out (by rw[x.out];simp)];rfl,c.out⟩
       | true=>
        cases U with
        | false=>
         go_wp2_with (first | (go_at_call 28;((with_reducible refine(F.out _).mono ?_);rintro e w' ⟨rfl,rfl⟩))| (go_at_call 28;((with_reducible refine(V.out _).mono ?_);rintro e w' ⟨rfl,rfl⟩)));go_ret;exact⟨by rw[d.out (by rw[x.out];simp)];rfl,c.out⟩
        | true=>
         by_cases t1:p.rds[k].lo < -300000
         ·go_wp2_with (first | (go_at_call 28;((with_reducible refine(F.out _).mono ?_);rintro e w' ⟨rfl,rfl⟩))| (go_at_call 28;((with_reducible refine(V.out _).mono ?_);rintro e w' ⟨rfl,rfl⟩)));go_ret;exact⟨by rw[d.out (by rw[x.out];simp;omega)];rfl,c.out⟩
         by_cases t2:p.rds[k].hi <p.rds[k].lo
         ·go_wp2_with (first | (go_at_call 28;((with_reducible refine(F.out _).mono ?_);rintro e w' ⟨rfl,rfl⟩))| (go_at_call 28;((with_reducible refine(V.out _).mono ?_);rintro e w' ⟨rfl,rfl⟩)));go_ret;exact⟨by rw[d.out (by rw[x.out];simp;omega)];rfl,c.out⟩
         by_cases t3:300000<p.rds[k].hi
         ·go_wp2_with (first | (go_at_call 28;((with_reducible refine(F.out _).mono ?_);rintro e w' ⟨rfl,rfl⟩))| (go_at_call 28;((with_reducible refine(V.out _).mono ?_);rintro e w' ⟨rfl,rfl⟩)));go_ret;exact⟨by rw[d.out (by rw[x.out];simp;omega)];rfl,c.out⟩
         have M:rdB p.steps p.rds[k]=true:=by rw[x.out];simp;omega
         have ab:=hyd1 M;clear M;go_wp2_with (first | (go_at_call 28;((with_reducible refine(F.out _).mono ?_);rintro e w' ⟨rfl,rfl⟩))| (go_at_call 28;((with_reducible refine(V.out _).mono ?_);rintro e w' ⟨rfl,rfl⟩)));go_roundw
         case rel=>exact⟨k+1,by omega,by go_num,Lib.hid ⟨J.out,λi N bF=>by
          by_cases e:i=k
          ·subst e;exact ab.out
          ·exact C.out i N (by omega)⟩⟩
         case measure=>simp[intOf];omega
      ·obtain rfl:k=p.rds.length:=by omega
       have H:p.rds.all (rdB p.steps)=true:=qK9 λi N=>n i N N;have ag:=qAA c.out A;have⟨ba,a4,C,Z,am⟩:=hyd5 hJ A n H ag;clear ag H n A hJ;go_wp2;go_ret;exact⟨by rw[Q.out _ S.out,Z.out];rfl,am.out⟩
theorem qFZ (v:Value) (p:Pic) (w:World) (hp:IsPic w v p) (hf:p.Fit):Calls Tryz.prog 24 #[v] w λe w'=>e= .returned (.int .i64 (picE p))/\Below w.heap.size w w':=by
 have f:=hp;obtain⟨E,F,rfl,k,l⟩:=hp;obtain⟨s,y,c,o⟩:=newb w (.cells #[E,.int .i64 p.tl,.int .i64 p.th,.int .i64 p.al,.int .i64 p.ah,F] 51);obtain⟨G,Q,rfl,-⟩:=k.slice;obtain⟨H,R,rfl,-⟩:=l.slice;obtain⟨J,L,M,N,O,P⟩:=pc6 o;have m:=qLt _ p s (f.le c) hf;obtain⟨B,i⟩:∃B,picB p=B:=⟨_,rfl⟩;have j:picE p=if B then 0 else 90:=by unfold picE;rw[i]
 rw[i]at m;rw[j];have⟨r,A,C,z,D,g,t,x⟩:=hyd8 f k l hf o c i j;have n:=hyd1 m;clear m j i c o hf l k f;go_enter Tryz.func24,Tryz.ntmps24;go_wp2_with (fail);go_at_call 57;refine n.out.mono ?_;rintro e I ⟨rfl,d⟩;have h:=qAA g.out d;have⟨q,b⟩:=hyd2 d h;clear h d
 cases B with
 | true=>
  go_wp2;go_ret;exact⟨rfl,b.out⟩
 | false=>
  go_wp2;go_ret;exact⟨rfl,b.out⟩
end Go.Proofs.YtabfaobakmjiaaaGreat

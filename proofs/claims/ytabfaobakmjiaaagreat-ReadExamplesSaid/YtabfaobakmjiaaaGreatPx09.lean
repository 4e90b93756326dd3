/- The reference of layer 3: SameInts, heights, Check, CheckRubber, Great. read.valid, read.Check: whether a picture is valid. The reference's Steps and Check: .. -/
import Derived.Test.YtabfaobakmjiaaaGreatPx07
import Derived.StillTail
namespace Go.Proofs.YtabfaobakmjiaaaGreat
set_option maxRecDepth 100000
open Go.RowKit
set_option linter.unusedVariables false
set_option linter.unusedSimpArgs false
set_option maxHeartbeats 2000000
theorem qAA {w W:World} (h:Below w.heap.size w W) {V:World} (k:Below W.heap.size W V):Below w.heap.size w V:=h.trans (k.mono h.size)
theorem qLO {α:Type} [Inhabited α] {l:List α} {q:α->Bool} (h:∀i (hi:i<l.length),q l[i]=true):l.all q=true:=by
 rw[List.all_eq_true];intro x b;obtain⟨i,hi,rfl⟩:=List.getElem_of_mem b;exact h i hi
theorem qLP {α:Type} {l:List α} {q:α->Bool} {i:Nat} (hi:i<l.length) (h:q l[i]=false):l.all q=false:=by
 cases e:l.all q with
 | false=>rfl
 | true=>rw[List.all_eq_true]at e;rw[e _ (List.getElem_mem hi)]at h;cases h
theorem qLQ {p:Pic} (h:0<p.hs.length):p.steps=p.hs[0].ros.length :=by unfold Pic.steps;rw[List.getD_eq_getElem?_getD,List.getElem?_eq_getElem h];rfl
theorem qM8 (v:Value) (p:Pic) (w:World) (hp:IsPic w v p) (hf:p.Fit):Calls Tryz.prog 57 #[v] w λe w'=>e= .returned (.bool (picB p))/\Below w.heap.size w w':=by
 obtain⟨vh,vr,rfl,hh,hr⟩:=hp;obtain⟨HA,hc,rfl,bk⟩:=hh.slice;obtain⟨RA,rc,rfl,bl⟩:=hr.slice;obtain⟨W0,bi,A,k0⟩:=newb w (.cells #[.slice HA p.hs.length hc,.int .i64 p.tl,.int .i64 p.th,.int .i64 p.al,.int .i64 p.ah,.slice RA p.rds.length rc] 51);obtain⟨c0,c1,c2,c3,c4,c5⟩:=pc6 k0;unfold maxLen at bk bl;have w1:=λW=>qAl (p.hs.length:Int) 1 4 W;have w2:=λW=>qAl (p.rds.length:Int) 1 60 W;obtain⟨B1,r⟩:∃B,qAC (p.hs.length:Int) 1 4=B:=⟨_,rfl⟩;obtain⟨B2,s⟩:∃B,qAC (p.rds.length:Int) 1 60=B:=⟨_,rfl⟩;rw[r]at w1;rw[s]at w2;have q1:decide (1<=p.hs.length/\p.hs.length<=4)=B1:=by rw[<-r];unfold qAC;rw[Bool.decide_and];congr 1<;>simp<;>omega
 have q2:decide (1<=p.rds.length/\p.rds.length<=60)=B2:=by rw[<-s];unfold qAC;rw[Bool.decide_and];congr 1<;>simp<;>omega
 have I:picB p=(B1&&(B2&&(p.hs.all (qEr p.steps)&&(setB p&&p.rds.all (rdB p.steps))))):=by unfold picB;rw[q1,q2]
 clear q1 q2
 cases B1 with
 | false=>
  have⟨aB,aG,af,ax,ak,am,y,aa⟩:=hyd8 hh hr hf k0 r s I w1;have⟨aj,x⟩:=hyd2 w2 A;clear A w2 w1 I s r k0 hf hr hh;go_enter Tryz.func57,Tryz.ntmps57;go_wp2_with (first | (go_at_call 28;((with_reducible refine(aa.out _).mono ?_);rintro e w' ⟨rfl,rfl⟩)));go_ret;exact⟨by rw[y.out];rfl,x.out⟩
 | true=>
  cases B2 with
  | false=>
   have⟨aB,aG,af,ax,ak,am,y,aa⟩:=hyd8 hh hr hf k0 r s I w1;have⟨aj,x⟩:=hyd2 w2 A;clear A w2 w1 I s r k0 hf hr hh;go_enter Tryz.func57,Tryz.ntmps57;go_wp2_with (first | (go_at_call 28;((with_reducible refine(aa.out _).mono ?_);rintro e w' ⟨rfl,rfl⟩))| (go_at_call 28;((with_reducible refine(aj.out _).mono ?_);rintro e w' ⟨rfl,rfl⟩)));go_ret;exact⟨by rw[y.out];rfl,x.out⟩
  | true=>
   have bE:1<=p.hs.length/\p.hs.length<=4:=by unfold qAC at r;simp at r;omega
   have bs:1<=p.rds.length/\p.rds.length<=60:=by unfold qAC at s;simp at s;omega
   have au:=qLQ (p:=p) (by omega);obtain⟨b,off,bH,bY,bW,Q,bF,d0,d1,i0,i1⟩:=(hh.le A).at (j:=0) (by omega);injection Q with e1 e2 e3;subst e1 e3;clear e2 d1 i1;rw[Nat.zero_mul,Nat.add_zero]at d0;obtain⟨A0,bA,rfl,-⟩:=id i0;rw[<-au]at d0;have bw:(0:Int)<(p.hs.length:Int):=by omega
   have a4:Below W0.heap.size W0 W0:=Below.refl _ _;have aC:=hh.le A;have aH:=hr.le A;have⟨aB,aG,af,ax,ak,am,y,aa⟩:=hyd8 hh hr hf k0 r s I w1;have⟨aj,x,bx,bM,a5,aD,aI⟩:=hyd7 w2 A au i0 a4 aC aH;clear aH aC a4 i0 au A w2 w1 I s r k0 hf hr hh;go_enter Tryz.func57,Tryz.ntmps57;go_wp2_with (first | (go_at_call 28;((with_reducible refine(aa.out _).mono ?_);rintro e w' ⟨rfl,rfl⟩))| (go_at_call 28;((with_reducible refine(aj.out _).mono ?_);rintro e w' ⟨rfl,rfl⟩)));clear bi;go_loopw [29] (λix wr=>∃j:Nat,j<=p.hs.length/\ix= .int .i64 j/\Hid (Below W0.heap.size W0 wr/\∀i (T:i<p.hs.length),i<j->qEr p.steps p.hs[i]=true)) (λix _=>p.hs.length - (intOf ix).toNat)
   case atStart=>exact⟨0,Nat.zero_le _,rfl,Lib.hid ⟨a5.out,λi _ h=>absurd h (Nat.not_lt_zero i)⟩⟩
   case round=>
    obtain⟨j,hj,rfl,hI⟩:=hrel;obtain⟨t,q⟩:=hI.out
    by_cases V:j<p.hs.length
    ·obtain⟨b2,aO,bI,vr,vb,Q,a8,d3,d4,i3,i4⟩:=(aD.out.le t).at V;injection Q with e1 e2 e3;injection e1 with e1;injection e1 with e1 e4;subst e1 e3 e4;clear e2;obtain⟨A1,bb,rfl,-⟩:=id i3;obtain⟨A2,bc,rfl,-⟩:=id i4;obtain⟨W2,bj,g,k2⟩:=newb wr (.cells #[.slice A1 p.hs[j].ros.length bb,.slice A2 p.hs[j].rub.length bc] 113);obtain⟨g0,g1⟩:=pc2 k2;have j1:(j:Int)<(p.hs.length:Int):=by omega
     have j2:(0:Int)<=(j:Int):=by omega
     obtain⟨R,hR⟩:∃R,qAX p.hs[j].ros =R:=⟨_,rfl⟩;obtain⟨U,hU⟩:∃R,qAk p.hs[j].rub (p.steps:Int)=R:=⟨_,rfl⟩;have kr:=qAa _ p.hs[j].ros W2 (i3.below g) R hR;have ku:=qAp _ p.hs[j].rub (p.steps:Int) W2 (i4.below g) U hU;have D:=qAA x.out (qAA t g);have N:=qAA t g;have aE:qEr p.steps p.hs[j]=(decide (p.hs[j].ros.length =p.steps)&&(R&&U)):=by unfold qEr;rw[hR,hU]
     have l:qEr p.steps p.hs[j]=false->picB p=false:=λh=>by rw[y.out,qLP V h];rfl
     generalize hLL:p.hs[j].ros.length =LL at*;generalize hMM:p.hs[j].rub.length =MM at*;have⟨be,aA,G,bO,bP,a7,bn,bg⟩:=hyd8 hI t q i3 i4 g k2 hR;have⟨bh,az,aN,c,O,H,d,bt⟩:=hyd8 hU kr ku D N aE l hLL;have bu:=hyd1 hMM;clear hMM hLL l aE N D ku kr hU hR k2 g i4 i3 q t hI
     by_cases hl:LL=p.steps
     ·subst hl
      cases R with
      | false=>
       go_wp2_with (first | (go_at_call 50;((with_reducible refine(az.out).mono ?_);rintro e w' ⟨rfl,rfl⟩)));go_ret;exact⟨by rw[d.out (by rw[H.out];simp)];rfl,c.out⟩
      | true=>
       cases U with
       | false=>
        go_wp2_with (first | (go_at_call 50;((with_reducible refine(az.out).mono ?_);rintro e w' ⟨rfl,rfl⟩))| (go_at_call 104;((with_reducible refine(aN.out).mono ?_);rintro e w' ⟨rfl,rfl⟩)));go_ret;exact⟨by rw[d.out (by rw[H.out];simp)];rfl,c.out⟩
       | true=>
        go_wp2_with (first | (go_at_call 50;((with_reducible refine(az.out).mono ?_);rintro e w' ⟨rfl,rfl⟩))| (go_at_call 104;((with_reducible refine(aN.out).mono ?_);rintro e w' ⟨rfl,rfl⟩)));go_roundw
        case rel=>exact⟨j+1,by omega,by go_num,Lib.hid ⟨O.out,λi T bJ=>by
         by_cases e:i=j
         ·subst e;rw[H.out];simp
         ·exact G.out i T (by omega)⟩⟩
        case measure=>simp[intOf];omega
     ·have bL:¬(LL:Int)=(p.steps:Int):=by omega
      go_wp2;go_ret;exact⟨by rw[d.out (by rw[H.out];simp[hl])];rfl,c.out⟩
    ·obtain rfl:j=p.hs.length:=by omega
     have L:p.hs.all (qEr p.steps)=true:=qLO λi T=>q i T T;have kb:=blk t ax.out;clear c0 c1 c2 c3 c4 c5;obtain⟨c0,c1,c2,c3,c4,c5⟩:=pc6 kb;have D:=qAA x.out t;obtain⟨f1,f2⟩:=af.out.al;obtain⟨f3,f4⟩:=af.out.ah;have X:∀B,setB p=B->picB p=(B&&p.rds.all (rdB p.steps)):=λB h=>by rw[y.out,L,h];rfl
     have aF:setB p=false->picB p=false:=λh=>by rw[X _ h];rfl
     have aM:setB p=(decide (1<=p.tl)&&(decide (p.tl<=p.th)&&(decide (p.th<=16)&&(decide (-1000<=p.al)&&(decide (p.al<=p.ah)&&(decide (p.ah<=1000)&&decide (p.ah - p.al<=40))))))):=rfl;have aJ:=aI.out.le t;have⟨be,aA,G,aq,bS,c,Y,o⟩:=hyd8 hI t q L kb D X aF;have⟨f,aK⟩:=hyd2 aM aJ;clear aJ aM aF X D kb L q t hI
     by_cases s1:p.tl<1
     ·go_wp2;go_ret;exact⟨by rw[o.out (by rw[f.out];simp;omega)];rfl,c.out⟩
     by_cases s2:p.th<p.tl
     ·go_wp2;go_ret;exact⟨by rw[o.out (by rw[f.out];simp;omega)];rfl,c.out⟩
     by_cases s3:16<p.th
     ·go_wp2;go_ret;exact⟨by rw[o.out (by rw[f.out];simp;omega)];rfl,c.out⟩
     by_cases s4:p.al< -1000
     ·go_wp2;go_ret;exact⟨by rw[o.out (by rw[f.out];simp;omega)];rfl,c.out⟩
     by_cases s5:p.ah<p.al
     ·go_wp2;go_ret;exact⟨by rw[o.out (by rw[f.out];simp;omega)];rfl,c.out⟩
     by_cases s6:1000<p.ah
     ·go_wp2;go_ret;exact⟨by rw[o.out (by rw[f.out];simp;omega)];rfl,c.out⟩
     have s9: -9223372036854775808<=p.ah - p.al:=by omega
     have bV:p.ah - p.al<=9223372036854775807:=by omega
     by_cases s7:40<p.ah - p.al
     ·go_wp2;go_ret;exact⟨by rw[o.out (by rw[f.out];simp;omega)];rfl,c.out⟩
     have ap:setB p=true:=by rw[f.out];simp;omega
     have Z:=hyd1 ap;clear ap
     obtain⟨bz,b0⟩:p.steps<=1000000/\True:=by
      have h:=aq.out;rw[List.all_eq_true]at h;have h2:=h _ (List.getElem_mem (show 0<p.hs.length by omega));unfold qEr at h2;simp only[Bool.and_eq_true,decide_eq_true_eq]at h2;have h3:=(rosOk_iff.1 h2.2.1).2.1;have h4:=h2.1;exact⟨by omega,trivial⟩
     go_wp2_with (fail);clear c0 c1 c2 c3 c4 c5;rename World=>wo
     go_loopw [93] (λix wq=>∃k:Nat,k<=p.rds.length/\ix= .int .i64 k/\Hid (Below wo.heap.size wo wq/\∀i (T:i<p.rds.length),i<k->rdB p.steps p.rds[i]=true)) (λix _=>p.rds.length - (intOf ix).toNat)
     case atStart=>exact⟨0,Nat.zero_le _,rfl,Lib.hid ⟨Below.refl _ _,λi _ h=>absurd h (Nat.not_lt_zero i)⟩⟩
     case round=>
      obtain⟨k,hk,rfl,hJ⟩:=hrel;obtain⟨E,q⟩:=hJ.out
      by_cases V:k<p.rds.length
      ·obtain⟨b2,aO,bU,Q,a8,g0,g1,g2,g3⟩:=RdsL.cells (aK.out.le E) V;injection Q with e1 e2 e3;subst e1 e3;clear e2;obtain⟨W2,bj,g,k2⟩:=newb wr (.cells #[.int .i64 p.rds[k].cut,.int .i64 p.rds[k].step,.int .i64 p.rds[k].lo,.int .i64 p.rds[k].hi] 60);obtain⟨d0,d1,d2,d3⟩:=pc4 k2;have j1:(k:Int)<(p.rds.length:Int):=by omega
       have j2:(0:Int)<=(k:Int):=by omega
       have w3:=λW=>qAl p.rds[k].cut 0 11 W;have w4:=λW=>qAl p.rds[k].step 0 ((p.steps:Int) - 1) W;obtain⟨R,hR⟩:∃R,qAC p.rds[k].cut 0 11=R:=⟨_,rfl⟩;obtain⟨U,hU⟩:∃R,qAC p.rds[k].step 0 ((p.steps:Int) - 1)=R:=⟨_,rfl⟩;rw[hR]at w3;rw[hU]at w4;have D:=qAA c.out (qAA E g);have N:=qAA E g
       have aL:rdB p.steps p.rds[k]=(R&&(U&&(decide (-300000<=p.rds[k].lo)&&(decide (p.rds[k].lo <=p.rds[k].hi)&&decide (p.rds[k].hi <=300000))))):=by
        unfold rdB;rw[<-hR,<-hU];unfold qAC;rw[Bool.decide_and,Bool.decide_and]
       have l:rdB p.steps p.rds[k]=false->picB p=false:=λh=>by rw[Y.out _ Z.out,qLP V h];rfl
       have⟨bf,a9,G,a7,bn,bg,bh,J⟩:=hyd8 hJ E q g k2 hR hU w3;have⟨ab,c,O,z,d⟩:=hyd5 w4 D N aL l;clear l aL N D w4 w3 hU hR k2 g q E hJ
       cases R with
       | false=>
        go_wp2_with (first | (go_at_call 28;((with_reducible refine(J.out _).mono ?_);rintro e w' ⟨rfl,rfl⟩)));go_ret;exact⟨by rw[d.out (by rw[z.out];simp)];rfl,c.out⟩
       | true=>
        cases U with
        | false=>
         go_wp2_with (first | (go_at_call 28;((with_reducible refine(J.out _).mono ?_);rintro e w' ⟨rfl,rfl⟩))| (go_at_call 28;((with_reducible refine(ab.out _).mono ?_);rintro e w' ⟨rfl,rfl⟩)));go_ret;exact⟨by rw[d.out (by rw[z.out];simp)];rfl,c.out⟩
        | true=>
         by_cases t1:p.rds[k].lo < -300000
         ·go_wp2_with (first | (go_at_call 28;((with_reducible refine(J.out _).mono ?_);rintro e w' ⟨rfl,rfl⟩))| (go_at_call 28;((with_reducible refine(ab.out _).mono ?_);rintro e w' ⟨rfl,rfl⟩)));go_ret;exact⟨by rw[d.out (by rw[z.out];simp;omega)];rfl,c.out⟩
         by_cases t2:p.rds[k].hi <p.rds[k].lo
         ·go_wp2_with (first | (go_at_call 28;((with_reducible refine(J.out _).mono ?_);rintro e w' ⟨rfl,rfl⟩))| (go_at_call 28;((with_reducible refine(ab.out _).mono ?_);rintro e w' ⟨rfl,rfl⟩)));go_ret;exact⟨by rw[d.out (by rw[z.out];simp;omega)];rfl,c.out⟩
         by_cases t3:300000<p.rds[k].hi
         ·go_wp2_with (first | (go_at_call 28;((with_reducible refine(J.out _).mono ?_);rintro e w' ⟨rfl,rfl⟩))| (go_at_call 28;((with_reducible refine(ab.out _).mono ?_);rintro e w' ⟨rfl,rfl⟩)));go_ret;exact⟨by rw[d.out (by rw[z.out];simp;omega)];rfl,c.out⟩
         have S:rdB p.steps p.rds[k]=true:=by rw[z.out];simp;omega
         have ag:=hyd1 S;clear S;go_wp2_with (first | (go_at_call 28;((with_reducible refine(J.out _).mono ?_);rintro e w' ⟨rfl,rfl⟩))| (go_at_call 28;((with_reducible refine(ab.out _).mono ?_);rintro e w' ⟨rfl,rfl⟩)));go_roundw
         case rel=>exact⟨k+1,by omega,by go_num,Lib.hid ⟨O.out,λi T bK=>by
          by_cases e:i=k
          ·subst e;exact ag.out
          ·exact G.out i T (by omega)⟩⟩
         case measure=>simp[intOf];omega
      ·obtain rfl:k=p.rds.length:=by omega
       have M:p.rds.all (rdB p.steps)=true:=qLO λi T=>q i T T;have an:=qAA c.out E;have⟨bf,a9,G,ae,ar⟩:=hyd5 hJ E q M an;clear an M q E hJ;go_wp2;go_ret;exact⟨by rw[Y.out _ Z.out,ae.out];rfl,ar.out⟩
theorem qCu (v:Value) (p:Pic) (w:World) (hp:IsPic w v p) (hf:p.Fit):Calls Tryz.prog 24 #[v] w λe w'=>e= .returned (.int .i64 (picE p))/\Below w.heap.size w w':=by
 have f:=hp;obtain⟨I,J,rfl,k,l⟩:=hp;obtain⟨x,A,c,r⟩:=newb w (.cells #[I,.int .i64 p.tl,.int .i64 p.th,.int .i64 p.al,.int .i64 p.ah,J] 51);obtain⟨L,V,rfl,-⟩:=k.slice;obtain⟨M,X,rfl,-⟩:=l.slice;obtain⟨O,Q,R,S,T,U⟩:=pc6 r;have o:=qM8 _ p x (f.le c) hf;obtain⟨B,i⟩:∃B,picB p=B:=⟨_,rfl⟩;have j:picE p=if B then 0 else 90:=by unfold picE;rw[i]
 rw[i]at o;rw[j];have⟨t,E,G,D,H,g,y,z⟩:=hyd8 f k l hf r c i j;have q:=hyd1 o;clear o j i c r hf l k f;go_enter Tryz.func24,Tryz.ntmps24;go_wp2_with (fail);go_at_call 57;refine q.out.mono ?_;rintro e N ⟨rfl,d⟩;have h:=qAA g.out d;have⟨s,b⟩:=hyd2 d h;clear h d
 cases B with
 | true=>
  go_wp2;go_ret;exact⟨rfl,b.out⟩
 | false=>
  go_wp2;go_ret;exact⟨rfl,b.out⟩
def RdOk (n:Nat) (r:Rd):Prop:=(0<=r.cut/\r.cut<=11)/\(0<=r.step/\r.step<=(n:Int) - 1)/\ -300000<=r.lo/\r.lo<=r.hi/\r.hi<=300000
theorem qNO {lift:List Int} (h:qAX lift=true) (r:Rd) (ph:Nat):0<=hAt lift r ph/\hAt lift r ph<=10000:=by
 obtain⟨f,g,d⟩:=rosOk_iff.1 h;unfold hAt atR
 have c:((r.step - (ph:Int))%(lift.length:Int)).toNat <lift.length:=by
  have a:=Int.emod_nonneg (r.step - (ph:Int)) (show(lift.length:Int)≠0 by omega);have b:=Int.emod_lt_of_pos (r.step - (ph:Int)) (show(0:Int)<lift.length by omega);omega
 rw[List.getD_eq_getElem?_getD,List.getElem?_eq_getElem c];exact d _ c
theorem qI4 {a b A B:Int} (h0:0<=a) (h1:a<=A) (h2: -B<=b) (h3:b<=B) (hB:0<=B): -(A*B)<=a*b/\a*b<=A*B:=by
 have x:=Int.mul_le_mul_of_nonneg_left h3 h0;have y:=Int.mul_le_mul_of_nonneg_left h2 h0;have z:=Int.mul_le_mul_of_nonneg_right h1 hB;rw[Int.mul_neg]at y;omega
theorem qTG (a b:Int):(if a<b then b else a)=max a b:=by omega
theorem qTH (a b:Int):(if b<a then b else a)=min a b:=by omega
structure PicM (p:Pic):Prop where
 heads:1<=p.hs.length/\p.hs.length<=4
 reads:p.rds.length<=60
 head:∀h∈p.hs,h.ros.length=p.steps/\qAX h.ros=true/\qAk h.rub p.steps=true
 tl:1<=p.tl
 tle:p.tl<=p.th
 th:p.th<=16
 al: -1000<=p.al
 ale:p.al<=p.ah
 ah:p.ah<=1000
 span:p.ah - p.al<=40
 rd:∀r∈p.rds,RdOk p.steps r
theorem PicOk.toM {p:Pic} (h:PicOk p):PicM p:=⟨h.heads,h.reads.2,h.head,h.tl,h.tle,h.th,h.al,h.ale,h.ah,h.span,h.rd⟩
theorem PicM.sub {p:Pic} (h:PicM p) {l:List Int} (hl:∀i∈l,0<=i/\i<(p.rds.length:Int)) (h60:l.length<=60):PicM (p.with (subR p.rds l)):=
 ⟨h.heads,by show(subR p.rds l).length <=60;unfold subR;rw[List.length_map];exact h60,h.head,h.tl,h.tle,h.th,h.al,h.ale,h.ah,h.span,λr hr=>h.rd r (qQS hl r hr)⟩
theorem PicM.steps {p:Pic} (h:PicM p):3<=p.steps/\p.steps<=96:=by
 obtain⟨f,g⟩:=h.heads;have b:0<p.hs.length:=by omega
 have d:p.hs.getD 0 default∈p.hs:=by
  rw[List.getD_eq_getElem?_getD,List.getElem?_eq_getElem b];exact List.getElem_mem b
 have c:=rosOk_iff.1 (h.head _ d).2.1;exact⟨c.1,c.2.1⟩
def hasC (rds:List Rd) (c:Int):Bool:=rds.any λr=>decide (r.cut=c)
def rowS (rds:List Rd) (lift:List Int) (throw:Int) (n:Nat) (c:Int):List Spn:=(List.range n).map λph=>qAu rds lift throw c ph
def rowK (rds:List Rd) (lift:List Int) (throw:Int) (n:Nat) (c:Int) (r:Rd) (k:Nat):List Spn:=(List.range n).map λph=>if ph<k then qAu (rds++[r]) lift throw c ph else qAu rds lift throw c ph
theorem qFl (rds:List Rd) (lift:List Int) (throw:Int) (n:Nat) (c:Int):(rowS rds lift throw n c).length =n:=by simp[rowS]
theorem qCv (rds:List Rd) (lift:List Int) (throw:Int) (n:Nat) (c:Int) (r:Rd) (k:Nat):(rowK rds lift throw n c r k).length =n:=by simp[rowK]
theorem qJv (rds:List Rd) (lift:List Int) (throw:Int) (n:Nat) (c:Int) (r:Rd):rowK rds lift throw n c r 0=rowS rds lift throw n c:=by
 unfold rowK rowS;exact List.map_congr_left λb _=>by rw[if_neg (Nat.not_lt_zero _)]
theorem qQX (rds:List Rd) (lift:List Int) (throw:Int) (n:Nat) (c:Int) (r:Rd):rowK rds lift throw n c r n=rowS (rds++[r]) lift throw n c:=by
 unfold rowK rowS;exact List.map_congr_left λb h=>by rw[if_pos (List.mem_range.1 h)]
theorem qLR {rds:List Rd} {lift:List Int} {throw:Int} {n:Nat} {c:Int} {r:Rd} {k:Nat} (h:k<(rowK rds lift throw n c r k).length):(rowK rds lift throw n c r k)[k]=qAu rds lift throw c k:=by
 simp[rowK]
theorem qQY {rds:List Rd} {lift:List Int} {throw:Int} {n:Nat} {c:Int} {r:Rd} {k:Nat}:(rowK rds lift throw n c r k).set k (qAu (rds++[r]) lift throw c k)=rowK rds lift throw n c r (k+1):=by
 apply List.ext_getElem
 ·rw[List.length_set,qCv,qCv]
 ·intro i b d;rw[List.getElem_set]
  by_cases e:k=i
  ·subst e;simp[rowK]
  ·rw[if_neg e];simp only[rowK,List.getElem_map,List.getElem_range]
   by_cases q:i<k
   ·rw[if_pos q,if_pos (by omega)]
   ·rw[if_neg q,if_neg (by omega)]
theorem qI5 (rds:List Rd) (lift:List Int) (throw c:Int) (ph:Nat) (r:Rd):qAu (rds++[r]) lift throw c ph=if r.cut=c then(max (qAu rds lift throw c ph).1 (r.lo - throw*hAt lift r ph),min (qAu rds lift throw c ph).2 (r.hi - throw*hAt lift r ph))else qAu rds lift throw c ph:=by
 unfold qAu;rw[List.foldl_append];rfl
theorem qNq {lift:List Int} {throw c:Int} {ph:Nat}:∀{rds:List Rd},hasC rds c=false->qAu rds lift throw c ph=(-1099511627776,1099511627776):=by
 intro rds h;unfold qAu hasC at*
 induction rds with
 | nil=>rfl
 | cons r rds ih=>
  simp only[List.any_cons,Bool.or_eq_false_iff,decide_eq_false_iff_not]at h;rw[List.foldl_cons,if_neg h.1];exact ih h.2
theorem qOx {lift:List Int} {throw c:Int} {n:Nat} {rds:List Rd} (h:hasC rds c=false):rowS rds lift throw n c=List.replicate n (-1099511627776,1099511627776):=by
 unfold rowS;rw[List.map_congr_left λb _=>qNq h];apply List.ext_getElem<;>simp
theorem qOy (rds:List Rd) (r:Rd) (c:Int):hasC (rds++[r]) c=(hasC rds c||decide (r.cut=c)):=by unfold hasC;simp
theorem qNr {rds:List Rd} {lift:List Int} {throw c:Int} {n:Nat} {r:Rd} (h:r.cut≠c):rowS (rds++[r]) lift throw n c=rowS rds lift throw n c:=by
 unfold rowS;exact List.map_congr_left λb _=>by rw[qI5,if_neg h]
theorem qHe {n:Nat} {lift:List Int} {throw c:Int} {ph:Nat} (hl:qAX lift=true) (ht:0<=throw/\throw<=16):∀(rds:List Rd),(∀r∈rds,RdOk n r)->∀o:Spn,-1099511627776<=o.1->o.1<=1000000-> -1000000<=o.2->o.2<=1099511627776→
  -1099511627776<=(rds.foldl (λo r=>if r.cut=c then(max o.1 (r.lo - throw*hAt lift r ph),min o.2 (r.hi - throw*hAt lift r ph))else o) o).1/\(rds.foldl (λo r=>if r.cut=c then(max o.1 (r.lo - throw*hAt lift r ph),min o.2 (r.hi - throw*hAt lift r ph))else o) o).1<=1000000∧
  -1000000<=(rds.foldl (λo r=>if r.cut=c then(max o.1 (r.lo - throw*hAt lift r ph),min o.2 (r.hi - throw*hAt lift r ph))else o) o).2/\(rds.foldl (λo r=>if r.cut=c then(max o.1 (r.lo - throw*hAt lift r ph),min o.2 (r.hi - throw*hAt lift r ph))else o) o).2<=1099511627776
 | [],_,o,h0,h1,h2,h3=>⟨h0,h1,h2,h3⟩
 | r::rds,hr,o,h0,h1,h2,h3=>by
  have hro:=hr r List.mem_cons_self;have hh:=qNO hl r ph;have m2:=qI4 ht.1 ht.2 (b:=hAt lift r ph) (B:=10000) (by omega) (by omega) (by decide);have m3:=Int.mul_nonneg ht.1 hh.1;unfold RdOk at hro;simp only[List.foldl_cons];apply qHe hl ht rds (λq hq=>hr q (List.mem_cons_of_mem _ hq))
  all_goals
   split
   ·simp only;omega
   ·assumption
theorem qJw {n:Nat} {rds:List Rd} {lift:List Int} {throw c:Int} {ph:Nat} (hl:qAX lift=true) (ht:0<=throw/\throw<=16) (hr:∀r∈rds,RdOk n r): -1099511627776<=(qAu rds lift throw c ph).1/\(qAu rds lift throw c ph).1<=1000000/\ -1000000<=(qAu rds lift throw c ph).2/\(qAu rds lift throw c ph).2<=1099511627776:=
 qHe hl ht rds hr (-1099511627776,1099511627776) (by decide) (by decide) (by decide) (by decide)
theorem Bases.congr {w:World} {B n:Nat} {D:DataW Unit} {bl:Int->Nat} {Z len:Nat} {cs cs':Int->Bool} {row row':Int->List Spn} (h:Bases w B n D bl Z len cs row) (h1:∀c,cs c=cs' c) (h2:∀c,cs c=true->row c=row' c):Bases w B n D bl Z len cs' row':=by
 obtain rfl:cs=cs':=funext h1;exact⟨h.own,h.has,h.wf,h.get,λc b=>by rw[<-h2 c b];exact h.blk c b,λc b=>by rw[<-h2 c b];exact h.len c b,h.apart⟩
theorem qK9 {w:World} {B:Nat} (h:w.heap[B]? =some (.map #[] 0)):w.ownsMap Tryz.prog 3 hdR B 0 (.map []):=by
 obtain⟨f,d,b,c⟩:=World.ownsMap_made w Tryz.prog 3 hdR;have e:(w.alloc (.map #[] 0)).heap[w.heap.size]? =some (.map #[] 0):=qCH _ _;rw[e]at b;injection b with b;injection b with h3 h4;subst h3 h4;exact⟨_,_,h,c⟩
theorem Bases.start {w:World} {B Z len:Nat} {row:Int->List Spn} (h:w.heap[B]? =some (.map #[] 0)):Bases w B 0 (.map []) (λ_=>0) Z len (λ_=>false) row:=
 ⟨qK9 h,λ_ _=>rfl,λ_ hc=>(by cases hc),λ_ hc=>(by cases hc),λ_ hc=>(by cases hc),λ_ hc=>(by cases hc),λ_ _ hc=>(by cases hc)⟩
theorem qHU {w:World} {b X:Nat} {cs cs':Array Value} {t:TypeId} (h:w.heap[b]? =some (.cells cs 115)) (h':w.heap[X]? =some (.cells cs' t)) (ht:115≠t):b≠X:=by
 rintro rfl;rw[h]at h';injection h' with h';injection h' with _ h2;exact ht h2
theorem Bases.other {w W:World} {B n:Nat} {D:DataW Unit} {bl:Int->Nat} {Z len:Nat} {cs:Int->Bool} {row:Int->List Spn} (h:Bases w B n D bl Z len cs row) {X:Nat} {vs:Array Value} {t:TypeId} (hX:w.heap[X]? =some (.cells vs t)) (ht:115≠t) (hk:∀k,k≠X->W.heap[k]? =w.heap[k]?):Bases W B n D bl Z len cs row:=by
 refine⟨?_,h.has,h.wf,h.get,λc b=>⟨(h.blk c b).1,(hk _ (qHU (h.blk c b).2 hX ht)).trans (h.blk c b).2⟩,h.len,h.apart⟩;obtain⟨f,d,g,i⟩:=h.own;exact⟨f,d,(hk B (qDK h.own hX).symm).trans g,i⟩
theorem qNs (W:World) (X i j:Nat) (u v:Value) (k:Nat) (hk:k≠X):((W.setCell ⟨X,i,none⟩ u).setCell ⟨X,j,none⟩ v).heap[k]? =W.heap[k]? :=(Below.heap_setCell _ ⟨X,j,none⟩ _ k hk).trans (Below.heap_setCell _ ⟨X,i,none⟩ _ k hk)
theorem qTI {n:Nat} {w W:World} {X i j:Nat} (h:Below n w W) (hX:n<=X) (u v:Value):Below n w ((W.setCell ⟨X,i,none⟩ u).setCell ⟨X,j,none⟩ v):=(Below.setCell h (p:=⟨X,i,none⟩) hX _).setCell (p:=⟨X,j,none⟩) hX _
theorem qTJ {W:World} {X:Nat} {a b c:Value} {t:TypeId} (h:W.heap[X]? =some (Obj.cells #[a,b,c] t)) (u0 u1 u2:Value):(((W.setCell ⟨X,0,none⟩ u0).setCell ⟨X,1,none⟩ u1).setCell ⟨X,2,none⟩ u2).heap[X]? =some (.cells #[u0,u1,u2] t):=by
 simp only[World.setCell,Array.getElem?_modify,h];simp
theorem qS9 {n:Nat} {w W:World} {X:Nat} (h:Below n w W) (hX:n<=X) (u0 u1 u2:Value):Below n w (((W.setCell ⟨X,0,none⟩ u0).setCell ⟨X,1,none⟩ u1).setCell ⟨X,2,none⟩ u2):=
 (((Below.setCell h (p:=⟨X,0,none⟩) hX _).setCell (p:=⟨X,1,none⟩) hX _).setCell (p:=⟨X,2,none⟩) hX _)
theorem qSa (W:World) (X:Nat) (u0 u1 u2:Value) (k:Nat) (hk:k≠X):(((W.setCell ⟨X,0,none⟩ u0).setCell ⟨X,1,none⟩ u1).setCell ⟨X,2,none⟩ u2).heap[k]? =W.heap[k]? :=(Below.heap_setCell _ ⟨X,2,none⟩ _ k hk).trans ((Below.heap_setCell _ ⟨X,1,none⟩ _ k hk).trans (Below.heap_setCell _ ⟨X,0,none⟩ _ k hk))
open Go.RowKit Go.Shelf
section
variable {P:Program} {ops:Array Oper} {C:World->Prop} {md:Region.Mode} {n m:Nat} {F:Fence}

end
theorem qM9 {P:Program} {f:FuncId} {args:Array Value} {W:World} {n:Nat} {v:Value} (h:Calls P f args (W.drewN n) λe w'=>e= .returned v/\W.drewN n=w'):
  Calls P f args (W.drewN n) λe w''=>e= .returned v/\∃m,w''=W.drewN m:=h.mono λ_ _ ⟨he,hw⟩=>⟨he,n,hw.symm⟩
theorem qAj (F:(Nat->Value)->Array Value) (t:Array Value) (h:t=F (λi=>t.getD i undef)):∃u,t=F u:=⟨_,h⟩
def qBM (n:Nat):Code->List Code
 | .region m o d=>if m=n then[.region m o d]else[]
 | .seq a b=>match a with
  | .region m _ _=>if m=n then[.seq a b]else qBM n b
  | _=>qBM n a++qBM n b
 | .block _ c=>qBM n c
 | .scope c=>qBM n c
 | .loop c=>qBM n c
 | .cond _ a b=>qBM n a++qBM n b
 | _=>[]
end Go.Proofs.YtabfaobakmjiaaaGreat

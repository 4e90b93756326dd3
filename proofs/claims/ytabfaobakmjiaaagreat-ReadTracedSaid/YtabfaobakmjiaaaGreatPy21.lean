/- The reference's SameReadings; the law's same. The law's same (two lists). The reference's SamePicture. The reference's SameFound. qAW laws of what is under a .. -/
import Derived.Test.YtabfaobakmjiaaaGreatPy13
namespace Go.Proofs.YtabfaobakmjiaaaGreat
set_option maxRecDepth 100000
set_option maxHeartbeats 1000000
open Go.RowKit
set_option linter.unusedVariables false
set_option linter.unusedSimpArgs false
def rdEq (a b c d a' b' c' d':Int):Bool:=decide ((⟨a,b,c,d⟩:Rd)=⟨a',b',c',d'⟩)
theorem qQy (a b c d a' b' c' d':Int):rdEq a b c d a' b' c' d'=(a==a'&&(b==b'&&(c==c'&&d==d'))):=by
 unfold rdEq;rw[Bool.eq_iff_iff];simp
theorem qMH (a b c d a' b' c' d':Int) (w:World):(Op.equalIn 10000 60 (.agg #[.int .i64 a,.int .i64 b,.int .i64 c,.int .i64 d]) (.agg #[.int .i64 a',.int .i64 b',.int .i64 c',.int .i64 d'])).run Tryz.prog w= .ok (rdEq a b c d a' b' c' d') w:=by
 rw[run_equalIn_struct w 9999 60 _ _ (by kernel_rfl) (by kernel_rfl),qQy]
 have f:Tryz.prog.fieldsOf 60=#[{name:= "Cut",type:=3,offset:=0,embedded:=false,tag:= "",pkgPath:= "",byteOffset:=0},
    {name:= "Step",type:=3,offset:=1,embedded:=false,tag:= "",pkgPath:= "",byteOffset:=8},
    {name:= "Low",type:=3,offset:=2,embedded:=false,tag:= "",pkgPath:= "",byteOffset:=16},
    {name:= "High",type:=3,offset:=3,embedded:=false,tag:= "",pkgPath:= "",byteOffset:=24}]:=by kernel_rfl
 rw[f]
 cases h1:(a==a')<;>cases h2:(b==b')<;>cases h3:(c==c')<;>cases h4:(d==d')<;>
  simp[go_sem,h1,h2,h3,h4,Op.eqFields]
attribute [local go_sem ↓ high] qMH
end Go.Proofs.YtabfaobakmjiaaaGreat
namespace Go.Proofs.YtabfaobakmjiaaaGreat
set_option maxRecDepth 100000
set_option maxHeartbeats 1000000
open Go.RowKit
set_option linter.unusedVariables false
set_option linter.unusedSimpArgs false
theorem qN2 (v v':Value) (xs ys:List Int) (w:World) (hx:Ints w v xs) (hy:Ints w v' ys):
  Calls Tryz.prog 18 #[v,v'] w λe w'=>e= .returned (.bool (xs==ys))/\∃n,w'=w.drewN n:=by
 have⟨b,c⟩:=hyd2 hx hy;clear hy hx;go_enter Tryz.func18,Tryz.ntmps18;go_wp2_with (first | (go_at_call 49;((with_reducible refine(qLk _ _ xs ys _ b.out c.out).mono ?_);rintro e w' ⟨rfl,n,rfl⟩)));go_ret;exact⟨rfl,n,rfl⟩
def fdEq (a b c d f a' b' c' d' f':Int):Bool:=decide ((⟨a,b,c,d,f⟩:Fnd)=⟨a',b',c',d',f'⟩)
theorem qQz (a b c d f a' b' c' d' f':Int):fdEq a b c d f a' b' c' d' f'=(a==a'&&(b==b'&&(c==c'&&(d==d'&&f==f')))):=by
 unfold fdEq;rw[Bool.eq_iff_iff];simp
theorem qHN (a b c d f a' b' c' d' f':Int) (w:World):(Op.equalIn 10000 54 (.agg #[.int .i64 a,.int .i64 b,.int .i64 c,.int .i64 d,.int .i64 f]) (.agg #[.int .i64 a',.int .i64 b',.int .i64 c',.int .i64 d',.int .i64 f'])).run Tryz.prog w= .ok (fdEq a b c d f a' b' c' d' f') w:=by
 rw[run_equalIn_struct w 9999 54 _ _ (by kernel_rfl) (by kernel_rfl),qQz]
 have g:Tryz.prog.fieldsOf 54=#[{name:= "Head",type:=3,offset:=0,embedded:=false,tag:= "",pkgPath:= "",byteOffset:=0},
    {name:= "Throw",type:=3,offset:=1,embedded:=false,tag:= "",pkgPath:= "",byteOffset:=8},
    {name:= "Advance",type:=3,offset:=2,embedded:=false,tag:= "",pkgPath:= "",byteOffset:=16},
    {name:= "Low",type:=3,offset:=3,embedded:=false,tag:= "",pkgPath:= "",byteOffset:=24},
    {name:= "High",type:=3,offset:=4,embedded:=false,tag:= "",pkgPath:= "",byteOffset:=32}]:=by kernel_rfl
 rw[g]
 cases h1:(a==a')<;>cases h2:(b==b')<;>cases h3:(c==c')<;>cases h4:(d==d')<;>cases h5:(f==f')<;>
  simp[go_sem,h1,h2,h3,h4,h5,Op.eqFields]
attribute [local go_sem ↓ high] qHN
theorem qIF (va vb:Value) (xs ys:List Fnd) (w:World) (ha:FndL w va xs) (hb:FndL w vb ys):Calls Tryz.prog 36 #[va,vb] w λe w'=>e= .returned (.bool (decide (xs=ys)))/\∃n,w'=w.drewN n:=by
 obtain⟨A,c,rfl,J⟩:=ha.slice;obtain⟨B,d,rfl,r⟩:=hb.slice;unfold maxLen at J r
 by_cases C:xs.length=ys.length
 ·have ad:xs.length<=ys.length:=by omega
  have ae:ys.length<=xs.length:=by omega
  have af:(xs.length:Int)=(ys.length:Int):=by omega
  obtain⟨G,f⟩:∃G,ys.length=G:=⟨_,rfl⟩;obtain rfl:xs.length=G:=C.trans f;rw[f]at ae ad r ⊢;clear af;have⟨H,I,ac,q⟩:=hyd4 ha hb C f;clear f C hb ha;go_enter Tryz.func36,Tryz.ntmps36;go_wp2;go_loopw [5] (λix wr=>∃j:Nat,j<=xs.length/\ix= .int .i64 j/\Hid (∃n,wr=w.drewN n)/\Hid (∀i (S:i<xs.length) (z:i<ys.length),i<j->xs[i]=ys[i])) (λix _=>xs.length - (intOf ix).toNat)
  case atStart=>exact⟨0,Nat.zero_le _,rfl,Lib.hid ⟨0,rfl⟩,Lib.hid λi _ _ h=>absurd h (Nat.not_lt_zero i)⟩
  case round=>
   obtain⟨j,hj,rfl,hN,hI⟩:=hrel;obtain⟨n,v⟩:=hN.out
   by_cases M:j<xs.length
   ·have N:j<ys.length:=by rw[q.out];exact M
    obtain⟨b,off,c2,s,aa,T,U,V,X,Y⟩:=FndL.cells H.out M;injection s with e1 e2 e3;subst e1 e3;clear e2;obtain⟨b2,a1,c2,s,ab,k0,k1,k2,k3,k4⟩:=FndL.cells I.out N;injection s with e1 e2 e3;subst e1 e3;clear e2;have hq:∀p,wr.cell? p=w.cell? p:=λp=>by rw[v];simp
    rw[<-hq]at T U V X Y k0 k1 k2 k3 k4;clear hq aa ab;obtain⟨⟨x0,x1,x2,x3,x4⟩,D⟩:∃y,xs[j]=y:=⟨_,rfl⟩;obtain⟨⟨y0,y1,y2,y3,y4⟩,E⟩:∃y,ys[j]=y:=⟨_,rfl⟩;rw[D]at T U V X Y;rw[E]at k0 k1 k2 k3 k4;simp only at T U V X Y k0 k1 k2 k3 k4;have j1:(j:Int)<(xs.length:Int):=by omega
    have j2:(0:Int)<=(j:Int):=by omega
    obtain⟨F,Z⟩:∃F,fdEq x0 x1 x2 x3 x4 y0 y1 y2 y3 y4=F:=⟨_,rfl⟩;have az:=λ(W:World)=>(qHN x0 x1 x2 x3 x4 y0 y1 y2 y3 y4 W).trans (by rw[Z])
    cases F with
    | true=>
     have k:(⟨x0,x1,x2,x3,x4⟩:Fnd)=⟨y0,y1,y2,y3,y4⟩:=of_decide_eq_true Z;have⟨Q,R,g,l⟩:=hyd4 D E v k;clear k v E D;go_wp2;go_quiet (fail);go_wp2;go_roundw
     case rel=>exact⟨j+1,by omega,by go_num,Lib.hid ⟨n+nq,by rw[g.out];exact World.drewN_drewN _ _ _⟩,Lib.hid λi S z a6=>by
      by_cases e:i=j
      ·subst e;rw[Q.out,R.out];exact l.out
      ·exact hI.out i S z (by omega)⟩
     case measure=>simp[intOf];omega
    | false=>
     have k:decide (xs=ys)=false:=decide_eq_false λh=>by
      subst h;have z:=D.symm.trans E;have h3:=of_decide_eq_false Z;exact h3 z
     have⟨Q,R,g,l⟩:=hyd4 D E v k;clear k v E D;go_wp2;go_quiet (fail);go_wp2;go_ret;exact⟨by rw[l.out];rfl,⟨_,by rw[g.out];exact World.drewN_drewN _ _ _⟩⟩
   ·have m:decide (xs=ys)=true:=decide_eq_true (List.ext_getElem ac.out λi S z=>hI.out i S z (by omega));have⟨t,g⟩:=hyd2 m v;clear v m;go_wp2;go_ret;exact⟨by rw[t.out];rfl,n,g.out⟩
 ·have O:decide (xs=ys)=false:=decide_eq_false λh=>C (by rw[h]);have L:¬(xs.length:Int)=(ys.length:Int):=by omega
  have o:¬(ys.length:Int)=(xs.length:Int):=by omega
  obtain⟨xl,x⟩:∃xl,xs.length=xl:=⟨_,rfl⟩;obtain⟨G,f⟩:∃G,ys.length=G:=⟨_,rfl⟩;rw[x]at C L o J ⊢;rw[f]at C L o r ⊢;have⟨H,I,P,a0,q⟩:=hyd5 ha hb O x f;clear f x O hb ha;go_enter Tryz.func36,Tryz.ntmps36;go_wp2;go_ret;exact⟨by rw[P.out];rfl,0,rfl⟩
end Go.Proofs.YtabfaobakmjiaaaGreat
namespace Go.Proofs.YtabfaobakmjiaaaGreat
set_option maxRecDepth 100000
set_option maxHeartbeats 2000000
set_option linter.unusedVariables false
theorem qPo (N:Nat) (X:Nat->Int):∀k j,j<k->qCL N X qCm k<=X j:=by
 intro k
 induction k with
 | zero=>intro j h;omega
 | succ k ih=>
  intro j h
  rcases Nat.eq_zero_or_pos k with h0|h0
  ·subst h0
   obtain rfl:j=0:=by omega
   rw[qFK];omega
  ·rw[qE9 _ _ _ _ h0,qHm]
   by_cases b:j=k
   ·subst b;omega
   ·have:=ih j (by omega);omega
theorem qN3 (N:Nat) (X:Nat->Int):∀k,0<k->∃j,j<k/\qCL N X qCm k=X j:=by
 intro k
 induction k with
 | zero=>intro h;omega
 | succ k ih=>
  intro _
  rcases Nat.eq_zero_or_pos k with h0|h0
  ·subst h0;exact⟨0,by omega,qFK _ _ _⟩
  ·rw[qE9 _ _ _ _ h0,qHm];obtain⟨j,c,b⟩:=ih h0
   by_cases h:X k<=qCL N X qCm k
   ·exact⟨k,by omega,by omega⟩
   ·exact⟨j,by omega,by omega⟩
theorem qIs (f b:List Int) (p:Nat) (h:p<f.length):(qBg f b)[p]'(by rw[qBd];exact h)=qCL b.length (qBS f b (-1) qD3 p) qCm b.length:=by
 simp[qBg,qBa,qHl]
theorem qHO (f b:List Int) (p j:Nat):qBS f b (-1) qD3 p j=atR f ((p:Int) - ((j:Int) - (b.length:Int) / 2))+b.getD j 0:=by
 unfold qBS qD3 atR;rw[Int.neg_one_mul,<-Int.sub_eq_add_neg]
theorem qPp {f b:List Int} (hf:qAY f=true) (hb:qAo b f.length=true):qAY (qBg f b)=true:=by
 obtain⟨h,i,k⟩:=rosOk_iff.1 hf;obtain⟨r,s,t,n,v⟩:=rubOk_iff.1 hb;have m:=qM0 hb;refine rosOk_iff.2 ⟨by rw[qBd];exact h,by rw[qBd];exact i,λp c=>?_⟩;have d:p<f.length:=by rw[qBd]at c;exact c
 rw[qIs f b p d];constructor
 ·obtain⟨j,g,l⟩:=qN3 b.length (qBS f b (-1) qD3 p) b.length (by omega);rw[l,qHO];have o:=qHn hf ((p:Int) - ((j:Int) - (b.length:Int) / 2));have q:=n j g;simp[g];omega
 ·have:=qPo b.length (qBS f b (-1) qD3 p) b.length (b.length / 2) (by omega);rw[qHO,m]at this;rw[show(p:Int) - (((b.length / 2:Nat):Int) - (b.length:Int) / 2)=(p:Int)from by omega,qGj p d]at this;have:=k p d;omega
def qDO (X Y:List Int) (n:Nat):Option Nat:=(List.range n).find? λi=>decide (X.getD i 0<Y.getD i 0)
theorem qIG {X Y:List Int} {n:Nat} (h:∀i,i<n->Y.getD i 0<=X.getD i 0):qDO X Y n=none:=by
 unfold qDO;rw[List.find?_eq_none];intro i b;simpa using h i (List.mem_range.1 b)
theorem qIH {X Y:List Int} {n i:Nat} (hi:i<n) (h:X.getD i 0<Y.getD i 0) (hb:∀j,j<i->Y.getD j 0<=X.getD j 0):qDO X Y n=some i:=by
 unfold qDO;have f:n=i+(n - i):=by omega
 rw[f,List.range_add,List.find?_append]
 have b:(List.range i).find? (λi=>decide (X.getD i 0<Y.getD i 0))=none:=by
  rw[List.find?_eq_none];intro j d;simpa using hb j (List.mem_range.1 d)
 rw[b];have c:n - i=(n - i - 1)+1:=by omega
 rw[c,List.range_succ_eq_map];simp only[List.map_cons,Nat.add_zero,List.find?_cons,Option.none_or];rw[decide_eq_true h]
def qAw (f b:List Int):List Int:=qCX (qBg f b) b
theorem qIt (f b:List Int):(qAw f b).length =f.length:=by rw[qAw,qBD,qBd]
def rebE (low high rub:List Int):Int:=
 if qAY low then
  if qBT high rub=0 then
   if low.length=high.length then
    if (qDO high low low.length).isSome then 2 else if (qDO (qAw high rub) low low.length).isSome then 6 else 0
   else 2
  else qBT high rub
 else 30
def rebN (low high rub:List Int):Nat:=if rebE low high rub=6 then(qDO (qAw high rub) low low.length).getD 0 else 0
def rebL (low high rub:List Int):List Int:=if rebE low high rub=0 then qBg high rub else[]
theorem qN4 {f b:List Int} (h:qBT f b=0):qAY f=true/\qAo b f.length=true:=by
 unfold qBT at h
 cases h1:qAY f<;>cases h2:qAo b f.length<;>simp_all
theorem qOe (f b:List Int):qBT f b≠6:=by
 unfold qBT
 cases qAY f<;>cases qAo b f.length<;>simp
open Go.RowKit
set_option linter.unusedSimpArgs false
theorem qOf (h d:Int) (W:World) (hh:0<=h/\h<=10000) (hd:0<=d/\d<=10000):Calls Tryz.prog 158 #[.int .i64 h,.int .i64 d] W λe w'=>e= .returned (.int .i64 (qD3 h d))/\W=w':=by
 obtain⟨b,c⟩:=hh;obtain⟨f,g⟩:=hd;go_enter Tryz.func158,Tryz.ntmps158;go_wp2;go_ret;exact⟨rfl,rfl⟩
theorem qOg (x y:Int) (W:World):Calls Tryz.prog 159 #[.int .i64 x,.int .i64 y] W λe w'=>e= .returned (.int .i64 (qCm x y))/\W=w':=by
 unfold qCm
 by_cases h:y<x
 ·rw[if_pos h];go_enter Tryz.func159,Tryz.ntmps159;go_wp2;go_ret;exact⟨rfl,rfl⟩
 ·rw[if_neg h];have b:x<=y:=by omega
  go_enter Tryz.func159,Tryz.ntmps159;go_wp2;go_ret;exact⟨rfl,rfl⟩
theorem qLD (vf vb:Value) (f b:List Int) (w:World) (hf:Ints w vf f) (hb:Ints w vb b) (hfo:qAY f=true) (hbo:qAo b f.length=true):
  Calls Tryz.prog 102 #[vf,vb] w λe w'=>∃v',e= .returned v'/\Below w.heap.size w w'/\w'.ownsRow w.heap.size 3 1 v' (qBg f b).length ((qBg f b).map vint):=by
 have k:=Lib.hid hf;have j:=Lib.hid hb;obtain⟨A,c,rfl,p,o,_,q⟩:=hf;obtain⟨r,s,rfl,n,m,_,l⟩:=hb;clear q l;go_enter Tryz.func102,Tryz.ntmps102;go_wp2_with (first | (go_at_call 157;refine(qJV f b _ _ _ k.out j.out (-1) 158 159 qD3 qCm hfo hbo (.inr rfl) (λ_ _=>by kernel_rfl) (λ_ _=>by kernel_rfl) (λh d W g i=>qOf h d W g i) (λh d g i=>by unfold Near qD3;omega) (λx y W _ _=>qOg x y W) (λx y g i=>by unfold Near qCm at*;split<;>omega)).mono ?_;rintro e w' ⟨v',rfl,g,i⟩));go_ret;exact⟨v',rfl,g,i⟩
theorem qPq (g1 g2:Nat) (G1 G2:List Int->List Int->List Int) (vf vb:Value) (f b:List Int) (w:World) (ba:Nat) (hf:Ints w vf f) (hb:Ints w vb b) (hba:ba<w.heap.size)
  (hc:w.cell? ⟨ba,0,none⟩=some (.func (.func g1) #[] #[])) (hc2:w.cell? ⟨ba,1,none⟩=some (.func (.func g2) #[] #[])) (hg:qAW Tryz.prog g1) (hg2:qAW Tryz.prog g2)
  (hok1:qAY f=true->qAo b f.length=true->qAY (G1 f b)=true/\qAo b (G1 f b).length =true)
  (hG:∀(vf' vb':Value) (W:World),Ints W vf' f->Ints W vb' b->qAY f=true->qAo b f.length=true->Calls Tryz.prog g1 #[vf',vb'] W λe w'=>∃v',e= .returned v'/\Below W.heap.size W w'/\w'.ownsRow W.heap.size 3 1 v' (G1 f b).length ((G1 f b).map vint))
  (hG2:∀(vf' vb':Value) (W:World),Ints W vf' (G1 f b)->Ints W vb' b->qAY (G1 f b)=true->qAo b (G1 f b).length =true->Calls Tryz.prog g2 #[vf',vb'] W λe w'=>∃v',e= .returned v'/\Below W.heap.size W w'/\w'.ownsRow W.heap.size 3 1 v' (G2 (G1 f b) b).length ((G2 (G1 f b) b).map vint))
  (E:Int) (hE:qBT f b=E):
  Calls Tryz.prog 101 #[vf,vb,.slice (some ⟨ba,0,none⟩) 2 2] w λe w'=>∃v',e= .returned (.tuple #[v',.int .i64 E])/\Below w.heap.size w w'∧
   (E=0->w'.ownsRow w.heap.size 3 1 v' (G2 (G1 f b) b).length ((G2 (G1 f b) b).map vint))/\(E≠0->v'= .slice none 0 0):=by
 have v:=Lib.hid hf;have m:=Lib.hid hb;obtain⟨A,c,rfl,M,J,_,O⟩:=hf;obtain⟨P,Q,rfl,I,H,_,G⟩:=hb;have F:=hg;have B:=hg2;unfold qAW at F B;have t:=hyd1 hE;clear O G hE
 by_cases x:E=0
 ·have n:=qN4 (t.out.trans x);have q:=hok1 n.1 n.2;have⟨o,j⟩:=hyd2 n q;clear n q hok1;subst x;go_enter Tryz.func101,Tryz.ntmps101;go_wp2_with (first | (go_at_call 156;refine(qGi _ _ f b _ v.out m.out).mono ?_;rintro e w' ⟨rfl,rfl⟩;rw[t.out]));go_loopw [19,0] (λi s wr=>∃k:Nat,k<=2/\i= .int .i64 k/\Below w.heap.size w wr/\Hid ((k=0->s= .slice A f.length c/\wr=w)/\(k=1->wr.ownsRow w.heap.size 3 1 s (G1 f b).length ((G1 f b).map vint))/\(k=2->wr.ownsRow w.heap.size 3 1 s (G2 (G1 f b) b).length ((G2 (G1 f b) b).map vint)))) (λi _ _=>2 - (intOf i).toNat)
  case atStart=>exact⟨0,by omega,rfl,Below.refl _ _,⟨λ_=>⟨rfl,rfl⟩,λh=>absurd h (by omega),λh=>absurd h (by omega)⟩⟩
  case round=>
   obtain⟨k,R,rfl,g,d⟩:=hrel
   obtain rfl|rfl|rfl:k=0∨k=1∨k=2:=by omega
   ·obtain⟨rfl,rfl⟩:=d.out.1 rfl;clear d;go_wp2_with (first | (refine(hG _ _ _ v.out m.out o.out.1 o.out.2).mono ?_;rintro e w' ⟨v',rfl,D,y⟩;have r:=Lib.hid y;clear y));go_roundw
    case rel=>exact⟨1,by omega,by go_num,D,⟨λh=>absurd h (by omega),λ_=>r.out,λh=>absurd h (by omega)⟩⟩
    case measure=>simp[intOf]
   ·have l:=Lib.hid (d.out.2.1 rfl);clear d;have L:wr.cell? ⟨ba,1,none⟩=some (.func (.func g2) #[] #[]):=(g.cell (p:=⟨ba,1,none⟩) hba).trans hc2;have z:=g.size;clear hc hc2;go_wp2_with (first | (refine(hG2 _ _ _ (Arr.of_own l.out) (m.out.below g) j.out.1 j.out.2).mono ?_;rintro e w' ⟨v',rfl,D,y⟩;have r:=Lib.hid (qBq y z);clear y));go_roundw
    case rel=>exact⟨2,by omega,by go_num,g.trans (D.mono z),⟨λh=>absurd h (by omega),λh=>absurd h (by omega),λ_=>r.out⟩⟩
    case measure=>simp[intOf]
   ·have l:=Lib.hid (d.out.2.2 rfl);clear d;go_wp2;go_ret2;exact⟨_,rfl,g,λ_=>l.out,λh=>absurd rfl h⟩
 ·have N:(E != 0)=true:=by simpa using x
  have C:=hyd1 x;clear x;go_enter Tryz.func101,Tryz.ntmps101;go_wp2_with (first | (go_at_call 156;refine(qGi _ _ f b _ v.out m.out).mono ?_;rintro e w' ⟨rfl,rfl⟩;rw[t.out]));go_ret2;exact⟨_,rfl,Below.refl _ _,λh=>absurd h C.out,λ_=>rfl⟩
theorem qEz (vf vb:Value) (f b:List Int) (w:World) (hf:Ints w vf f) (hb:Ints w vb b) (E:Int) (hE:qBT f b=E):
  Calls Tryz.prog 51 #[vf,vb] w λe w'=>∃v',e= .returned (.tuple #[v',.int .i64 E])/\Below w.heap.size w w'∧
   (E=0->w'.ownsRow w.heap.size 3 1 v' (qAw f b).length ((qAw f b).map vint))/\(E≠0->v'= .slice none 0 0):=by
 unfold qAw;have o:=Lib.hid hf;have n:=Lib.hid hb;obtain⟨A,c,rfl,t,s,_,v⟩:=hf;obtain⟨x,y,rfl,r,q,_,p⟩:=hb;clear v p;have m:=hyd1 hE;clear hE;go_enter Tryz.func51,Tryz.ntmps51;go_wp2_with (first | (go_at_call 101;refine(qPq 102 103 qBg qCX _ _ f b _ w.heap.size (o.out.below (alc1 _ _)) (n.out.below (alc1 _ _)) (by simp) (World.cell?_alloc_at _ _ _ _ rfl) (World.cell?_alloc_at _ _ _ _ rfl) (λ_ _=>by kernel_rfl) (λ_ _=>by kernel_rfl) (λg d=>⟨qPp g d,by rw[qBd];exact d⟩) (λj i W g d k l=>qLD j i f b W g d k l) (λj i W g d k l=>qJW j i (qBg f b) b W g d k l) E m.out).mono ?_;rintro e w' ⟨v',rfl,g,d,k⟩));go_ret2;exact⟨v',rfl,(alc1 _ _).trans (g.mono (by simp)),λh=>qBq (d h) (by simp),k⟩
theorem qLE (vf vb:Value) (f b:List Int) (w:World) (hf:Ints w vf f) (hb:Ints w vb b) (E:Int) (hE:qBT f b=E):
  Calls Tryz.prog 52 #[vf,vb] w λe w'=>∃v',e= .returned (.tuple #[v',.int .i64 E])/\Below w.heap.size w w'∧
   (E=0->w'.ownsRow w.heap.size 3 1 v' (qBg f b).length ((qBg f b).map vint))/\(E≠0->v'= .slice none 0 0):=by
 have l:=Lib.hid hf;have k:=Lib.hid hb;obtain⟨A,c,rfl,t,s,_,v⟩:=hf;obtain⟨x,y,rfl,q,p,_,m⟩:=hb;clear v m;have j:=hyd1 hE;clear hE;go_enter Tryz.func52,Tryz.ntmps52;go_wp2_with (first | (go_at_call 101;refine(qK3 102 qBg _ _ f b _ w.heap.size (l.out.below (alc1 _ _)) (k.out.below (alc1 _ _)) (by simp) (World.cell?_alloc_at _ _ _ _ rfl) (λ_ _=>by kernel_rfl) (qBd f b) (λo n W d g i r=>qLD o n f b W d g i r) E j.out).mono ?_;rintro e w' ⟨v',rfl,d,g,i⟩));go_ret2;exact⟨v',rfl,(alc1 _ _).trans (d.mono (by simp)),λh=>qBq (g h) (by simp),i⟩
def qIu (w:World) (low high rub:List Int) (e:Ending) (w':World):Prop:=∃v',e= .returned (.tuple #[v',.int .i64 (rebN low high rub:Nat),.int .i64 (rebE low high rub)])/\Below w.heap.size w w'∧
 w'.ownsRow w.heap.size 3 1 v' (rebL low high rub).length ((rebL low high rub).map vint)
theorem qFA {w w':World} {low high rub:List Int} {E:Int} {N:Int} (hE:rebE low high rub=E) (h0:E≠0) (hN:(rebN low high rub:Int)=N) (hb:Below w.heap.size w w'):
  qIu w low high rub (.returned (.tuple #[.slice none 0 0,.int .i64 N,.int .i64 E])) w':=by
 refine⟨_,by rw[hE,hN],hb,?_⟩;have:rebL low high rub=[]:=by unfold rebL;rw[hE,if_neg h0]
 rw[this];exact World.ownsRow_nil _ _ _ _
theorem qG2 {low high rub:List Int} {E:Int} (hE:rebE low high rub=E) (h6:E≠6):(rebN low high rub:Int)=0:=by
 unfold rebN;rw[hE,if_neg h6];rfl
theorem qPr {w w':World} {low high rub:List Int} {v:Value} (hE:rebE low high rub=0) (hb:Below w.heap.size w w') (ho:w'.ownsRow w.heap.size 3 1 v (qBg high rub).length ((qBg high rub).map vint)):
  qIu w low high rub (.returned (.tuple #[v,.int .i64 0,.int .i64 0])) w':=by
 refine⟨v,by rw[hE,qG2 hE (by decide)],hb,?_⟩;have:rebL low high rub=qBg high rub:=by unfold rebL;rw[hE,if_pos rfl]
 rw[this];exact ho
theorem qPs {low high rub:List Int} (h:qAY low=false):rebE low high rub=30:=by unfold rebE;rw[h];rfl
theorem qOh {low high rub:List Int} {E:Int} (h:qAY low=true) (hb:qBT high rub=E) (h0:E≠0):rebE low high rub=E:=by
 unfold rebE;rw[h,if_pos rfl,hb,if_neg h0]
theorem qPt {low high rub:List Int} (h:qAY low=true) (hb:qBT high rub=0) (hl:low.length≠high.length):rebE low high rub=2:=by
 unfold rebE;rw[h,if_pos rfl,hb,if_pos rfl,if_neg hl]
theorem qPu {low high rub:List Int} (h:qAY low=true) (hb:qBT high rub=0) (hl:low.length=high.length) {i:Nat} (hi:qDO high low low.length=some i):rebE low high rub=2:=by
 unfold rebE;rw[h,if_pos rfl,hb,if_pos rfl,if_pos hl,hi];rfl
theorem qOi {low high rub:List Int} (h:qAY low=true) (hb:qBT high rub=0) (hl:low.length=high.length) (hi:qDO high low low.length=none) {i:Nat} (hj:qDO (qAw high rub) low low.length=some i):rebE low high rub=6/\(rebN low high rub:Int)=i:=by
 have b:rebE low high rub=6:=by unfold rebE;rw[h,if_pos rfl,hb,if_pos rfl,if_pos hl,hi,hj];rfl
 exact⟨b,by unfold rebN;rw[b,if_pos rfl,hj];rfl⟩
theorem qRA {low high rub:List Int} (h:qAY low=true) (hb:qBT high rub=0) (hl:low.length=high.length) (hi:qDO high low low.length=none) (hj:qDO (qAw high rub) low low.length=none):rebE low high rub=0:=by
 unfold rebE;rw[h,if_pos rfl,hb,if_pos rfl,if_pos hl,hi,hj];rfl
theorem looks {w:World} {A:Option Addr} {n c:Nat} {xs:List Int} (h:Ints w (.slice A n c) xs) {k:Nat} (hk:k<xs.length):
  ∃b off,A=some ⟨b,off,none⟩/\w.cell? ⟨b,off+k,none⟩=some (.int .i64 (xs.getD k 0)):=by
 obtain⟨b,off,d,_,f⟩:=h.look hk;exact⟨b,off,d,by rw[f];simp[hk]⟩
theorem qN5 (vl vh vr:Value) (low high rub:List Int) (w:World) (hl:Ints w vl low) (hh:Ints w vh high) (hr:Ints w vr rub):
  Calls Tryz.prog 20 #[vl,vh,vr] w (qIu w low high rub):=by
 have s:=Lib.hid hl;have D:=Lib.hid hh;have J:=Lib.hid hr;obtain⟨A,c,rfl,ap,ai,_,_⟩:=hl;obtain⟨A',c',rfl,ak,U,_,_⟩:=hh;obtain⟨A2,c2,rfl,_,_,_,_⟩:=hr;unfold maxLen at ai U;obtain⟨B,t⟩:∃B,qAY low=B:=⟨_,rfl⟩;obtain⟨E,v⟩:∃E,qBT high rub=E:=⟨_,rfl⟩
 cases B with
 | false=>
  have p:=Lib.hid (qPs (high:=high) (rub:=rub) t);have⟨f,g⟩:=hyd2 t v;clear v t;go_enter Tryz.func20,Tryz.ntmps20;go_wp2_with (first | (go_at_call 50;((with_reducible refine(qB3 _ low _ s.out false f.out).mono ?_);rintro e T ⟨rfl,rfl⟩)))
  go_ret3
  exact qFA p.out (by decide) (qG2 p.out (by decide)) (Below.refl _ _)
 | true=>
  by_cases z:E=0
  ·subst z
   by_cases b:low.length=high.length
   ·have ad:((low.length:Int) != (high.length:Int))=false:=by simp[b]
    have ab:(qAw high rub).length =low.length:=by rw[qIt,b]
    have⟨f,g,d,ac⟩:=hyd4 t v b ab;clear ab b v t;go_enter Tryz.func20,Tryz.ntmps20;go_wp2_with (first | (go_at_call 50;((with_reducible refine(qB3 _ low _ s.out true f.out).mono ?_);rintro e T ⟨rfl,rfl⟩))| (go_at_call 51;((with_reducible refine(qEz _ _ high rub _ D.out J.out 0 g.out).mono ?_);rintro e T ⟨vg,rfl,n,m,-⟩;obtain⟨gA,gc,rfl,-,-,-,-⟩:=Arr.of_own (m rfl);have r:=Lib.hid (Arr.of_own (m rfl));clear m)));go_loopw [34] (λi wr=>∃k:Nat,k<=low.length/\i= .int .i64 k/\Below w.heap.size w wr/\Hid (Ints wr (.slice gA (qAw high rub).length gc) (qAw high rub))/\Hid (∀j,j<k->low.getD j 0<=high.getD j 0)) (λi _=>low.length - (intOf i).toNat)
    case atStart=>exact⟨0,Nat.zero_le _,rfl,n,r,Lib.hid λj h=>absurd h (by omega)⟩
    case round=>
     obtain⟨k,hk,rfl,o,hg,l⟩:=hrel;clear n r
     by_cases F:k<low.length
     ·have G:k<high.length:=by have:=d.out;omega
      obtain⟨b1,o1,rfl,O⟩:=looks (s.out.below o) F;obtain⟨b2,o2,rfl,P⟩:=looks (D.out.below o) G;obtain⟨x,Q⟩:∃x,low.getD k 0=x:=⟨_,rfl⟩;obtain⟨y,R⟩:∃y,high.getD k 0=y:=⟨_,rfl⟩;rw[Q]at O;rw[R]at P;have i1:(0:Int)<=(k:Int):=by omega
      have i2:(k:Int)<(low.length:Int):=by omega
      have i3:(k:Int)<(high.length:Int):=by omega
      have⟨H,I⟩:=hyd2 Q R;clear R Q
      by_cases S:y<x
      ·have V:=qIH (X:=high) (Y:=low) F (by rw[H.out,I.out];exact S) l.out;have p:=Lib.hid (qPu f.out g.out d.out V);clear V;go_wp2;go_quiet (fail);go_wp2
       go_ret3
       exact qFA p.out (by decide) (qG2 p.out (by decide)) (qAQ o _)
      ·go_wp2;go_quiet (fail);go_wp2;go_roundw
       case rel=>exact⟨k+1,by omega,by go_num,qAQ o _,hg,Lib.hid λj h=>by
        by_cases N:j=k
        ·subst N;rw[H.out,I.out];omega
        ·exact l.out j (by omega)⟩
       case measure=>simp[intOf];omega
     ·obtain rfl:k=low.length:=by omega
      have Z:=Lib.hid (qIG l.out);have C:=o.size;clear l;go_wp2;generalize wr=w0 at o hg C ⊢;clear wr;go_loopw [49] (λi wr=>∃k:Nat,k<=low.length/\i= .int .i64 k/\Below w.heap.size w wr/\Hid (Ints wr (.slice gA (qAw high rub).length gc) (qAw high rub))/\Hid (∀j,j<k->low.getD j 0<=(qAw high rub).getD j 0)) (λi _=>low.length - (intOf i).toNat)
      case atStart=>exact⟨0,Nat.zero_le _,rfl,o,hg,Lib.hid λj h=>absurd h (by omega)⟩
      case round=>
       obtain⟨k,hk,rfl,q,M,l⟩:=hrel;clear o hg C
       by_cases F:k<low.length
       ·have G:k<(qAw high rub).length :=by have:=ac.out;omega
        obtain⟨b1,o1,rfl,O⟩:=looks (s.out.below q) F;obtain⟨b2,o2,rfl,P⟩:=looks M.out G;obtain⟨x,Q⟩:∃x,low.getD k 0=x:=⟨_,rfl⟩;obtain⟨y,R⟩:∃y,(qAw high rub).getD k 0=y:=⟨_,rfl⟩;rw[Q]at O;rw[R]at P;have i1:(0:Int)<=(k:Int):=by omega
        have i2:(k:Int)<(low.length:Int):=by omega
        have i3:(k:Int)<((qAw high rub).length :Int):=by omega
        have⟨H,I⟩:=hyd2 Q R;clear R Q
        by_cases S:y<x
        ·have V:=qIH (X:=qAw high rub) (Y:=low) F (by rw[H.out,I.out];exact S) l.out;have p:=Lib.hid (qOi f.out g.out d.out Z.out V);clear V;go_wp2;go_quiet (fail);go_wp2
         go_ret3
         exact qFA p.out.1 (by decide) p.out.2 (qAQ q _)
        ·go_wp2;go_quiet (fail);go_wp2;go_roundw
         case rel=>exact⟨k+1,by omega,by go_num,qAQ q _,M,Lib.hid λj h=>by
          by_cases N:j=k
          ·subst N;rw[H.out,I.out];omega
          ·exact l.out j (by omega)⟩
         case measure=>simp[intOf];omega
       ·obtain rfl:k=low.length:=by omega
        have aa:=qIG l.out;have p:=Lib.hid (qRA f.out g.out d.out Z.out aa);have C:=q.size;clear l aa M;go_wp2_with (first | (go_at_call 52;((with_reducible refine(qLE _ _ high rub _ (D.out.below q) (J.out.below q) 0 g.out).mono ?_);rintro e T ⟨vu,rfl,n,m,-⟩;have r:=Lib.hid (m rfl);clear m)))
        go_ret3
        exact qPr p.out (q.trans (n.mono C)) (qBq r.out C)
   ·have p:=Lib.hid (qPt t v b);have ad:((low.length:Int) != (high.length:Int))=true:=by simp;omega
    have⟨f,g,d⟩:=hyd3 t v b;clear b v t;go_enter Tryz.func20,Tryz.ntmps20;go_wp2_with (first | (go_at_call 50;((with_reducible refine(qB3 _ low _ s.out true f.out).mono ?_);rintro e T ⟨rfl,rfl⟩))| (go_at_call 51;((with_reducible refine(qEz _ _ high rub _ D.out J.out 0 g.out).mono ?_);rintro e T ⟨vg,rfl,n,m,-⟩;obtain⟨gA,gc,rfl,-,-,-,-⟩:=Arr.of_own (m rfl);clear m)))
    go_ret3
    exact qFA p.out (by decide) (qG2 p.out (by decide)) n
  ·have p:=Lib.hid (qOh t v z);have h6:E≠6:=by rw[<-v];exact qOe high rub
   have aq:(E != 0)=true:=by simpa using z
   have⟨L,ah⟩:=hyd2 z h6;clear z h6;have⟨f,g⟩:=hyd2 t v;clear v t;go_enter Tryz.func20,Tryz.ntmps20;go_wp2_with (first | (go_at_call 50;((with_reducible refine(qB3 _ low _ s.out true f.out).mono ?_);rintro e T ⟨rfl,rfl⟩))| (go_at_call 51;((with_reducible refine(qEz _ _ high rub _ D.out J.out E g.out).mono ?_);rintro e T ⟨vg,rfl,n,-,hv⟩;obtain rfl:=hv L.out)))
   go_ret3
   exact qFA p.out L.out (qG2 p.out ah.out) n
end Go.Proofs.YtabfaobakmjiaaaGreat

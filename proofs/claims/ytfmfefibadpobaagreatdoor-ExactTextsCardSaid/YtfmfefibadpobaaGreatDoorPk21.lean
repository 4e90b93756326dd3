/- reference 1: big, Great, SameWhole, SameFrac. reference 1: both. reference 1: what is said of results; CheckFrac, FromInt, Ratio, Compare, Add, Mul, Div. What .. -/
import Derived.Test.YtfmfefibadpobaaGreatDoorPk20
namespace Go.Proofs.YtfmfefibadpobaaGreatDoor
set_option maxRecDepth 100000
set_option maxHeartbeats 1000000
open Go.RowKit Go.Shelf
set_option linter.unusedVariables false
set_option linter.unusedSimpArgs false
def bigB (n m:Nat):Bool:=(decide (m<n)&&decide (n<=40))||decide (42<n)
theorem qFR (n m:Nat) (w:World) (hn:(n:Int)<=9223372036854775807) (hm:(m:Int)<=1000):
  Calls Tryz.prog 10 #[.int .i64 n,.int .i64 m] w λe w'=>e= .returned (.bool (bigB n m))/\w=w':=by
 unfold bigB
 by_cases g:m<n
 ·by_cases h:n<=40
  ·have b:(decide (m<n)&&decide (n<=40)||decide (42<n))=true:=by simp[g,h]
   rw[b];clear b;have d:(m:Int)<(n:Int):=by omega
   have i:(n:Int)<=40:=by omega
   go_enter Tryz.func10,Tryz.ntmps10;go_wp2;go_ret;exact⟨rfl,rfl⟩
  ·by_cases c:42<n
   ·have b:(decide (m<n)&&decide (n<=40)||decide (42<n))=true:=by simp[c]
    rw[b];clear b;have d:(m:Int)<(n:Int):=by omega
    have i:¬(n:Int)<=40:=by omega
    have f:42<(n:Int):=by omega
    go_enter Tryz.func10,Tryz.ntmps10;go_wp2;go_ret;exact⟨rfl,rfl⟩
   ·have b:(decide (m<n)&&decide (n<=40)||decide (42<n))=false:=by simp[h,c]
    rw[b];clear b;have d:(m:Int)<(n:Int):=by omega
    have i:¬(n:Int)<=40:=by omega
    have f:¬42<(n:Int):=by omega
    go_enter Tryz.func10,Tryz.ntmps10;go_wp2;go_ret;exact⟨rfl,rfl⟩
 ·by_cases c:42<n
  ·have b:(decide (m<n)&&decide (n<=40)||decide (42<n))=true:=by simp[c]
   rw[b];clear b;have d:¬(m:Int)<(n:Int):=by omega
   have f:42<(n:Int):=by omega
   go_enter Tryz.func10,Tryz.ntmps10;go_wp2;go_ret;exact⟨rfl,rfl⟩
  ·have b:(decide (m<n)&&decide (n<=40)||decide (42<n))=false:=by simp[g,c]
   rw[b];clear b;have d:¬(m:Int)<(n:Int):=by omega
   have f:¬42<(n:Int):=by omega
   go_enter Tryz.func10,Tryz.ntmps10;go_wp2;go_ret;exact⟨rfl,rfl⟩
def qDX (x:FracA) (m:Nat):Bool:=bigB x.gn.length m||bigB x.gd.length m
theorem ArrL.lenB {α:Type} {L:Nat->Prop} {f:α->Value} {w:World} {v:Value} {xs:List α} (h:ArrL L f w v xs):(xs.length:Int)<=9223372036854775807:=by
 obtain⟨A,c,g,d,b,-⟩:=h;unfold maxLen at b;omega
theorem qGL (L:Nat->Prop) (x:FracA) (m:Nat) (v:Value) (w:World) (hm:(m:Int)<=1000) (h:IsFracA L w v x):
  Calls Tryz.prog 4 #[v,.int .i64 m] w λe w'=>e= .returned (.bool (qDX x m))/\Le w w':=by
 obtain⟨A,c,B,d,rfl,n,o⟩:=h;have E:=n.lenB;have F:=o.lenB;have q:=λW=>qFR x.gn.length m W E hm;have r:=λW=>qFR x.gd.length m W F hm;obtain⟨k,b⟩:∃k,bigB x.gn.length m=k:=⟨_,rfl⟩;obtain⟨l,f⟩:∃l,bigB x.gd.length m=l:=⟨_,rfl⟩;have p:qDX x m=(k||l):=by unfold qDX;rw[b,f]
 rw[b]at q;rw[f]at r;rw[p];have i:=qAA w (.cells #[.bool x.sn,.slice A x.gn.length c,.bool x.sd,.slice B x.gd.length d] 26);have⟨z,C,j,s,t,y,D,g⟩:=hyd8 n o q r b f p i;clear i p f b r q o n
 cases k
 ·go_enter Tryz.func4,Tryz.ntmps4;go_wp2_with (fail);go_at_call 10;refine(j.out _).mono ?_;rintro e w' ⟨rfl,rfl⟩;go_wp2_with (fail);go_at_call 10;refine(s.out _).mono ?_;rintro e w' ⟨rfl,rfl⟩;go_wp2;go_ret;exact⟨by simp,g.out⟩
 ·go_enter Tryz.func4,Tryz.ntmps4;go_wp2_with (fail);go_at_call 10;refine(j.out _).mono ?_;rintro e w' ⟨rfl,rfl⟩;go_wp2;go_ret;exact⟨by simp,g.out⟩
def qB2 (s1:Bool) (g1:List Nat) (s2:Bool) (g2:List Nat):Bool:=(s1==s2)&&(g1==g2)
theorem qCd (L L2:Nat->Prop) (s1 s2:Bool) (g1 g2:List Nat) (A B:Option Addr) (c d:Nat) (w:World) (h1:ArrL L (gv .u32) w (.slice A g1.length c) g1) (h2:ArrL L2 (gv .u32) w (.slice B g2.length d) g2):
  Calls Tryz.prog 29 #[.agg #[.bool s1,.slice A g1.length c],.agg #[.bool s2,.slice B g2.length d]] w λe w'=>e= .returned (.bool (qB2 s1 g1 s2 g2))/\Le w w':=by
 have l1:=h1.lenB;have l2:=h2.lenB;obtain⟨W0,l,au,m,I,J⟩:=qCE w (.cells #[.bool s1,.slice A g1.length c] 24) (.cells #[.bool s2,.slice B g2.length d] 24)
 by_cases hs:s1=s2
 ·subst hs
  by_cases v:g1.length=g2.length
  ·have ab:((g1.length:Int) != (g2.length:Int))=false:=by simp[v]
   have Q:¬(g1.length:Int)≠(g2.length:Int):=by simp[v]
   have b:qB2 s1 g1 s1 g2=(g1==g2):=by unfold qB2;simp
   rw[b];obtain⟨Ap,cp,U,-,-,aN,a3⟩:=h1;injection U with e1 e2 e3;subst e1 e3;obtain⟨Bp,dp,U,-,-,bN,b3⟩:=h2;injection U with e1 e4 e3;subst e1 e3;have⟨z,o,S,T,an,ao,g,f⟩:=hyd8 v b a3 b3 aN bN l m;have⟨G,H⟩:=hyd2 I J;clear J I m l bN aN b3 a3 b v;clear e2 e4;go_enter Tryz.func29,Tryz.ntmps29;go_wp2;rw[g.out];go_loopw [5] (λi wr=>∃k:Nat,k<=g1.length/\i= .int .i64 k/\Hid (g1.take k=g2.take k)/\Hid (Le W0 wr)) (λi _=>g1.length - (intOf i).toNat)
   case atStart=>exact⟨0,Nat.zero_le _,rfl,Lib.hid (by simp),Lib.hid (Le.refl _)⟩
   case round=>
    obtain⟨k,hk,rfl,t,j⟩:=hrel;have q0:=(j.out.block w.heap.size (by omega)).trans G.out;have q1:=(j.out.block (w.heap.size+1) (by omega)).trans H.out;obtain⟨z0,z1⟩:=qCP q0;obtain⟨y0,y1⟩:=qCP q1;have⟨ay,az⟩:=hyd2 q0 q1;clear q1 q0
    by_cases P:k<g1.length
    ·have n:k<g2.length:=by have:=z.out;omega
     obtain⟨ba,oa,rfl,-,Y,N⟩:=S.out (by omega);obtain⟨bb,ob,rfl,-,Z,O⟩:=T.out (by omega);have q:=(Below.cell (f.out.trans j.out) (p:=⟨ba,oa+k,none⟩) Y).trans (N k P);have r:=(Below.cell (f.out.trans j.out) (p:=⟨bb,ob+k,none⟩) Z).trans (O k n);unfold gv at q r;obtain⟨x,D⟩:∃x,g1[k]=x:=⟨_,rfl⟩;obtain⟨y,F⟩:∃y,g2[k]=y:=⟨_,rfl⟩;rw[D]at q;rw[F]at r;clear N O;have i1:(0:Int)<=(k:Int):=by omega
     have i2:(k:Int)<(g1.length:Int):=by omega
     have i3:(k:Int)<(g2.length:Int):=by omega
     by_cases E:x=y
     ·subst E;have hz:((x:Int) != (x:Int))=false:=by simp
      have ac:Hid (g1.take (k+1)=g2.take (k+1)):=Lib.hid (by rw[List.take_succ_eq_append_getElem P,List.take_succ_eq_append_getElem n,t.out,D,F]);have⟨ae,af⟩:=hyd2 D F;clear F D;go_wp2;go_quiet (fail);go_wp2;go_roundw
      case rel=>exact⟨k+1,by omega,by go_num,ac,Lib.hid (j.out.trans (Le.quiet _))⟩
      case measure=>simp[intOf];omega
     ·have hz:((x:Int) != (y:Int))=true:=by simp;omega
      have s:(g1==g2)=false:=by
       rw[beq_eq_false_iff_ne];intro R;subst R;exact E (D.symm.trans F)
      have⟨C,ae,af⟩:=hyd3 s D F;clear F D;clear s E;go_wp2;go_quiet (fail);go_wp2;go_ret;exact⟨qBE (by rw[C.out]),f.out.trans (j.out.trans (Le.quiet _))⟩
    ·have R:(g1==g2)=true:=by
      rw[beq_iff_eq];have h:=t.out;have:=z.out
      rwa[List.take_of_length_le (by omega),List.take_of_length_le (by omega)]at h
     have aa:=hyd1 R;clear R;have n:¬(k:Int)<(g1.length:Int):=by omega
     go_wp2;go_ret;exact⟨qBE (by rw[aa.out]),f.out.trans j.out⟩
  ·have ab:((g1.length:Int) != (g2.length:Int))=true:=by simp;omega
   have Q:(g1.length:Int)≠(g2.length:Int):=by omega
   have b:qB2 s1 g1 s1 g2=false:=by
    unfold qB2;have:(g1==g2)=false:=beq_eq_false_iff_ne.2 (λh=>v (by rw[h]));rw[this,Bool.and_false]
   rw[b];have⟨o,V,X,g,f,G,H,z⟩:=hyd8 b h1 h2 l m I J v;clear v J I m l h2 h1 b;go_enter Tryz.func29,Tryz.ntmps29;go_wp2;go_ret;have M:=f.out;rw[<-g.out]at M;exact⟨rfl,M⟩
 ·have b:qB2 s1 g1 s2 g2=false:=by
   unfold qB2;rw[beq_eq_false_iff_ne.2 hs,Bool.false_and]
  have ar:(s1 != s2)=true:=by simpa using hs
  rw[b];have⟨o,V,X,g,f,G,H⟩:=hyd7 b h1 h2 l m I J;clear J I m l h2 h1 b;go_enter Tryz.func29,Tryz.ntmps29;go_wp2;go_ret;have M:=f.out;rw[<-g.out]at M;exact⟨rfl,M⟩
def qED (x y:FracA):Bool:=qB2 x.sn x.gn y.sn y.gn&&qB2 x.sd x.gd y.sd y.gd
theorem qEE (x:FracA):qED x x=true:=by unfold qED qB2;simp
theorem qDA (L L2:Nat->Prop) (x y:FracA) (v1 v2:Value) (w:World) (h1:IsFracA L w v1 x) (h2:IsFracA L2 w v2 y):
  Calls Tryz.prog 9 #[v1,v2] w λe w'=>e= .returned (.bool (qED x y))/\Le w w':=by
 obtain⟨A,c,B,d,rfl,H,Z⟩:=h1;obtain⟨R,T,S,U,rfl,J,q2⟩:=h2;obtain⟨W0,p,ak,j,D,F⟩:=qCE w (.cells #[.bool x.sn,.slice A x.gn.length c,.bool x.sd,.slice B x.gd.length d] 26) (.cells #[.bool y.sn,.slice R y.gn.length T,.bool y.sd,.slice S y.gd.length U] 26);obtain⟨t,i⟩:∃t,qB2 x.sn x.gn y.sn y.gn=t:=⟨_,rfl⟩;obtain⟨v,l⟩:∃v,qB2 x.sd x.gd y.sd y.gd=v:=⟨_,rfl⟩;have h:qED x y=(t&&v):=by unfold qED;rw[i,l]
 rw[h];have N:=qCd L L2 x.sn y.sn x.gn y.gn A R c T W0 (H.le j) (J.le j);rw[i]at N;obtain⟨z0,z1,z2,z3⟩:=qAC D;obtain⟨y0,y1,y2,y3⟩:=qAC F;have⟨C,V,r,al,I,am,M,s⟩:=hyd8 h i l H Z J q2 j;have⟨E,G,O,q⟩:=hyd4 D F N p;clear p N F D j q2 J Z H l i h;go_enter Tryz.func9,Tryz.ntmps9;go_wp2_with (fail);go_at_call 29;rw[q.out];refine O.out.mono ?_;rintro e W1 ⟨rfl,b⟩;clear z0 z1 z2 z3 y0 y1 y2 y3;have n:=(b.block w.heap.size (by omega)).trans E.out;have o:=(b.block (w.heap.size+1) (by omega)).trans G.out;obtain⟨z0,z1,z2,z3⟩:=qAC n;obtain⟨y0,y1,y2,y3⟩:=qAC o;have f:=s.out.trans b;have P:=qCd L L2 x.sd y.sd x.gd y.gd B S d U W1 (I.out.le f) (M.out.le f);rw[r.out]at P;have⟨z,g,X,Y,Q⟩:=hyd5 b f n o P;clear P o n f b
 cases t
 ·go_wp2;go_ret;exact⟨by simp,g.out⟩
 ·go_wp2_with (fail);go_at_call 29;refine Q.out.mono ?_;rintro e W2 ⟨rfl,k⟩;have m:=hyd1 k;clear k;go_wp2;go_ret;exact⟨by simp,g.out.trans m.out⟩
theorem RatL.box3 {L:Nat->Prop} {k:IntKind} {W:World} {v u0 u1 u2:Value} {b0:Bool} {A1 A2:Option Addr} {n1 c1 n2 c2 B:Nat} {r:Rat} {t:TypeId} (h:RatL L k W v r) (hk:W.heap[B]? =some (Obj.cells #[.bool b0,.slice A1 n1 c1,.slice A2 n2 c2] t)):
  RatL L k (((W.setCell ⟨B,0,none⟩ u0).setCell ⟨B,1,none⟩ u1).setCell ⟨B,2,none⟩ u2) v r:=by
 obtain⟨f,d,e,b,c⟩:=h;exact⟨f,d,e,b.box3 hk,c.box3 hk⟩
def IsRes (L:Nat->Prop) (w:World) (v:Value) (c:Int):Except Int Rat->Prop
 | .ok r=>FracL L w v r/\c=0
 | .error x=>v=qAN/\c=x
def qB5 (L:Nat->Prop) (res:Except Int Rat) (w:World) (e:Ending) (w':World):Prop:=Le w w'/\∃v c,e= .returned (.tuple #[v,.int .i64 c])/\IsRes L w' v c res
open Classical in
noncomputable def outR (r:Rat):Except Int Rat:=if Rsz r 40 then .ok r else .error 12
theorem qE5 {r:Rat} (h:Rsz r 40):outR r= .ok r:=by unfold outR;rw[if_pos h]
theorem qE6 {r:Rat} (h:¬Rsz r 40):outR r= .error 12:=by unfold outR;rw[if_neg h]
def qHv (v:Value):Prop:=∃s A n c s' B m d,v= .agg #[.bool s,.slice A n c,.bool s',.slice B m d]
theorem IsRes.form {L:Nat->Prop} {w:World} {v:Value} {c:Int} {res:Except Int Rat} (h:IsRes L w v c res):qHv v:=by
 cases res with
 | ok r=>obtain⟨⟨A,c,B,d,rfl,-,-⟩,-⟩:=h;exact⟨_,_,_,_,_,_,_,_,rfl⟩
 | error x=>obtain⟨rfl,-⟩:=h;exact⟨_,_,_,_,_,_,_,_,rfl⟩
theorem IsRes.le {L:Nat->Prop} {w W:World} {v:Value} {c:Int} {res:Except Int Rat} (h:IsRes L w v c res) (hb:Le w W):IsRes L W v c res:=by
 cases res with
 | ok r=>exact⟨h.1.le hb,h.2⟩
 | error x=>exact h
theorem FracL.box4 {L:Nat->Prop} {W:World} {v u0 u1 u2 u3:Value} {b0 b1:Bool} {A1 A2:Option Addr} {n1 c1 n2 c2 B:Nat} {r:Rat} {t:TypeId} (h:FracL L W v r) (hk:W.heap[B]? =some (Obj.cells #[.bool b0,.slice A1 n1 c1,.bool b1,.slice A2 n2 c2] t)):
  FracL L ((((W.setCell ⟨B,0,none⟩ u0).setCell ⟨B,1,none⟩ u1).setCell ⟨B,2,none⟩ u2).setCell ⟨B,3,none⟩ u3) v r:=by
 obtain⟨A,c,b,d,e,f,g⟩:=h;exact⟨A,c,b,d,e,f.box4 hk,g.box4 hk⟩
theorem IsRes.box4 {L:Nat->Prop} {W:World} {v u0 u1 u2 u3:Value} {b0 b1:Bool} {A1 A2:Option Addr} {n1 c1 n2 c2 B:Nat} {c:Int} {res:Except Int Rat} {t:TypeId} (h:IsRes L W v c res) (hk:W.heap[B]? =some (Obj.cells #[.bool b0,.slice A1 n1 c1,.bool b1,.slice A2 n2 c2] t)):
  IsRes L ((((W.setCell ⟨B,0,none⟩ u0).setCell ⟨B,1,none⟩ u1).setCell ⟨B,2,none⟩ u2).setCell ⟨B,3,none⟩ u3) v c res:=by
 cases res with
 | ok r=>exact⟨h.1.box4 hk,h.2⟩
 | error x=>exact h
theorem OutPost.res {L:Nat->Prop} {r:Rat} {w:World} {e:Ending} {w':World} (h:OutPost L r w e w'):qB5 L (outR r) w e w':=by
 obtain⟨b,⟨c,v,rfl,d⟩| ⟨c,rfl⟩⟩:=h
 ·rw[qE5 c];exact⟨b,v,0,rfl,d,rfl⟩
 ·rw[qE6 c];exact⟨b,qAN,12,rfl,rfl,rfl⟩
theorem FracA.sz {x:FracA} {r:Rat} (h:x.rat?=some r):Rsz r 40:=(FracA.val h).sz
theorem Rsz.up {r:Rat} {m n:Nat} (h:Rsz r m) (hmn:m<=n):Rsz r n:=⟨Nat.le_trans h.1 hmn,Nat.le_trans h.2 hmn⟩
end Go.Proofs.YtfmfefibadpobaaGreatDoor
namespace Go.Proofs.YtfmfefibadpobaaGreatDoor
set_option maxRecDepth 100000
set_option maxHeartbeats 1000000
open Go.RowKit Go.Shelf
set_option linter.unusedVariables false
set_option linter.unusedSimpArgs false
noncomputable def qHU (r:Rat):FracA:=⟨rneg r,dg (rnum r),false,dg r.den⟩
def qHV:FracA:=⟨false,[],false,[]⟩
noncomputable def resA:Except Int Rat->FracA
 | .ok r=>qHU r
 | .error _=>qHV
theorem FracL.isA {L:Nat->Prop} {w:World} {v:Value} {r:Rat} (h:FracL L w v r):IsFracA L w v (qHU r):=by
 obtain⟨A,c,B,d,rfl,b,f⟩:=h;exact⟨A,c,B,d,rfl,b.1,f.1⟩
theorem qGa (L:Nat->Prop) (w:World):IsFracA L w (.agg #[.bool false,.slice none 0 0,.bool false,.slice none 0 0]) qHV:=
 ⟨none,0,none,0,rfl,⟨none,0,rfl,Nat.le_refl _,by decide,by decide,λh=>absurd h (Nat.lt_irrefl 0)⟩,⟨none,0,rfl,Nat.le_refl _,by decide,by decide,λh=>absurd h (Nat.lt_irrefl 0)⟩⟩
theorem IsRes.isA {L:Nat->Prop} {w:World} {v:Value} {c:Int} {res:Except Int Rat} (h:IsRes L w v c res):IsFracA L w v (resA res):=by
 cases res with
 | ok r=>exact h.1.isA
 | error x=>
  obtain⟨rfl,-⟩:=h;exact qGa L w
end Go.Proofs.YtfmfefibadpobaaGreatDoor

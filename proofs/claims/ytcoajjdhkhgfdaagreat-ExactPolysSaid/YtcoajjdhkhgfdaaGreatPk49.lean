/- Polynomials, the reference: DivPoly. The law's great at two lists. -/
import Derived.Test.YtcoajjdhkhgfdaaGreatPk48
namespace Go.Proofs.YtcoajjdhkhgfdaaGreat
set_option maxRecDepth 100000
set_option maxHeartbeats 1000000
open Go.RowKit Go.Shelf
set_option linter.unusedVariables false
set_option linter.unusedSimpArgs false
theorem qEf:∀{l:List Rat} {z:Int},mapE outR l= .error z->z=12
 | [],z,h=>by simp[mapE]at h
 | x::l,z,h=>by
  cases hx:outR x with
  | error z1=>
   have h1:z1=12:=by
    unfold outR at hx
    split at hx
    ·cases hx
    ·injection hx with hx;exact hx.symm
   simp[mapE,hx]at h;omega
  | ok y=>
   cases hl:mapE outR l with
   | error z1=>simp[mapE,hx,hl]at h;rw[<-h];exact qEf hl
   | ok ys=>simp[mapE,hx,hl]at h
theorem qFa {l:List Rat} {z:Int} (h:qAR l= .error z):z=12:=by
 unfold qAR at h
 split at h
 ·injection h with h;exact h.symm
 ·exact qEf h
theorem qLq {p q:List FracA} {x y:List Rat} (hx:qAC p= .ok x) (hy:qAC q= .ok y):divP p q=if y.length=0 then .error 11 else match qAR (qC2 x y)with
   | .error z=> .error z
   | .ok a=>match qAR (qAZ x y)with
    | .error z=> .error z
    | .ok b=> .ok (a,b):=by
 unfold divP;rw[hx,hy]
 rfl
theorem qK3 {x y:List Rat} (x65:x.length<=65) (y65:y.length<=65) (xsz:∀r∈x,Rsz r 40) (ysz:∀r∈y,Rsz r 40) (ht:qAT y=true) (h0:y.length≠0):∀s,s<=x.length - y.length+1->∀r∈divS x y (x.length - y.length) s,Rsz r 500000:=by
 intro s d r b;have h:=(qDY (qFT x65 xsz) (qFT y65 ysz) (qBh ht h0) (x.length - y.length) s).sz r b;have c:s*(2601+1)<=66*(2601+1):=Nat.mul_le_mul_right _ (by omega);exact qAN h (by omega)
theorem qIU (L:Nat->Prop) (vp vq:Value) (p q:List FracA) (w:World) (hL:Up w L) (hp:SeqE inK w vp p) (hq:SeqE inK w vq q):
  Calls Tryz.prog 12 #[vp,vq] w (qCM L (divP p q) w):=by
 have kc:=qE8 vp vq p q w hp hq;have⟨aR,aS,a1,ad⟩:=hyd4 hp hq kc hL;clear hL kc hq hp;go_enter Tryz.func12,Tryz.ntmps12;go_wp2_with (fail);go_at_call 30;refine a1.out.mono ?_;rintro e W1 ⟨A,v1,v2,c,rfl,⟨x,y,X,Y,P,J,rfl⟩| ⟨hF,hz⟩⟩
 ·obtain⟨a5,Q,xt⟩:=qAL X;obtain⟨a7,M,Z⟩:=qAL Y;have f:=qLq X Y;obtain⟨A2,c2,rfl⟩:=J.slice;obtain⟨ny,t⟩:∃n,y.length=n:=⟨_,rfl⟩
  by_cases h0:ny=0
  ·rw[t,if_pos h0]at f;rw[t];subst h0;have⟨D,az,a0,ah,ai,am,an,k⟩:=hyd8 A X Y P J Q M f;have⟨a6,a8,ae⟩:=hyd3 xt Z t;clear t Z xt f M Q J P Y X A;go_wp2
   have d:qCM L (divP p q) w (.returned (.tuple #[.slice none 0 0,.slice none 0 0,.int .i64 11])) W1:=by
    rw[k.out];exact⟨D.out,_,_,_,_,_,_,_,rfl,rfl,rfl,rfl,rfl,rfl,rfl,rfl⟩
   have h:=hyd1 d;clear d;exact bodyPost_ret (v:= .tuple #[.slice none 0 0,.slice none 0 0,.int .i64 11]) (by simp[results,Tryz.results12,go_sem]) rfl h.out
  ·have aj:y.length≠0:=by omega
   rw[t,if_neg h0]at f;have kp:=qFJ 0 0 v1 _ x y W1 (P.base (Nat.zero_le _)) (J.base (Nat.zero_le _)) (Nat.zero_le _) (by omega) (qBh Z aj) (by omega) (by omega) (λr hr=>qAN (M r hr) (by decide)) (qK3 a5 a7 Q M Z aj);rw[t]at kp ⊢;have j1:((ny:Int)==0)=false:=by simpa using h0
   obtain⟨ra,l⟩:∃r,qAR (qC2 x y)=r:=⟨_,rfl⟩;obtain⟨rb,m⟩:∃r,qAR (qAZ x y)=r:=⟨_,rfl⟩;rw[l,m]at f;have⟨D,az,a0,ah,ai,am,an,k⟩:=hyd8 A X Y P J Q M f;have⟨a6,a8,ae,a4,o,s⟩:=hyd6 xt Z t kp l m;clear m l kp t Z xt f M Q J P Y X A;go_wp2_with (fail);go_at_call 41;refine a4.out.mono ?_;rintro e W2 ⟨va,vb,rfl,N,U,af⟩;have B:Le w W2:=D.out.trans N;have ko:=qCN L _ va _ W2 (ad.out.le B) U;rw[o.out]at ko;have⟨ax,aJ,ag,E,a3⟩:=hyd5 N U af B ko;clear ko B af U N;go_wp2_with (fail);go_at_call 31;refine a3.out.mono ?_;rintro e W3 ⟨H,v4,c4,rfl,h4⟩;have C:Le w W3:=E.out.trans H;have V:=qCN L _ vb _ W3 (ad.out.le C) (ag.out.le H);rw[s.out]at V;have⟨ay,ab,F,al⟩:=hyd4 H h4 C V;clear V C h4 H;go_wp2_with (fail);go_at_call 31;refine al.out.mono ?_;rintro e W4 ⟨j,v5,c5,rfl,h5⟩;have i:Le w W4:=F.out.trans j;have h4:=ab.out;have l:=o.out;have m:=s.out;have f:=k.out;clear ab o s k
   cases ra with
   | error z=>
    have hz:=qFa l;subst hz;obtain⟨rfl,rfl⟩:=h4
    have d:qCM L (divP p q) w (.returned (.tuple #[.slice none 0 0,.slice none 0 0,.int .i64 12])) W4:=by
     rw[f];exact⟨i,_,_,_,_,_,_,_,rfl,rfl,rfl,rfl,rfl,rfl,rfl,rfl⟩
    obtain⟨b5,aw⟩:∃b,(!(c5==0))=b:=⟨_,rfl⟩;have aP:(c5 != 0)=b5:=aw;have⟨O,G,h,o,s,k,aN⟩:=hyd7 j i d l m f h5;clear h5 f m l d i j;go_wp2;exact bodyPost_ret (v:= .tuple #[.slice none 0 0,.slice none 0 0,.int .i64 12]) (by simp[results,Tryz.results12,go_sem]) rfl h.out
   | ok ya=>
    obtain⟨I,rfl⟩:=h4
    cases rb with
    | error z=>
     have hz:=qFa m;subst hz;obtain⟨rfl,rfl⟩:=h5
     have d:qCM L (divP p q) w (.returned (.tuple #[.slice none 0 0,.slice none 0 0,.int .i64 12])) W4:=by
      rw[f];exact⟨i,_,_,_,_,_,_,_,rfl,rfl,rfl,rfl,rfl,rfl,rfl,rfl⟩
     have⟨O,G,h,o,s,k,ac⟩:=hyd7 j i d l m f I;clear I f m l d i j;go_wp2;exact bodyPost_ret (v:= .tuple #[.slice none 0 0,.slice none 0 0,.int .i64 12]) (by simp[results,Tryz.results12,go_sem]) rfl h.out
    | ok yb=>
     obtain⟨T,rfl⟩:=h5;have R:=(I.keep (Kp.of_le j) λg hg=>j.block g (I.nib hg).2.1).base (base':=w.heap.size) E.out.size;have S:=T.base (base':=w.heap.size) F.out.size;obtain⟨A6,c6,rfl⟩:=R.slice;obtain⟨A7,c7,rfl⟩:=S.slice
     have d:qCM L (divP p q) w (.returned (.tuple #[.slice A6 ya.length c6,.slice A7 yb.length c7,.int .i64 0])) W4:=by
      rw[f];exact⟨i,_,_,_,_,_,_,_,rfl,R,S,rfl⟩
     have⟨O,G,h,o,s,k,ac,aG⟩:=hyd8 j i d l m f I R;have⟨aH,aI⟩:=hyd2 T S;clear S T R I f m l d i j;go_wp2;exact bodyPost_ret (v:= .tuple #[.slice A6 ya.length c6,.slice A7 yb.length c7,.int .i64 0]) (by simp[results,Tryz.results12,go_sem]) rfl h.out
 ·have aU:(c==0)=false:=by simpa using hz
  have f:=qKP hF
  have d:qCM L (divP p q) w (.returned (.tuple #[.slice none 0 0,.slice none 0 0,.int .i64 c])) W1:=by
   rw[f];exact⟨A,_,_,_,_,_,_,_,rfl,rfl,rfl,rfl,rfl,rfl,rfl,rfl⟩
  have⟨D,aO,k,h⟩:=hyd4 A hF f d;clear d f hF A;go_wp2;exact bodyPost_ret (v:= .tuple #[.slice none 0 0,.slice none 0 0,.int .i64 c]) (by simp[results,Tryz.results12,go_sem]) rfl h.out
theorem qK4 (vp vq:Value) (p q:List FracA) (t m B:Nat) (tB:TypeId) (w:World) (kB:w.heap[B]? =some (.cells #[vp,vq] tB)) (hp:SeqE inK w vp p) (hq:SeqE inK w vq q) (ht:t<=1000) (hm:m<=1000) (h66:t≠66):
  Calls Tryz.prog 4 #[.int .i64 (t:Int),.int .i64 (m:Int),.slice (some ⟨B,0,none⟩) 2 2] w λe w'=>e= .returned (.bool (qAz p t m||qAz q t m))/\Le w w':=by
 have P:w.cell? ⟨B,0,none⟩=some vp:=cell_of_row w B 0 _ _ _ kB;have H:=gsl kB;obtain⟨E,s⟩:∃b,qAz p t m=b:=⟨_,rfl⟩;obtain⟨G,v⟩:∃b,qAz q t m=b:=⟨_,rfl⟩;have kp:=qCq vp p t m w hp ht hm h66;rw[s]at kp ⊢;rw[v];have⟨M,J,L,C,D,O⟩:=hyd6 kB hp hq s v kp;clear kp v s hq hp kB;go_enter Tryz.func4,Tryz.ntmps4;go_wp2_with (fail);go_loopw [11] (λi wr=>∃k:Nat,i= .int .i64 (k:Int)/\k<=2/\Hid (Below w.heap.size w wr)/\Hid (1<=k->E=false)/\Hid (2<=k->G=false)) (λi _=>2 - (intOf i).toNat)
 case atStart=>exact⟨0,rfl,by decide,Lib.hid (Below.refl _ _),Lib.hid (λh=>absurd h (by decide)),Lib.hid (λh=>absurd h (by decide))⟩
 case round=>
  obtain⟨k,rfl,S,j,l,o⟩:=hrel;have f:=(j.out.block B H).trans M.out;have Q:wr.cell? ⟨B,0,none⟩=some vp:=cell_of_row wr B 0 _ _ _ f;have R:wr.cell? ⟨B,1,none⟩=some vq:=cell_of_row wr B 1 _ _ _ f
  rcases(by omega:k=0∨k=1∨k=2)with rfl|rfl|rfl
  ·have x:=qCq vp p t m wr (J.out.le j.out) ht hm h66;rw[C.out]at x;have⟨y,g,z,A,n⟩:=hyd5 x j l o f;clear f o l j x;go_wp2_with (fail);go_at_call 22;refine y.out.mono ?_;rintro e W ⟨rfl,r⟩;have d:Below w.heap.size w W:=(show Below w.heap.size w wr from g.out.out).trans (r.mono g.out.out.size);have⟨I,c⟩:=hyd2 r d;clear d r
   cases E with
   | true=>
    go_wp2;go_ret;exact⟨rfl,c.out⟩
   | false=>
    go_wp2;go_roundw
    case rel=>exact⟨1,by go_num,by decide,c,Lib.hid (by simp),Lib.hid (λh=>absurd h (by decide))⟩
    case measure=>simp[intOf]
  ·have x:=qCq vq q t m wr (L.out.le j.out) ht hm h66;rw[D.out]at x;have F:E=false:=l.out (Nat.le_refl _);have⟨y,g,z,A,n⟩:=hyd5 x j l o f;clear f o l j x;go_wp2_with (fail);go_at_call 22;refine y.out.mono ?_;rintro e W ⟨rfl,r⟩;have d:Below w.heap.size w W:=(show Below w.heap.size w wr from g.out.out).trans (r.mono g.out.out.size);have⟨I,c⟩:=hyd2 r d;clear d r;subst F
   cases G with
   | true=>
    go_wp2;go_ret;exact⟨rfl,c.out⟩
   | false=>
    go_wp2;go_roundw
    case rel=>exact⟨2,by go_num,by decide,c,Lib.hid (by simp),Lib.hid (by simp)⟩
    case measure=>simp[intOf]
  ·have F:E=false:=l.out (by decide);have N:G=false:=o.out (by decide);have d:=j.out;have⟨g,z,A,n,c⟩:=hyd5 j l o f d;clear d f o l j;subst F;subst N;go_wp2;go_ret;exact⟨rfl,c.out⟩
end Go.Proofs.YtcoajjdhkhgfdaaGreat

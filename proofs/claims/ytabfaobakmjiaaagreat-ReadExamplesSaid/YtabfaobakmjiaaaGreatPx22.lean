/- The reference's SameReadings; the law's same. The law's same (two lists). The reference's SamePicture. The reference's SameFound. -/
import Derived.Test.YtabfaobakmjiaaaGreatPx14
namespace Go.Proofs.YtabfaobakmjiaaaGreat
set_option maxRecDepth 100000
set_option maxHeartbeats 1000000
open Go.RowKit
set_option linter.unusedVariables false
set_option linter.unusedSimpArgs false
def rdEq (a b c d a' b' c' d':Int):Bool:=decide ((⟨a,b,c,d⟩:Rd)=⟨a',b',c',d'⟩)
theorem qRx (a b c d a' b' c' d':Int):rdEq a b c d a' b' c' d'=(a==a'&&(b==b'&&(c==c'&&d==d'))):=by
 unfold rdEq;rw[Bool.eq_iff_iff];simp
theorem qHi (a b c d a' b' c' d':Int) (w:World):(Op.equalIn 10000 60 (.agg #[.int .i64 a,.int .i64 b,.int .i64 c,.int .i64 d]) (.agg #[.int .i64 a',.int .i64 b',.int .i64 c',.int .i64 d'])).run Tryz.prog w= .ok (rdEq a b c d a' b' c' d') w:=by
 rw[run_equalIn_struct w 9999 60 _ _ (by kernel_rfl) (by kernel_rfl),qRx]
 have f:Tryz.prog.fieldsOf 60=#[{name:= "Cut",type:=3,offset:=0,embedded:=false,tag:= "",pkgPath:= "",byteOffset:=0},
    {name:= "Step",type:=3,offset:=1,embedded:=false,tag:= "",pkgPath:= "",byteOffset:=8},
    {name:= "Low",type:=3,offset:=2,embedded:=false,tag:= "",pkgPath:= "",byteOffset:=16},
    {name:= "High",type:=3,offset:=3,embedded:=false,tag:= "",pkgPath:= "",byteOffset:=24}]:=by kernel_rfl
 rw[f]
 cases h1:(a==a')<;>cases h2:(b==b')<;>cases h3:(c==c')<;>cases h4:(d==d')<;>
  simp[go_sem,h1,h2,h3,h4,Op.eqFields]
attribute [local go_sem ↓ high] qHi
theorem qGx (va vb:Value) (xs ys:List Rd) (w:World) (ha:RdsL w va xs) (hb:RdsL w vb ys):Calls Tryz.prog 23 #[va,vb] w λe w'=>e= .returned (.bool (decide (xs=ys)))/\∃n,w'=w.drewN n:=by
 obtain⟨A,c,rfl,J⟩:=ha.slice;obtain⟨B,d,rfl,r⟩:=hb.slice;unfold maxLen at J r
 by_cases C:xs.length=ys.length
 ·have ac:xs.length<=ys.length:=by omega
  have ad:ys.length<=xs.length:=by omega
  have ae:(xs.length:Int)=(ys.length:Int):=by omega
  obtain⟨G,f⟩:∃G,ys.length=G:=⟨_,rfl⟩;obtain rfl:xs.length=G:=C.trans f;rw[f]at ad ac r ⊢;clear ae;have⟨H,I,ab,q⟩:=hyd4 ha hb C f;clear f C hb ha;go_enter Tryz.func23,Tryz.ntmps23;go_wp2;go_loopw [5] (λix wr=>∃j:Nat,j<=xs.length/\ix= .int .i64 j/\Hid (∃n,wr=w.drewN n)/\Hid (∀i (S:i<xs.length) (z:i<ys.length),i<j->xs[i]=ys[i])) (λix _=>xs.length - (intOf ix).toNat)
  case atStart=>exact⟨0,Nat.zero_le _,rfl,Lib.hid ⟨0,rfl⟩,Lib.hid λi _ _ h=>absurd h (Nat.not_lt_zero i)⟩
  case round=>
   obtain⟨j,hj,rfl,hN,hI⟩:=hrel;obtain⟨n,v⟩:=hN.out
   by_cases M:j<xs.length
   ·have N:j<ys.length:=by rw[q.out];exact M
    obtain⟨b,off,c2,s,Z,T,U,V,X⟩:=RdsL.cells H.out M;injection s with e1 e2 e3;subst e1 e3;clear e2;obtain⟨b2,ax,c2,s,aa,k0,k1,k2,k3⟩:=RdsL.cells I.out N;injection s with e1 e2 e3;subst e1 e3;clear e2;have hq:∀p,wr.cell? p=w.cell? p:=λp=>by rw[v];simp
    rw[<-hq]at T U V X k0 k1 k2 k3;clear hq Z aa;obtain⟨⟨x0,x1,x2,x3⟩,D⟩:∃y,xs[j]=y:=⟨_,rfl⟩;obtain⟨⟨y0,y1,y2,y3⟩,E⟩:∃y,ys[j]=y:=⟨_,rfl⟩;rw[D]at T U V X;rw[E]at k0 k1 k2 k3;simp only at T U V X k0 k1 k2 k3;have j1:(j:Int)<(xs.length:Int):=by omega
    have j2:(0:Int)<=(j:Int):=by omega
    obtain⟨F,Y⟩:∃F,rdEq x0 x1 x2 x3 y0 y1 y2 y3=F:=⟨_,rfl⟩;have av:=λ(W:World)=>(qHi x0 x1 x2 x3 y0 y1 y2 y3 W).trans (by rw[Y])
    cases F with
    | true=>
     have k:(⟨x0,x1,x2,x3⟩:Rd)=⟨y0,y1,y2,y3⟩:=of_decide_eq_true Y;have⟨Q,R,g,l⟩:=hyd4 D E v k;clear k v E D;go_wp2;go_quiet (fail);go_wp2;go_roundw
     case rel=>exact⟨j+1,by omega,by go_num,Lib.hid ⟨n+nq,by rw[g.out];exact World.drewN_drewN _ _ _⟩,Lib.hid λi S z a2=>by
      by_cases e:i=j
      ·subst e;rw[Q.out,R.out];exact l.out
      ·exact hI.out i S z (by omega)⟩
     case measure=>simp[intOf];omega
    | false=>
     have k:decide (xs=ys)=false:=decide_eq_false λh=>by
      subst h;have z:=D.symm.trans E;have h3:=of_decide_eq_false Y;exact h3 z
     have⟨Q,R,g,l⟩:=hyd4 D E v k;clear k v E D;go_wp2;go_quiet (fail);go_wp2;go_ret;exact⟨by rw[l.out];rfl,⟨_,by rw[g.out];exact World.drewN_drewN _ _ _⟩⟩
   ·have m:decide (xs=ys)=true:=decide_eq_true (List.ext_getElem ab.out λi S z=>hI.out i S z (by omega));have⟨t,g⟩:=hyd2 m v;clear v m;go_wp2;go_ret;exact⟨by rw[t.out];rfl,n,g.out⟩
 ·have O:decide (xs=ys)=false:=decide_eq_false λh=>C (by rw[h]);have L:¬(xs.length:Int)=(ys.length:Int):=by omega
  have o:¬(ys.length:Int)=(xs.length:Int):=by omega
  obtain⟨xl,x⟩:∃xl,xs.length=xl:=⟨_,rfl⟩;obtain⟨G,f⟩:∃G,ys.length=G:=⟨_,rfl⟩;rw[x]at C L o J ⊢;rw[f]at C L o r ⊢;have⟨H,I,P,aw,q⟩:=hyd5 ha hb O x f;clear f x O hb ha;go_enter Tryz.func23,Tryz.ntmps23;go_wp2;go_ret;exact⟨by rw[P.out];rfl,0,rfl⟩
end Go.Proofs.YtabfaobakmjiaaaGreat
namespace Go.Proofs.YtabfaobakmjiaaaGreat
set_option maxRecDepth 100000
set_option maxHeartbeats 1000000
open Go.RowKit
set_option linter.unusedVariables false
set_option linter.unusedSimpArgs false
theorem qIg (v v':Value) (xs ys:List Int) (w:World) (hx:Ints w v xs) (hy:Ints w v' ys):
  Calls Tryz.prog 18 #[v,v'] w λe w'=>e= .returned (.bool (xs==ys))/\∃n,w'=w.drewN n:=by
 have⟨b,c⟩:=hyd2 hx hy;clear hy hx;go_enter Tryz.func18,Tryz.ntmps18;go_wp2_with (first | (go_at_call 49;((with_reducible refine(qMZ _ _ xs ys _ b.out c.out).mono ?_);rintro e w' ⟨rfl,n,rfl⟩)));go_ret;exact⟨rfl,n,rfl⟩
def fdEq (a b c d f a' b' c' d' f':Int):Bool:=decide ((⟨a,b,c,d,f⟩:Fnd)=⟨a',b',c',d',f'⟩)
theorem qRy (a b c d f a' b' c' d' f':Int):fdEq a b c d f a' b' c' d' f'=(a==a'&&(b==b'&&(c==c'&&(d==d'&&f==f')))):=by
 unfold fdEq;rw[Bool.eq_iff_iff];simp
theorem qHj (a b c d f a' b' c' d' f':Int) (w:World):(Op.equalIn 10000 54 (.agg #[.int .i64 a,.int .i64 b,.int .i64 c,.int .i64 d,.int .i64 f]) (.agg #[.int .i64 a',.int .i64 b',.int .i64 c',.int .i64 d',.int .i64 f'])).run Tryz.prog w= .ok (fdEq a b c d f a' b' c' d' f') w:=by
 rw[run_equalIn_struct w 9999 54 _ _ (by kernel_rfl) (by kernel_rfl),qRy]
 have g:Tryz.prog.fieldsOf 54=#[{name:= "Head",type:=3,offset:=0,embedded:=false,tag:= "",pkgPath:= "",byteOffset:=0},
    {name:= "Throw",type:=3,offset:=1,embedded:=false,tag:= "",pkgPath:= "",byteOffset:=8},
    {name:= "Advance",type:=3,offset:=2,embedded:=false,tag:= "",pkgPath:= "",byteOffset:=16},
    {name:= "Low",type:=3,offset:=3,embedded:=false,tag:= "",pkgPath:= "",byteOffset:=24},
    {name:= "High",type:=3,offset:=4,embedded:=false,tag:= "",pkgPath:= "",byteOffset:=32}]:=by kernel_rfl
 rw[g]
 cases h1:(a==a')<;>cases h2:(b==b')<;>cases h3:(c==c')<;>cases h4:(d==d')<;>cases h5:(f==f')<;>
  simp[go_sem,h1,h2,h3,h4,h5,Op.eqFields]
attribute [local go_sem ↓ high] qHj
theorem qIh (va vb:Value) (xs ys:List Fnd) (w:World) (ha:FndL w va xs) (hb:FndL w vb ys):Calls Tryz.prog 36 #[va,vb] w λe w'=>e= .returned (.bool (decide (xs=ys)))/\∃n,w'=w.drewN n:=by
 obtain⟨A,c,rfl,J⟩:=ha.slice;obtain⟨B,d,rfl,r⟩:=hb.slice;unfold maxLen at J r
 by_cases C:xs.length=ys.length
 ·have ad:xs.length<=ys.length:=by omega
  have ae:ys.length<=xs.length:=by omega
  have af:(xs.length:Int)=(ys.length:Int):=by omega
  obtain⟨G,f⟩:∃G,ys.length=G:=⟨_,rfl⟩;obtain rfl:xs.length=G:=C.trans f;rw[f]at ae ad r ⊢;clear af;have⟨H,I,ac,q⟩:=hyd4 ha hb C f;clear f C hb ha;go_enter Tryz.func36,Tryz.ntmps36;go_wp2;go_loopw [5] (λix wr=>∃j:Nat,j<=xs.length/\ix= .int .i64 j/\Hid (∃n,wr=w.drewN n)/\Hid (∀i (S:i<xs.length) (z:i<ys.length),i<j->xs[i]=ys[i])) (λix _=>xs.length - (intOf ix).toNat)
  case atStart=>exact⟨0,Nat.zero_le _,rfl,Lib.hid ⟨0,rfl⟩,Lib.hid λi _ _ h=>absurd h (Nat.not_lt_zero i)⟩
  case round=>
   obtain⟨j,hj,rfl,hN,hI⟩:=hrel;obtain⟨n,v⟩:=hN.out
   by_cases M:j<xs.length
   ·have N:j<ys.length:=by rw[q.out];exact M
    obtain⟨b,off,c2,s,aa,T,U,V,X,Y⟩:=FndL.cells H.out M;injection s with e1 e2 e3;subst e1 e3;clear e2;obtain⟨b2,a1,c2,s,ab,k0,k1,k2,k3,k4⟩:=FndL.cells I.out N;injection s with e1 e2 e3;subst e1 e3;clear e2;have hq:∀p,wr.cell? p=w.cell? p:=λp=>by rw[v];simp
    rw[<-hq]at T U V X Y k0 k1 k2 k3 k4;clear hq aa ab;obtain⟨⟨x0,x1,x2,x3,x4⟩,D⟩:∃y,xs[j]=y:=⟨_,rfl⟩;obtain⟨⟨y0,y1,y2,y3,y4⟩,E⟩:∃y,ys[j]=y:=⟨_,rfl⟩;rw[D]at T U V X Y;rw[E]at k0 k1 k2 k3 k4;simp only at T U V X Y k0 k1 k2 k3 k4;have j1:(j:Int)<(xs.length:Int):=by omega
    have j2:(0:Int)<=(j:Int):=by omega
    obtain⟨F,Z⟩:∃F,fdEq x0 x1 x2 x3 x4 y0 y1 y2 y3 y4=F:=⟨_,rfl⟩;have az:=λ(W:World)=>(qHj x0 x1 x2 x3 x4 y0 y1 y2 y3 y4 W).trans (by rw[Z])
    cases F with
    | true=>
     have k:(⟨x0,x1,x2,x3,x4⟩:Fnd)=⟨y0,y1,y2,y3,y4⟩:=of_decide_eq_true Z;have⟨Q,R,g,l⟩:=hyd4 D E v k;clear k v E D;go_wp2;go_quiet (fail);go_wp2;go_roundw
     case rel=>exact⟨j+1,by omega,by go_num,Lib.hid ⟨n+nq,by rw[g.out];exact World.drewN_drewN _ _ _⟩,Lib.hid λi S z a6=>by
      by_cases e:i=j
      ·subst e;rw[Q.out,R.out];exact l.out
      ·exact hI.out i S z (by omega)⟩
     case measure=>simp[intOf];omega
    | false=>
     have k:decide (xs=ys)=false:=decide_eq_false λh=>by
      subst h;have z:=D.symm.trans E;have h3:=of_decide_eq_false Z;exact h3 z
     have⟨Q,R,g,l⟩:=hyd4 D E v k;clear k v E D;go_wp2;go_quiet (fail);go_wp2;go_ret;exact⟨by rw[l.out];rfl,⟨_,by rw[g.out];exact World.drewN_drewN _ _ _⟩⟩
   ·have m:decide (xs=ys)=true:=decide_eq_true (List.ext_getElem ac.out λi S z=>hI.out i S z (by omega));have⟨t,g⟩:=hyd2 m v;clear v m;go_wp2;go_ret;exact⟨by rw[t.out];rfl,n,g.out⟩
 ·have O:decide (xs=ys)=false:=decide_eq_false λh=>C (by rw[h]);have L:¬(xs.length:Int)=(ys.length:Int):=by omega
  have o:¬(ys.length:Int)=(xs.length:Int):=by omega
  obtain⟨xl,x⟩:∃xl,xs.length=xl:=⟨_,rfl⟩;obtain⟨G,f⟩:∃G,ys.length=G:=⟨_,rfl⟩;rw[x]at C L o J ⊢;rw[f]at C L o r ⊢;have⟨H,I,P,a0,q⟩:=hyd5 ha hb O x f;clear f x O hb ha;go_enter Tryz.func36,Tryz.ntmps36;go_wp2;go_ret;exact⟨by rw[P.out];rfl,0,rfl⟩
end Go.Proofs.YtabfaobakmjiaaaGreat

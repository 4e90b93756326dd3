/- Texts: said. -/
import Derived.Test.YtfmfefibadpobaaGreatDoorPk33
namespace Go.Proofs.YtfmfefibadpobaaGreatDoor
set_option maxRecDepth 100000
set_option maxHeartbeats 1000000
open Go.RowKit Go.Shelf
set_option linter.unusedVariables false
set_option linter.unusedSimpArgs false
theorem qCf (a b:List UInt8):baL (a++b)=baL a++baL b:=(qBu a b).symm
theorem qCg (L:Nat->Prop) (r:Rat) (v:Value) (w:World) (hw:TxW w) (h:RatL L .u32 w v r) (hs:Rsz r 1000):
  Calls Tryz.prog 13 #[v] w λe w'=>e= .returned (.string (baL (qAH r)))/\Le w w':=by
 obtain⟨A1,c1,Y,c2,rfl,V,hd⟩:=h.form;obtain⟨A,G⟩:=hs;have t1:=qDY A (by decide);have t2:=qDY G (by decide);have b:=qFl r;obtain⟨U,H⟩:∃U,rneg r=U:=⟨_,rfl⟩;rw[H]at b ⊢;obtain⟨m,s⟩:∃T,txN (rnum r)=T:=⟨_,rfl⟩;obtain⟨B,D⟩:∃T,txN r.den=T:=⟨_,rfl⟩;rw[s]at t1 b;rw[D]at t2 b;have g:=qAA w (.cells #[.bool U,.slice A1 (dg (rnum r)).length c1,.slice Y (dg r.den).length c2] 44);have R:=qFo L (rnum r) _ _ (V.le g) (hw.le g) (Nat.le_trans A (by decide));obtain⟨l1,E⟩:∃l1,(dg (rnum r)).length =l1:=⟨_,rfl⟩;obtain⟨X,F⟩:∃X,(dg r.den).length =X:=⟨_,rfl⟩;rw[E]at V R g ⊢;rw[F]at hd R g ⊢;rw[s]at R;have⟨af,ay,z,al,Q,c,am,aj⟩:=hyd8 hw V hd A G b H s;have⟨J,ak,l,ae,ai⟩:=hyd5 D E F g R;clear R g F E D s H b G A hd V hw;go_enter Tryz.func13,Tryz.ntmps13;go_wp2_with (fail);go_at_call 31;refine ai.out.mono ?_;rintro e Z ⟨rfl,d⟩;obtain⟨d,y⟩:=qAl d;obtain⟨k0,k1,k2,-⟩:=qAF y;have ax:w.heap.size<Z.heap.size:=(gsl y);have q2:=qDy L r.den (.slice Y X c2) Z (by rw[<-l.out];rw[<-l.out]at z;exact z.out.le d);have S:=qFo L r.den (.slice Y X c2) Z (by rw[<-l.out];rw[<-l.out]at z;exact z.out.le d) (af.out.le d) (Nat.le_trans Q.out (by decide));rw[J.out]at S;have b:=c.out
 have g1:=qAP m;have g2:=qAP B;have t:=y;obtain⟨n1,o⟩:∃n,m.length=n:=⟨_,rfl⟩;obtain⟨n2,p⟩:∃n,B.length=n:=⟨_,rfl⟩;rw[o]at g1 t1;rw[p]at g2 t2;clear c y;have z1:¬9223372036854775807<1+n1:=by omega
 have z2:¬9223372036854775807<1+n2:=by omega
 have z3:¬9223372036854775807<n1+(1+n2):=by omega
 have z4:¬9223372036854775807<1+n1+(1+n2):=by omega
 by_cases C:r.den=1
 ·rw[if_pos C,List.append_nil]at b;have j:decide (r.den=1)=true:=decide_eq_true C;rw[j]at q2;have⟨q,I,ac,f,M,O,P,N⟩:=hyd8 q2 S C d t o p j;clear j p o t d C S q2
  cases U
  ·replace b:qAH r=m:=b;have c:=hyd1 b;clear b;go_wp2_with (fail);go_at_call 32;refine q.out.mono ?_;rintro e W3 ⟨rfl,rfl⟩;go_wp2;go_ret;refine⟨?_,f.out⟩;rw[c.out]
   rfl
  ·replace b:qAH r=[45]++m:=b;have c:=hyd1 b;clear b;go_wp2_with (fail);go_at_call 32;refine q.out.mono ?_;rintro e W3 ⟨rfl,rfl⟩;go_wp2;go_ret;refine⟨?_,f.out⟩;rw[c.out];exact congrArg (λx=>Ending.returned (Value.string x)) (qBu [45] m)
 ·rw[if_neg C]at b;have j:decide (r.den=1)=false:=decide_eq_false C;rw[j]at q2;have⟨q,I,ac,f,M,O,P,N⟩:=hyd8 q2 S C d t o p j;clear j p o t d C S q2
  cases U
  ·replace b:qAH r=m++47::B:=b;have c:=hyd1 b;clear b;go_wp2_with (fail);go_at_call 32;refine q.out.mono ?_;rintro e W3 ⟨rfl,rfl⟩;go_wp2_with (fail);go_at_call 31;refine I.out.mono ?_;rintro e W4 ⟨rfl,i⟩;have k:=hyd1 i;clear i;go_wp2;go_ret;refine⟨?_,f.out.trans k.out⟩;rw[c.out];exact congrArg (λx=>Ending.returned (Value.string x)) (by rw[show m++47::B=m++([47]++B)from rfl,qCf,qCf];rfl)
  ·replace b:qAH r=[45]++m++47::B:=b;have c:=hyd1 b;clear b;go_wp2_with (fail);go_at_call 32;refine q.out.mono ?_;rintro e W3 ⟨rfl,rfl⟩;go_wp2_with (fail);go_at_call 31;refine I.out.mono ?_;rintro e W4 ⟨rfl,i⟩;have k:=hyd1 i;clear i;go_wp2;go_ret;refine⟨?_,f.out.trans k.out⟩;rw[c.out];exact congrArg (λx=>Ending.returned (Value.string x)) (by rw[show[45]++m++47::B=([45]++m)++([47]++B)from rfl,qCf,qCf,qCf];rfl)
end Go.Proofs.YtfmfefibadpobaaGreatDoor

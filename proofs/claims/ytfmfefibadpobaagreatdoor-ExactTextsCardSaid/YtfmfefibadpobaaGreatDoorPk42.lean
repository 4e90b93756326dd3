/- The law ExactTexts: texts of fractions are the specification's, and so are fractions that are read from texts. -/
import Derived.Test.YtfmfefibadpobaaGreatDoorPk41
namespace Go.Proofs.YtfmfefibadpobaaGreatDoor
set_option maxRecDepth 100000
set_option maxHeartbeats 2000000
open Go.RowKit Go.Shelf
set_option linter.unusedVariables false
set_option linter.unusedSimpArgs false
theorem IsRes.same {L L2:Nat->Prop} {w W:World} {v u:Value} {c d:Int} {res:Except Int Rat} (h:IsRes L w v c res) (k:IsRes L2 W u d res):c=d:=by
 cases res with
 | ok r=>exact h.2.trans k.2.symm
 | error x=>exact h.2.trans k.2.symm
theorem qHo (s:ByteArray):s=baL s.data.toList:=by
 unfold baL;apply ByteArray.ext;simp
theorem qHP (x:FracA) (v:Value) (l:List UInt8) (w:World) (h:IsFracA (λ_=>True) w v x) (hw:TxW w):
  Calls Tryz.prog 3 #[v,.string (baL l)] w λe w'=>e= .returned (.bool true)/\Le w w':=by
 have h0:=h;obtain⟨A,c,B,d,rfl,p1,p2⟩:=h;have bn:=qAP l;obtain⟨N,hN⟩:∃N,l.length=N:=⟨_,rfl⟩;rw[hN]at bn;obtain⟨W0,aM,k,kx⟩:=al1 w (.cells #[.bool x.sn,.slice A x.gn.length c,.bool x.sd,.slice B x.gd.length d] 26);have H:=h0.le k;have q1:=qGL (λ_=>True) x 12 _ W0 (by decide) H;obtain⟨x0,x1,x2,x3⟩:=qAC kx;obtain⟨gr,s⟩:∃b,qDX x 12=b:=⟨_,rfl⟩;rw[s]at q1
 cases gr
 ·by_cases hA:200<N/\N<=800
  ·have j1:200<(N:Int):=by omega
   have j2:(N:Int)<=800:=by omega
   have⟨ao,aq,ar,S,i,Z,r,R⟩:=hyd8 h0 p1 p2 hN k kx H q1;have⟨af,az,X⟩:=hyd3 s hA hw;clear hw hA s q1 H kx k hN p2 p1 h0;go_enter Tryz.func3,Tryz.ntmps3;go_wp2_with (fail);go_at_call 4;refine R.out.mono ?_;rintro e W1 ⟨rfl,f⟩;have j:=hyd1 f;clear f;go_wp2;go_ret;exact⟨rfl,i.out.trans j.out⟩
  ·by_cases hB:2000<N
   ·have j1:200<(N:Int):=by omega
    have j2:¬(N:Int)<=800:=by omega
    have j3:2000<(N:Int):=by omega
    have⟨ao,aq,ar,S,i,Z,r,R⟩:=hyd8 h0 p1 p2 hN k kx H q1;have⟨af,az,aL,X⟩:=hyd4 s hA hB hw;clear hw hB hA s q1 H kx k hN p2 p1 h0;go_enter Tryz.func3,Tryz.ntmps3;go_wp2_with (fail);go_at_call 4;refine R.out.mono ?_;rintro e W1 ⟨rfl,f⟩;have j:=hyd1 f;clear f;go_wp2;go_ret;exact⟨rfl,i.out.trans j.out⟩
   ·have ap:N<=2000:=by omega
    by_cases hC:200<N
    ·have j1:200<(N:Int):=by omega
     have j2:¬(N:Int)<=800:=by omega
     have j3:¬2000<(N:Int):=by omega
     have⟨ao,aq,ar,S,i,Z,r,R⟩:=hyd8 h0 p1 p2 hN k kx H q1;have⟨af,az,aL,T,X⟩:=hyd5 s hA hB ap hw;clear hw ap hB hA s q1 H kx k hN p2 p1 h0;go_enter Tryz.func3,Tryz.ntmps3;go_wp2_with (fail);go_at_call 4;refine R.out.mono ?_;rintro e W1 ⟨rfl,f⟩;have ad:=(f.block _ (gsl Z.out)).trans Z.out;obtain⟨y0,y1,y2,y3⟩:=qAC ad;have o:=i.out.trans f;have q2:=qFp (λ_=>True) x _ W1 (r.out.le f) (X.out.le o);clear x0 x1 x2 x3 aM;have⟨j,aa,J,aB⟩:=hyd4 f ad o q2;clear q2 o ad f;go_wp2_with (fail);go_at_call 5;refine aB.out.mono ?_;rintro e W2 ⟨rfl,m⟩;have ae:=(m.block _ (gsl aa.out)).trans aa.out;clear y0 y1 y2 y3;obtain⟨y0,y1,y2,y3⟩:=qAC ae;have z:=J.out.trans m;have q3:=qEn (λ_=>True) (λ_=>True) x _ W2 (Up.any _) ((r.out.le j.out).le m);rw[qA5]at q3;have⟨a2,aQ,L,aD⟩:=hyd4 m ae z q3;clear q3 z ae m;go_wp2_with (fail);go_at_call 6;refine aD.out.mono ?_;rintro e W3 ⟨rfl,t⟩;have p:=L.out.trans t;have q4:=qF1 (λ_=>True) l W3 (Up.any _) (by have h1:=S.out;have h2:=T.out;omega) (X.out.le p);clear y0 y1 y2 y3;have⟨a3,M,aE⟩:=hyd3 t p q4;clear q4 p t;go_wp2_with (fail);go_at_call 7;refine aE.out.mono ?_;rintro e W4 ⟨y,v4,c4,rfl,Q⟩;obtain⟨s4,A4,n4,e4,t4,B4,m4,f4,rfl⟩:=Q.form
     obtain⟨W5,a0,q,aj⟩:=al1 W4 (.cells #[.bool s4,.slice A4 n4 e4,.bool t4,.slice B4 m4 f4] 26);have C:=M.out.trans (y.trans q);have ai:=Q.le q;have q5:=qEQ (λ_=>True) l W5 (Up.any _) (by have h1:=S.out;have h2:=T.out;omega);rw[qA5]at q5;have⟨a4,aN,a5,Y,O,V,aG⟩:=hyd7 y Q q aj C ai q5;clear q5 ai C aj q Q y;go_wp2_with (fail);clear a0;go_at_call 8;refine aG.out.mono ?_;rintro e W6 ⟨n,v6,c6,rfl,F⟩;have a1:=V.out.same F;subst a1;obtain⟨s6,A6,n6,e6,t6,B6,m6,f6,rfl⟩:=F.form;obtain⟨W7,bm,g,ac⟩:=al1 W6 (.cells #[.bool s6,.slice A6 n6 e6,.bool t6,.slice B6 m6 f6] 26);have D:=O.out.trans (n.trans g);have E:=V.out.le (n.trans g);have G:=F.le g;have I:=((n.trans g).block _ (gsl Y.out)).trans Y.out;have q6:=qDA (λ_=>True) (λ_=>True) (resA (qAE l)) (resA (qAE l)) _ _ W7 E.isA G.isA;rw[qEE]at q6;obtain⟨x0,x1,x2,x3⟩:=qAC I;obtain⟨y0,y1,y2,y3⟩:=qAC ac;have⟨a6,aO,a7,aP,P,a8,a9,aA⟩:=hyd8 n F g ac D E G I;have aI:=hyd1 q6;clear q6 I G E D ac g F n;go_wp2_with (fail);go_at_call 9;refine aI.out.mono ?_;rintro e W8 ⟨rfl,U⟩;have ab:=hyd1 U;clear U;go_wp2;go_ret;exact⟨rfl,P.out.trans ab.out⟩
    ·have j1:¬200<(N:Int):=by omega
     have j3:¬2000<(N:Int):=by omega
     have⟨ao,aq,ar,S,i,Z,r,R⟩:=hyd8 h0 p1 p2 hN k kx H q1;have⟨af,az,aL,T,X⟩:=hyd5 s hA hB ap hw;clear hw ap hB hA s q1 H kx k hN p2 p1 h0;go_enter Tryz.func3,Tryz.ntmps3;go_wp2_with (fail);go_at_call 4;refine R.out.mono ?_;rintro e W1 ⟨rfl,f⟩;have ad:=(f.block _ (gsl Z.out)).trans Z.out;obtain⟨y0,y1,y2,y3⟩:=qAC ad;have o:=i.out.trans f;have q2:=qFp (λ_=>True) x _ W1 (r.out.le f) (X.out.le o);clear x0 x1 x2 x3 aM;have⟨j,aa,J,aB⟩:=hyd4 f ad o q2;clear q2 o ad f;go_wp2_with (fail);go_at_call 5;refine aB.out.mono ?_;rintro e W2 ⟨rfl,m⟩;have ae:=(m.block _ (gsl aa.out)).trans aa.out;clear y0 y1 y2 y3;obtain⟨y0,y1,y2,y3⟩:=qAC ae;have z:=J.out.trans m;have q3:=qEn (λ_=>True) (λ_=>True) x _ W2 (Up.any _) ((r.out.le j.out).le m);rw[qA5]at q3;have⟨a2,aQ,L,aD⟩:=hyd4 m ae z q3;clear q3 z ae m;go_wp2_with (fail);go_at_call 6;refine aD.out.mono ?_;rintro e W3 ⟨rfl,t⟩;have p:=L.out.trans t;have q4:=qF1 (λ_=>True) l W3 (Up.any _) (by have h1:=S.out;have h2:=T.out;omega) (X.out.le p);clear y0 y1 y2 y3;have⟨a3,M,aE⟩:=hyd3 t p q4;clear q4 p t;go_wp2_with (fail);go_at_call 7;refine aE.out.mono ?_;rintro e W4 ⟨y,v4,c4,rfl,Q⟩;obtain⟨s4,A4,n4,e4,t4,B4,m4,f4,rfl⟩:=Q.form
     obtain⟨W5,a0,q,aj⟩:=al1 W4 (.cells #[.bool s4,.slice A4 n4 e4,.bool t4,.slice B4 m4 f4] 26);have C:=M.out.trans (y.trans q);have ai:=Q.le q;have q5:=qEQ (λ_=>True) l W5 (Up.any _) (by have h1:=S.out;have h2:=T.out;omega);rw[qA5]at q5;have⟨a4,aN,a5,Y,O,V,aG⟩:=hyd7 y Q q aj C ai q5;clear q5 ai C aj q Q y;go_wp2_with (fail);clear a0;go_at_call 8;refine aG.out.mono ?_;rintro e W6 ⟨n,v6,c6,rfl,F⟩;have a1:=V.out.same F;subst a1;obtain⟨s6,A6,n6,e6,t6,B6,m6,f6,rfl⟩:=F.form;obtain⟨W7,bm,g,ac⟩:=al1 W6 (.cells #[.bool s6,.slice A6 n6 e6,.bool t6,.slice B6 m6 f6] 26);have D:=O.out.trans (n.trans g);have E:=V.out.le (n.trans g);have G:=F.le g;have I:=((n.trans g).block _ (gsl Y.out)).trans Y.out;have q6:=qDA (λ_=>True) (λ_=>True) (resA (qAE l)) (resA (qAE l)) _ _ W7 E.isA G.isA;rw[qEE]at q6;obtain⟨x0,x1,x2,x3⟩:=qAC I;obtain⟨y0,y1,y2,y3⟩:=qAC ac;have⟨a6,aO,a7,aP,P,a8,a9,aA⟩:=hyd8 n F g ac D E G I;have aI:=hyd1 q6;clear q6 I G E D ac g F n;go_wp2_with (fail);go_at_call 9;refine aI.out.mono ?_;rintro e W8 ⟨rfl,U⟩;have ab:=hyd1 U;clear U;go_wp2;go_ret;exact⟨rfl,P.out.trans ab.out⟩
 ·have⟨ao,aq,ar,S,i,Z,r,R⟩:=hyd8 h0 p1 p2 hN k kx H q1;have⟨af,X⟩:=hyd2 s hw;clear hw s q1 H kx k hN p2 p1 h0;go_enter Tryz.func3,Tryz.ntmps3;go_wp2_with (fail);go_at_call 4;refine R.out.mono ?_;rintro e W1 ⟨rfl,f⟩;have j:=hyd1 f;clear f;go_wp2;go_ret;exact⟨rfl,i.out.trans j.out⟩
theorem law_ExactTexts (a0:FracA) (x0:Value) (a1:ByteArray) (w:World) (w0:IsFracA (λ_=>True) w x0 a0) (w1:a1.size<=maxLen) (hTW:TxW w):
  Calls Tryz.prog 3 #[x0,.string a1] w λe w'=>e= .returned (.bool true)/\Below w.heap.size w w':=by
 rw[qHo a1];exact qHP a0 x0 a1.data.toList w w0 hTW
end Go.Proofs.YtfmfefibadpobaaGreatDoor

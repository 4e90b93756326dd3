/- Texts: Parse, exported. -/
import Derived.Test.YtfmfefibadpobaaGreatDoorPk40
namespace Go.Proofs.YtfmfefibadpobaaGreatDoor
set_option maxRecDepth 100000
set_option maxHeartbeats 1000000
open Go.RowKit Go.Shelf
set_option linter.unusedVariables false
set_option linter.unusedSimpArgs false
theorem qDR:qAh Tryz.prog 18:=λ_ _=>by kernel_rfl
theorem qF1 (L:Nat->Prop) (l:List UInt8) (w:World) (hL:Up w L) (hl2:l.length<=1000000) (hw:TxW w):
  Calls Tryz.prog 7 #[.string (baL l)] w (qB5 L (qAE l) w):=by
 have Q:∀(fn:Fn) (first cap:Array Value) (w:World),(Instr.makeFunc fn first cap).run Tryz.prog w= .ok (.func fn first cap) w:=λ_ _ _ _=>rfl;have ae:=qAP l;obtain⟨N,M⟩:∃N,l.length=N:=⟨_,rfl⟩;rw[M]at ae;obtain⟨J,ab,m,b,G,I⟩:=qCE w (.cells #[.string (baL l)] 9) (.cells #[.bool false,.slice none 0 0,.bool false,.slice none 0 0] 26);have c0:=qAB G
 by_cases am:800<N
 ·have j1:800<(N:Int):=by omega
  have y:qAE l= .error 4:=qEO (by omega);have f:=λu0 u1 u2 u3=>qAQ (u0:=u0) (u1:=u1) (u2:=u2) (u3:=u3) b (X:=w.heap.size+1) (by omega);have n:=λu0 u1 u2 u3=>qAC (qAJ (u0:=u0) (u1:=u1) (u2:=u2) (u3:=u3) I);obtain⟨⟨f0,f1,f2,f3⟩,g0,g1,g2,g3⟩:=qAZ I;have⟨Z,aa,F,p,ag,H,D,af⟩:=hyd8 hL M m b G I y hw;have⟨O,i,o,an⟩:=hyd4 hl2 f n Q;clear Q n f hl2 hw y I G b m M hL;go_enter Tryz.func7,Tryz.ntmps7;go_wp2_with (fail);obtain⟨S,T,U,V⟩:=o.out (.bool false) (.slice none 0 0) (.bool false) (.slice none 0 0);exact bodyPost_ret (v:= .tuple #[qAN,.int .i64 4]) (by simp[results,Tryz.results7,go_sem,qAN,S,T,U,V]) rfl ⟨i.out _ _ _ _,_,_,rfl,by rw[D.out];exact⟨rfl,rfl⟩⟩
 ·have j1:¬800<(N:Int):=by omega
  have P:=(gsl G)
  have z:Calls Tryz.prog 17 #[.func (.func 18) #[] #[.pointer (some ⟨w.heap.size,0,none⟩)]] J (qB5 L (qAE l) J):=by
   have h1:=λW (B:Le J W)=>qGn L l w.heap.size W (hL.le (b.trans B)) (by omega) ((B.block _ P).trans G) (hw.le (b.trans B))
   cases hp:qAE l with
   | ok r=>
    refine(qE8 L r _ _ J qDR λW B=>(h1 W B).mono λe W' h=>?_).mono λe w' ⟨v,d,A,Y⟩=>⟨A,v,0,d,Y,rfl⟩;obtain⟨q,⟨r2,v,d,A,Y⟩| ⟨c,d,-⟩⟩:=h
    ·rw[hp]at d;injection d with d;subst d;exact⟨v,A,q,Y⟩
    ·rw[hp]at d;cases d
   | error x=>
    refine(qET x _ _ J qDR λW B=>(h1 W B).mono λe W' h=>?_).mono λe w' ⟨d,A⟩=>⟨A,_,x,d,rfl,rfl⟩;obtain⟨q,⟨r2,v,d,-,-⟩| ⟨c,d,A⟩⟩:=h
    ·rw[hp]at d;cases d
    ·rw[hp]at d;injection d with d;subst d;exact⟨A,q⟩
  have⟨Z,aa,F,p,ag,H,af,O⟩:=hyd8 hL M m b G I hw hl2;have E:=hyd1 z;clear z hl2 hw I G b m M hL;go_enter Tryz.func7,Tryz.ntmps7;go_wp2_with (fail);clear ab;go_at_call 17;refine E.out.mono ?_;rintro e W1 ⟨j,v4,c5,rfl,k⟩;obtain⟨s5,A5,n5,c6,s6,A6,n6,c7,rfl⟩:=k.form;have s:=(j.block _ (gsl H.out)).trans H.out;have g:=p.out.trans j;have f:=λu0 u1 u2 u3=>qAQ (u0:=u0) (u1:=u1) (u2:=u2) (u3:=u3) g (X:=w.heap.size+1) (by omega);have n:=λu0 u1 u2 u3=>qAC (qAJ (u0:=u0) (u1:=u1) (u2:=u2) (u3:=u3) s);have t:=λu0 u1 u2 u3=>IsRes.box4 (u0:=u0) (u1:=u1) (u2:=u2) (u3:=u3) k s;obtain⟨⟨f0,f1,f2,f3⟩,g0,g1,g2,g3⟩:=qAZ s;have⟨ac,ad,ao,i,o,C,R⟩:=hyd7 j k s f n t g;clear g t n f s k j;go_wp2;obtain⟨S,T,U,V⟩:=o.out (.bool s5) (.slice A5 n5 c6) (.bool s6) (.slice A6 n6 c7);exact bodyPost_ret (v:= .tuple #[.agg #[.bool s5,.slice A5 n5 c6,.bool s6,.slice A6 n6 c7],.int .i64 c5]) (by simp[results,Tryz.results7,go_sem,S,T,U,V]) rfl ⟨i.out _ _ _ _,_,_,rfl,C.out _ _ _ _⟩
end Go.Proofs.YtfmfefibadpobaaGreatDoor

/- exact, turning numbers: CheckTurn, Norm. exact, turning numbers: Around. -/
import Derived.Test.YtbcbcdgbliheoaaGreatPk47
import Derived.Test.YtbcbcdgbliheoaaGreatPk39
namespace Go.Proofs.YtbcbcdgbliheoaaGreat
set_option maxRecDepth 100000
set_option maxHeartbeats 4000000
open Go.RowKit Go.Shelf
set_option linter.unusedVariables false
set_option linter.unusedSimpArgs false
theorem qEQ:qAZ Tryz.prog 110:=λ_ _=>by kernel_rfl
theorem qG4 (x:FracA×FracA) (B:Nat) (w:World) (hx:ABox w B x) (r:G2) (hr:tval x=some r):Calls Tryz.prog 110 #[.pointer (some ⟨B,0,none⟩)] w λe w'=>∃v,e= .returned v/\Le w w'/\qLG v:=by
 obtain⟨W0,M,g,Y⟩:=al1 w (.cells #[.bool false,.slice none 0 0,.slice none 0 0,.bool false,.slice none 0 0,.slice none 0 0] 154);have P:=hx.le g;obtain⟨ax,az,ay,a0,a1,a3,a2,a4,R,i,j⟩:=P;obtain⟨ac,ad,ae,af,ag,ah,ai,aj⟩:=qEM R;have m:=qJP x r _ W0 (IsTurnA.mk i j) hr;have⟨au,q,Q,aw,V,X,n,ar⟩:=hyd8 hx g Y R i j m hr;clear hr m j i R Y g hx;go_enter Tryz.func110,Tryz.ntmps110;go_wp2_with (fail);clear M;go_at_call 111;refine n.out.mono ?_;rintro e U ⟨v1,rfl,b,h1⟩;obtain⟨J,s,H,A,y,F,D,L,t,I,C,z,G,E,rfl,Z,y2⟩:=h1;have k:=bxl b Q.out;have o:=q.out.trans b;have⟨O,p,S,T⟩:=hyd4 b o Z y2;clear y2 Z o b;obtain⟨z0,z1,z2,z3,z4,z5⟩:=qDP k;have⟨g0,g1,g2,g3,g4,g5⟩:=frz6 k;have d:=λu0 u1 u2 u3 u4 u5=>qGE (p.out) (show w.heap.size<=w.heap.size by omega) u0 u1 u2 u3 u4 u5;have f:=λu0 u1 u2 u3 u4 u5=>qDP (qE0 k u0 u1 u2 u3 u4 u5);simp only[set6]at f;have c:=λu0 u1 u2 u3 u4 u5=>And.intro (S.out.touch (qHH k) (qCd U (w.heap.size) u0 u1 u2 u3 u4 u5)) (T.out.touch (qHH k) (qCd U (w.heap.size) u0 u1 u2 u3 u4 u5));have⟨h,l,N,av⟩:=hyd4 d f c k;clear k c f d;go_wp2;obtain⟨d0,d1,d2,d3,d4,d5⟩:=l.out (.bool J) (.slice s H A) (.slice y F D) (.bool L) (.slice t I C) (.slice z G E)
 exact bodyPost_ret (v:= .agg #[.bool J,.slice s H A,.slice y F D,.bool L,.slice t I C,.slice z G E]) (by simp[results,Tryz.results110,go_sem,d0,d1,d2,d3,d4,d5]) rfl ⟨_,rfl,h.out _ _ _ _ _ _,_,_,_,_,_,_,_,_,_,_,_,_,_,_,rfl⟩
theorem qG5 (x:FracA×FracA) (B:Nat) (w:World) (hx:ABox w B x) (hr:tval x=none):Calls Tryz.prog 110 #[.pointer (some ⟨B,0,none⟩)] w λe w'=>e= .panicked (flt 10)/\Le w w':=by
 obtain⟨s,l,c,r⟩:=al1 w (.cells #[.bool false,.slice none 0 0,.slice none 0 0,.bool false,.slice none 0 0,.slice none 0 0] 154);have n:=hx.le c;obtain⟨J,M,L,N,O,Q,P,R,o,d,f⟩:=n;obtain⟨t,v,y,z,A,C,D,E⟩:=qEM o;have g:=qJQ x _ s (IsTurnA.mk d f) hr;have⟨G,k,H,I,p,q,h,F⟩:=hyd8 hx c r o d f g hr;clear hr g f d o r c hx;go_enter Tryz.func110,Tryz.ntmps110;go_wp2_with (fail);clear l;go_at_call 111;refine h.out.mono ?_;rintro e S ⟨rfl,b⟩;have i:=k.out.trans b;have⟨m,j⟩:=hyd2 b i;clear i b;go_wp2_with (fail);exact⟨rfl,rfl,j.out⟩
theorem qJR (x:FracA×FracA) (v:Value) (w:World) (hv:IsTurnA w v x):Calls Tryz.prog 90 #[v] w λe w'=>e= .returned (.int .i64 (okE (tval x).isSome))/\Le w w':=by
 obtain⟨T,V,U,X,Y,aa,Z,ab,rfl,p,q⟩:=hv;obtain⟨s,m,i,o⟩:=al1 w (.cells #[.bool x.1.sn,.slice T x.1.gn.length V,.bool x.1.sd,.slice U x.1.gd.length X,.bool x.2.sn,.slice Y x.2.gn.length aa,.bool x.2.sd,.slice Z x.2.gd.length ab] 55);have h:ABox s w.heap.size x:=⟨_,_,_,_,_,_,_,_,o,p.le i,q.le i⟩;have ac:∀(fn:Fn) (first cap:Array Value) (w:World),(Instr.makeFunc fn first cap).run Tryz.prog w= .ok (.func fn first cap) w:=λ_ _ _ _=>rfl
 rcases qHJ x with⟨r,hr⟩|hr
 ·have k:okE (tval x).isSome =0:=by rw[hr];rfl
  rw[k];have d:=qHc 110 #[.pointer (some ⟨w.heap.size,0,none⟩)] s qEQ λW y=>qG4 x w.heap.size W (h.le y) r hr;have⟨j,B,n,C,D,g,A,z⟩:=hyd8 i o h p q d hr k;clear k hr d q p h o i;go_enter Tryz.func90,Tryz.ntmps90;go_wp2_with (fail);clear m;go_at_call 109;refine g.out.mono ?_;rintro e t ⟨v1,rfl,b,⟨R,E,P,I,G,N,L,S,F,Q,J,H,O,M,rfl⟩⟩;have c:=(j.out.trans b).trans (qAA t (.cells #[.bool R,.slice E P I,.slice G N L,.bool S,.slice F Q J,.slice H O M] 154));have⟨l,f⟩:=hyd2 b c;clear c b;go_wp2;go_ret;exact⟨rfl,f.out⟩
 ·have k:okE (tval x).isSome =10:=by rw[hr];rfl
  rw[k];have d:=qHN 10 110 #[.pointer (some ⟨w.heap.size,0,none⟩)] s qEQ λW y=>qG5 x w.heap.size W (h.le y) hr;have⟨j,B,n,C,D,g,A,z⟩:=hyd8 i o h p q d hr k;clear k hr d q p h o i;go_enter Tryz.func90,Tryz.ntmps90;go_wp2_with (fail);clear m;go_at_call 109;refine g.out.mono ?_;rintro e t ⟨rfl,b⟩;have c:=(j.out.trans b).trans (qAA t (.cells #[.bool false,.slice none 0 0,.slice none 0 0,.bool false,.slice none 0 0,.slice none 0 0] 154));have⟨l,f⟩:=hyd2 b c;clear c b;go_wp2;go_ret;exact⟨rfl,f.out⟩
end Go.Proofs.YtbcbcdgbliheoaaGreat

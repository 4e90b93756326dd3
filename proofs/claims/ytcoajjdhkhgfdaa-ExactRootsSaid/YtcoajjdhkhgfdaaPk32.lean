/- Roots, program side: chain's function, sign, high, low. Polynomials, the reference: Trim, coefficient, PlusPoly. -/
import Derived.Test.YtcoajjdhkhgfdaaPk31
namespace Go.Proofs.Ytcoajjdhkhgfdaa
set_option maxRecDepth 100000
set_option maxHeartbeats 1000000
open Go.RowKit Go.Shelf
set_option linter.unusedVariables false
set_option linter.unusedSimpArgs false
theorem qFw {z:Int} {n:Nat} (h:(dg z.natAbs).length =n):(0<n↔z≠0):=by
 rw[<-h,dg_length_pos];omega
theorem qIJ {L:Nat->Prop} {k:IntKind} {w:World} {A:Option Addr} {n c x:Nat} (h:NumL L k w (.slice A n c) x):(dg x).length =n:=by
 obtain⟨_,_,e,-⟩:=h;injection e with _ e _;exact e.symm
theorem qKY (z:Int) (v:Value) (w:World) (h:IntL w v z):Calls Try.prog 42 #[v] w λe w'=>∃v',e= .returned v'/\Le w w'/\IntL w' v' (-z):=by
 obtain⟨Q,E,R,rfl,C⟩:=h;obtain⟨s1,g⟩:∃s,decide (z<0)=s:=⟨_,rfl⟩;rw[g];have d:=qFw (qIJ C);obtain⟨U,ae,f,D⟩:=enew w (.cells #[.bool s1,.slice Q E R] 84);obtain⟨m,af,j,p⟩:=enew U (.cells #[.bool false,.slice none 0 0] 84);have i:=(j.block _ (gsl D)).trans D;have k:Le w m:=f.trans (j.mono f.size);have l:=C.le k;have hB:w.heap.size<=U.heap.size:=f.size;obtain⟨S,X⟩:∃x,w.heap.size=x:=⟨_,rfl⟩;obtain⟨T,Y⟩:∃x,U.heap.size=x:=⟨_,rfl⟩;rw[Y]at hB p;rw[X]at i;have p0:m.cell? ⟨S,0,none⟩=some (.bool s1):=cell_of_row m S 0 _ _ _ i;have p1:m.cell? ⟨S,1,none⟩=some (.slice Q E R):=cell_of_row m S 1 _ _ _ i;have q0:m.cell? ⟨T,0,none⟩=some (.bool false):=cell_of_row m T 0 _ _ _ p;have q1:m.cell? ⟨T,1,none⟩=some (.slice none 0 0):=cell_of_row m T 1 _ _ _ p;have⟨f0,f1⟩:=frz2 p;have c:=λb h=>qCS (b:=b) (z:= -z) k hB p (qAO _) (qAF _ _ _) (by rw[Int.natAbs_neg];exact l) h
 cases s1 with
 | true=>
  have O:z<0:=by simpa using g
  obtain⟨F,G,n,o⟩:=c false (by rw[decide_eq_false (by omega)]);have⟨V,B,H,I,aa,ab,P,J⟩:=hyd8 C d f j D p i k;have⟨L,A,t,y,q,r,M,Z⟩:=hyd8 l c F G n o g O;clear O g o n G F c l k i p D j f d C;go_enter Try.func42,Try.ntmps42;go_wp2;have n:=q.out;have o:=r.out;exact bodyPost_ret (v:= .agg #[.bool false,.slice Q E R]) (by simp[results,Try.results42,go_sem,n,o]) rfl ⟨_,rfl,t.out,y.out⟩
 | false=>
  have O:¬z<0:=by simpa using g
  obtain⟨sg,N⟩:∃s,decide (0<E)=s:=⟨_,rfl⟩;have ag:decide ((0:Int)<(E:Int))=sg:=by rw[<-N];exact decide_eq_decide.2 (by omega)
  obtain⟨F,G,n,o⟩:=c sg (by rw[<-N];exact decide_eq_decide.2 (by rw[d];omega));have⟨V,B,H,I,aa,ab,P,J⟩:=hyd8 C d f j D p i k;have⟨L,A,t,y,q,r,M,Z⟩:=hyd8 l c F G n o g O;clear O g o n G F c l k i p D j f d C;go_enter Try.func42,Try.ntmps42;go_wp2;have n:=q.out;have o:=r.out;exact bodyPost_ret (v:= .agg #[.bool sg,.slice Q E R]) (by simp[results,Try.results42,go_sem,n,o]) rfl ⟨_,rfl,t.out,y.out⟩
theorem qIK:qA8 Try.prog 42:=λ_ _=>by kernel_rfl
theorem qKZ (w:World) (z:Int):ElOk Try.prog intK intK (λc=> .ok (-c)) 42 #[] #[] w z:=by
 rintro n ⟨d,k,g,rfl,j⟩;refine(qKY z _ w ⟨d,k,g,rfl,j⟩).mono ?_;rintro e m ⟨o,rfl,b,f,l,h,rfl,i⟩;exact⟨b,.inl ⟨_,_,rfl,rfl,f,l,h,rfl,i⟩⟩
theorem qIL (z:Int) (v:Value) (w:World) (h:IntL w v z):Calls Try.prog 43 #[v] w λe w'=>e= .returned (.int .i64 z.sign)/\Le w w':=by
 obtain⟨E,r,F,rfl,n⟩:=h;obtain⟨D,d⟩:∃s,decide (z<0)=s:=⟨_,rfl⟩;rw[d];have b:=qFw (qIJ n);obtain⟨t,G,g,j⟩:=enew w (.cells #[.bool D,.slice E r F] 84);obtain⟨y,B⟩:∃x,w.heap.size=x:=⟨_,rfl⟩;rw[B]at j;have I:t.cell? ⟨y,0,none⟩=some (.bool D):=cell_of_row t y 0 _ _ _ j;have J:t.cell? ⟨y,1,none⟩=some (.slice E r F):=cell_of_row t y 1 _ _ _ j
 by_cases A:r=0
 ·have l:z=0:=by have:=b;omega
  have c:z.sign=0:=by rw[l];rfl
  rw[c];have H:((r:Int)==0)=true:=by simpa using A
  subst A;have⟨o,i,f,q,k,p,m⟩:=hyd7 n b g j d l c;clear c l d j g b n;go_enter Try.func43,Try.ntmps43;go_wp2;go_ret;exact⟨rfl,f.out⟩
 ·have l:z≠0:=by have:=b;omega
  have H:((r:Int)==0)=false:=by simpa using A
  cases D with
  | true=>
   have c:z.sign= -1:=Int.sign_eq_neg_one_of_neg (by simpa using d);rw[c];have⟨o,i,f,q,k,p,m⟩:=hyd7 n b g j d l c;clear c l d j g b n;go_enter Try.func43,Try.ntmps43;go_wp2;go_ret;exact⟨rfl,f.out⟩
  | false=>
   have C:¬z<0:=by simpa using d
   have c:z.sign=1:=Int.sign_eq_one_of_pos (by omega);clear C;rw[c];have⟨o,i,f,q,k,p,m⟩:=hyd7 n b g j d l c;clear c l d j g b n;go_enter Try.func43,Try.ntmps43;go_wp2;go_ret;exact⟨rfl,f.out⟩
def qC3 (p:List Int):Int:=(qAC p).sign
def lowS (p:List Int):Int:=if p.length%2=0 then - qC3 p else qC3 p
theorem qEK (z:Int): -1<=z.sign/\z.sign<=1:=by
 rcases Int.lt_trichotomy z 0 with h|h|h
 ·rw[Int.sign_eq_neg_one_of_neg h];decide
 ·rw[h];decide
 ·rw[Int.sign_eq_one_of_pos h];decide
theorem qIx (base:Nat) (v:Value) (p:List Int) (w:World) (hv:RowE intK 84 base w v p) (h0:p.length≠0) (hl:p.length<=1000):
  Calls Try.prog 19 #[v] w λe w'=>e= .returned (.int .i64 (qC3 p))/\Le w w':=by
 obtain⟨n,z⟩:∃n,p.length=n:=⟨_,rfl⟩;obtain⟨t,F⟩:∃t,n=t+1:=⟨n - 1,by omega⟩;have k:t<p.length:=by omega
 obtain⟨g,c,rfl,-,H,-,-,P,j,l⟩:=hv.at k;have b:p[t]=qAC p:=by unfold qAC;rw[List.getD_eq_getElem?_getD,show p.length - 1=t by omega,List.getElem?_eq_getElem k];rfl
 rw[b]at j;rw[z]at hl hv ⊢;obtain⟨x,C,y,rfl,A⟩:=j;have O:w.cell? ⟨g,t*2,none⟩=some (.bool (decide (qAC p<0))):=l 0 _ rfl;have T:w.cell? ⟨g,t*2+1,none⟩=some (.slice x C y):=l 1 _ rfl;have q:=qIL (qAC p) (.agg #[.bool (decide (qAC p<0)),.slice x C y]) w ⟨x,C,y,rfl,A⟩;obtain⟨sg,f⟩:∃s,decide (qAC p<0)=s:=⟨_,rfl⟩;rw[f]at q O;obtain⟨r,o⟩:∃r,qC3 p=r:=⟨_,rfl⟩;have d:(qAC p).sign =r:=o;rw[d]at q;rw[o];have Q:(n:Int) - 1=(t:Int):=by omega
 have R:(t:Int)<(n:Int):=by omega
 have S:(0:Int)<=(t:Int):=by omega
 have⟨M,G,N,B,I,L,m,E⟩:=hyd8 hv l A q z F b f;have⟨J,D⟩:=hyd2 o d;clear d o f b F z q A l hv;go_enter Try.func19,Try.ntmps19;go_wp2_with (fail);go_at_call 43;refine B.out.mono ?_;rintro e W ⟨rfl,h⟩;have i:=hyd1 h;clear h;go_wp2;go_ret;exact⟨rfl,i.out⟩
theorem qMD (base:Nat) (v:Value) (p:List Int) (w:World) (hv:RowE intK 84 base w v p) (h0:p.length≠0) (hl:p.length<=1000):
  Calls Try.prog 18 #[v] w λe w'=>e= .returned (.int .i64 (lowS p))/\Le w w':=by
 have i:=qIx base v p w hv h0 hl;obtain⟨n,k⟩:∃n,p.length=n:=⟨_,rfl⟩;obtain⟨A,c,rfl⟩:=hv.slice;have z:=qEK (qAC p);obtain⟨r,g⟩:∃r,qC3 p=r:=⟨_,rfl⟩;have f:(qAC p).sign =r:=g;rw[f]at z;rw[g]at i;unfold lowS;rw[g];rw[k]at hl hv i ⊢;obtain⟨m,j⟩:∃m,n%2=m:=⟨_,rfl⟩;have s:(n:Int)%2=(m:Int):=by omega
 have B:(n:Int).tmod 2=(m:Int):=by rw[Int.tmod_eq_emod_of_nonneg (by omega)];exact s
 rw[j]
 by_cases o:m=0
 ·subst o;rw[if_pos rfl];have⟨y,x,l,h,t,q⟩:=hyd6 hv g f i k j;clear j k i f g hv;go_enter Try.func18,Try.ntmps18;go_wp2_with (fail);go_at_call 19;refine h.out.mono ?_;rintro e W ⟨rfl,b⟩;have d:=hyd1 b;clear b;go_wp2;go_ret;exact⟨rfl,d.out⟩
 ·rw[if_neg o];have C:((m:Int)==0)=false:=by simpa using o
  have⟨y,x,l,h,t,q⟩:=hyd6 hv g f i k j;clear j k i f g hv;go_enter Try.func18,Try.ntmps18;go_wp2_with (fail);go_at_call 19;refine h.out.mono ?_;rintro e W ⟨rfl,b⟩;have d:=hyd1 b;clear b;go_wp2;go_ret;exact⟨rfl,d.out⟩
theorem qFD:(Try.prog.info? 63).map (λi=>(i.zero,i.size,i.bytes))=some (some (.agg #[.bool false,.slice none 0 0,.slice none 0 0]),3,56):=by kernel_rfl
def MPred.ratW (r:Rat):MPred:=⟨λv w=>RatL (λ_=>True) .i64 w v r,λ_ _ _ hb h=>h.le hb⟩
theorem qL4 {w W:World} {B:Nat} {t:TypeId} {s:Bool} {A1 A2:Option Addr} {n1 c1 n2 c2:Nat} {x y z:Value} {r:Rat} (hle:Le w W) (hB:w.heap.size<=B) (k:W.heap[B]? =some (.cells #[x,y,z] t)) (hx:NI .i64 x) (hy:NI .i64 y) (hz:NI .i64 z) (hr:RatL (λ_=>True) .i64 W (.agg #[.bool s,.slice A1 n1 c1,.slice A2 n2 c2]) r):
  Le w (((W.setCell ⟨B,0,none⟩ (.bool s)).setCell ⟨B,1,none⟩ (.slice A1 n1 c1)).setCell ⟨B,2,none⟩ (.slice A2 n2 c2))/\RatL (λ_=>True) .i64 (((W.setCell ⟨B,0,none⟩ (.bool s)).setCell ⟨B,1,none⟩ (.slice A1 n1 c1)).setCell ⟨B,2,none⟩ (.slice A2 n2 c2)) (.agg #[.bool s,.slice A1 n1 c1,.slice A2 n2 c2]) r∧
   (((W.setCell ⟨B,0,none⟩ (.bool s)).setCell ⟨B,1,none⟩ (.slice A1 n1 c1)).setCell ⟨B,2,none⟩ (.slice A2 n2 c2)).cell? ⟨B,0,none⟩=some (.bool s)/\(((W.setCell ⟨B,0,none⟩ (.bool s)).setCell ⟨B,1,none⟩ (.slice A1 n1 c1)).setCell ⟨B,2,none⟩ (.slice A2 n2 c2)).cell? ⟨B,1,none⟩=some (.slice A1 n1 c1)/\(((W.setCell ⟨B,0,none⟩ (.bool s)).setCell ⟨B,1,none⟩ (.slice A1 n1 c1)).setCell ⟨B,2,none⟩ (.slice A2 n2 c2)).cell? ⟨B,2,none⟩=some (.slice A2 n2 c2):=by
 have c:NIB .i64 W B:=⟨_,_,k,λu d=>by simp at d;rcases d with rfl|rfl|rfl<;>assumption⟩;have f:Kp .i64 W (((W.setCell ⟨B,0,none⟩ (.bool s)).setCell ⟨B,1,none⟩ (.slice A1 n1 c1)).setCell ⟨B,2,none⟩ (.slice A2 n2 c2)):=(((Kp.refl W).set c (qAO _)).set (qBy c (qAO _)) (qAF _ _ _)).set (qBy (qBy c (qAO _)) (qAF _ _ _)) (qAF _ _ _);have b:=qAR (u0:= .bool s) (u1:= .slice A1 n1 c1) (u2:= .slice A2 n2 c2) k;exact⟨qAb hle hB,hr.kp f,cell_of_row _ B 0 _ _ _ b,cell_of_row _ B 1 _ _ _ b,cell_of_row _ B 2 _ _ _ b⟩
theorem qK0 (base:Nat) (v:Value) (xs:List Rat) (w:World) (hv:RowE (ratK .i64) 63 base w v xs) (hl:xs.length<=1000000):
  Calls Try.prog 89 #[v] w λe w'=>∃v',e= .returned v'/\Le w w'/\RowE (ratK .i64) 63 base w' v' (cutz xs):=by
 obtain⟨A,c,rfl⟩:=hv.slice;obtain⟨n,hn⟩:∃n,xs.length=n:=⟨_,rfl⟩;rw[hn]at hl;have⟨G,f⟩:=hyd2 hv hn;clear hn hv;rw[f.out];rw[f.out]at G;go_enter Try.func89,Try.ntmps89;go_wp2_with (fail);go_loopw [3] (λs wr=>∃m:Nat,s= .int .i64 (m:Int)/\m<=n/\Hid (topN xs n=topN xs m)/\Hid (Below w.heap.size w wr)) (λs _=>(intOf s).toNat)
 case atStart=>exact⟨n,rfl,Nat.le_refl _,Lib.hid rfl,Lib.hid (Below.refl _ _)⟩
 case round=>
  obtain⟨m,rfl,hm,M,I⟩:=hrel
  by_cases h0:m=0
  ·have d:=I.out;have o:=G.out.le d;have q:cutz xs=xs.take m:=by unfold cutz;rw[f.out,M.out,h0];rfl
   have t:=RowE.take (xs:=xs) (m:=m) (A:=A) (c:=c) (by rw[f.out];exact o) (by rw[f.out];exact hm);rw[<-q]at t
   have S:n<=c:=by
    obtain⟨A',c',H,h1,-⟩:=o.seq;injection H with H e2 e3;omega
   have w1:¬(0:Int)<(m:Int):=by omega
   have⟨l,T,N,C⟩:=hyd4 d o q t;clear t q o d;subst h0;go_wp2;go_ret;exact⟨_,rfl,l.out,C.out⟩
  ·obtain⟨k,P⟩:∃k,m=k+1:=⟨m - 1,by omega⟩;have Q:k<xs.length:=by rw[f.out];omega
   obtain⟨g,c',H,ao,ap,S,ac,cs,U,J⟩:=(G.out.le I.out).at Q;rw[f.out]at H S;unfold maxLen at ac;injection H with H e2 e3;subst H e3;clear e2;have y:xs.getD k 0=xs[k]:=by rw[List.getD_eq_getElem?_getD,List.getElem?_eq_getElem Q];rfl
   have p:topN xs m=if xs.getD k 0=0 then topN xs k else m:=by rw[P];rfl
   rw[y]at p;generalize xs[k]=x at U y p;obtain⟨s1,A1,n1,c1,B1,m1,d1,rfl,E⟩:=U;have q0:wr.cell? ⟨g,k*3,none⟩=some (.bool s1):=J 0 _ rfl;have q1:wr.cell? ⟨g,k*3+1,none⟩=some (.slice A1 n1 c1):=J 1 _ rfl;have q2:wr.cell? ⟨g,k*3+2,none⟩=some (.slice B1 m1 d1):=J 2 _ rfl;have b:=qCc _ x _ wr E;obtain⟨sg,z⟩:∃sg,rsgn x=sg:=⟨_,rfl⟩;have B:(sg=0)↔x=0:=by rw[<-z];unfold rsgn;simp
   rw[z]at b;have w1:(m:Int) - 1=(k:Int):=by omega
   have w2:(0:Int)<(m:Int):=by omega
   have w3:(k:Int)<(n:Int):=by omega
   have w4:(0:Int)<=(k:Int):=by omega
   have w5:0<m:=by omega
   have F:=I.out
   by_cases Z:x=0
   ·have L:=B.2 Z;subst L;rw[if_pos Z,<-M.out]at p;have⟨i,Y,D,j,V,X,ab,O⟩:=hyd8 b E p F z B J y;clear y J B z F p E b;have⟨ad,aa,af⟩:=hyd3 P I M;clear M I P;go_wp2_with (fail);go_at_call 45;refine i.out.mono ?_;rintro e W2 ⟨rfl,r⟩;have d:=(show Below w.heap.size w wr from j.out).trans (r.mono (j.out).size);have⟨R,l⟩:=hyd2 r d;clear d r;go_wp2;go_roundw
    case rel=>exact⟨k,by go_num,by omega,D,l⟩
    case measure=>simp[intOf];omega
   ·have L:¬sg=0:=λh=>Z (B.1 h);have aq:(sg==0)=false:=by simpa using L
    rw[if_neg Z,<-M.out]at p;have⟨i,Y,D,j,V,X,ab,O⟩:=hyd8 b E p F z B J y;clear y J B z F p E b;have⟨ad,aa,af⟩:=hyd3 P I M;clear M I P;go_wp2_with (fail);go_at_call 45;refine i.out.mono ?_;rintro e W2 ⟨rfl,r⟩;have d:=(show Below w.heap.size w wr from j.out).trans (r.mono (j.out).size);have o:=G.out.le d;have q:cutz xs=xs.take m:=by unfold cutz;rw[f.out,D.out]
    have t:=RowE.take (xs:=xs) (m:=m) (A:=some ⟨g,0,none⟩) (c:=c) (by rw[f.out];exact o) (by rw[f.out];exact hm);rw[<-q]at t;have⟨R,l,T,N,C⟩:=hyd5 r d o q t;clear t q o d r;go_wp2;go_ret;exact⟨_,rfl,l.out,C.out⟩
end Go.Proofs.Ytcoajjdhkhgfdaa

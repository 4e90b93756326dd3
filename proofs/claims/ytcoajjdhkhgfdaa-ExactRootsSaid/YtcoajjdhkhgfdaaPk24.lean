/- Polynomials: how large what the division makes is (all coefficients over one denominator). Polynomials, program side: DivPoly's, CheckPoly's and Value's .. -/
import Derived.Test.YtcoajjdhkhgfdaaPk23
namespace Go.Proofs.Ytcoajjdhkhgfdaa
set_option maxRecDepth 100000
open Go.RowKit
set_option linter.unusedVariables false
set_option linter.unusedSimpArgs false
theorem qFo (N:Int) (D:Nat):(N:Rat) / (D:Rat)=mkR (decide (N<0)) N.natAbs D:=by
 unfold mkR;rw[qIn,Rat.mkRat_eq_div]
theorem qGs {N:Int} {D n:Nat} (hD:0<D) (h1:N.natAbs<B9^n) (h2:D<B9^n):Rsz ((N:Rat) / (D:Rat)) n:=by
 rw[qFo];obtain⟨b,q2⟩:=qGh (decide (N<0)) N.natAbs D (by omega);exact⟨Nat.le_trans b (qAl h1),Nat.le_trans q2 (qAl h2)⟩
def GL (n:Nat) (l:List Rat):Prop:=∃D:Nat,0<D/\D<B9^n/\∀r∈l,∃N:Int,r=(N:Rat) / (D:Rat)/\N.natAbs<B9^n
theorem GL.sz {n:Nat} {l:List Rat} (h:GL n l):∀r∈l,Rsz r n:=λr hr=>by
 obtain⟨D,h1,h2,h3⟩:=h;obtain⟨N,rfl,h4⟩:=h3 r hr;exact qGs h1 h4 h2
theorem B9p (n:Nat):0<B9^n:=Nat.pow_pos (by rw[qAM];decide)
theorem qCA {m n:Nat} (h:m<=n):B9^m<=B9^n:=Nat.pow_le_pow_right (by rw[qAM];decide) h
theorem GL.up {m n:Nat} {l:List Rat} (h:GL m l) (hmn:m<=n):GL n l:=by
 obtain⟨D,b,c,d⟩:=h;refine⟨D,b,Nat.lt_of_lt_of_le c (qCA hmn),λr g=>?_⟩;obtain⟨N,e,f⟩:=d r g;exact⟨N,e,Nat.lt_of_lt_of_le f (qCA hmn)⟩
theorem qCB (r:Rat):r=(r.num:Rat) / (r.den:Rat):=by
 rw[<-Rat.mkRat_eq_div,Rat.mkRat_self]
theorem qBm (x:Rat):(0:Rat) / x=0:=by rw[Rat.div_def,Rat.zero_mul]
theorem fe1 (D s N Q Nt Qk E:Rat) (hD:D≠0) (hQ:Q≠0) (hE:E≠0) (hs0:s≠0):N / D - (Nt / D) / (Q / E)*(Qk / E)=(s*(N*Q - Nt*Qk)) / (D*(s*Q)):=by grind
theorem fe2 (D s N Q:Rat) (hD:D≠0) (hQ:Q≠0) (hs0:s≠0):N / D=(s*(N*Q)) / (D*(s*Q)):=by grind
theorem fe3 (a b D:Rat) (hD:D≠0) (hb:b≠0):a / b=(a*D) / (b*D):=by grind
theorem fe4 (a b D:Rat) (hD:D≠0) (hb:b≠0):a / D=(a*b) / (b*D):=by grind
theorem qBP {a b:Int} {m n:Nat} (ha:a.natAbs<B9^m) (hb:b.natAbs<B9^n):(a*b).natAbs <B9^(m+n):=by
 rw[Int.natAbs_mul,Nat.pow_add];exact Nat.mul_lt_mul'' ha hb
theorem GL.of {m:Nat}:∀(l:List Rat),(∀r∈l,Rsz r m)->GL (1+l.length*m) l
 | [],_=>⟨1,by decide,by rw[List.length_nil,Nat.zero_mul,qAM];decide,λr hr=>by cases hr⟩
 | x::xs,h=>by
  obtain⟨D,h1,h2,h3⟩:=GL.of xs (λr hr=>h r (by simp[hr]));have hx:=h x (by simp);have hd:0<x.den:=Rat.den_pos x
  have hn9:x.num.natAbs<B9^m:=by
   have q:=qAa (rnum x);exact Nat.lt_of_lt_of_le q (qCA hx.1)
  have c:x.den<B9^m:=Nat.lt_of_lt_of_le (qAa x.den) (qCA hx.2);have i:1+(x::xs).length *m=m+(1+xs.length*m):=by rw[List.length_cons,Nat.add_mul];omega
  have d:(x.den:Rat)≠0:=by have:=hd;exact_mod_cast Nat.ne_of_gt hd
  have b:(D:Rat)≠0:=by exact_mod_cast Nat.ne_of_gt h1
  refine⟨x.den*D,Nat.mul_pos hd h1,?_,λr hr=>?_⟩
  ·rw[i,Nat.pow_add];exact Nat.mul_lt_mul'' c h2
  ·simp only[List.mem_cons]at hr
   rcases hr with rfl|hr
   ·refine⟨r.num*(D:Int),?_,?_⟩
    ·have e:=qCB r;have f:((r.num*(D:Int):Int):Rat)=(r.num:Rat)*(D:Rat):=by rw[Rat.intCast_mul];rfl
     have g:((r.den*D:Nat):Rat)=(r.den:Rat)*(D:Rat):=by rw[Rat.natCast_mul]
     rw[f,g,<-fe3 _ _ _ b d];exact e
    ·rw[i];exact qBP hn9 (by simpa using h2)
   ·obtain⟨N,e,j⟩:=h3 r hr;refine⟨N*(x.den:Int),?_,?_⟩
    ·have f:((N*(x.den:Int):Int):Rat)=(N:Rat)*(x.den:Rat):=by rw[Rat.intCast_mul];rfl
     have g:((x.den*D:Nat):Rat)=(x.den:Rat)*(D:Rat):=by rw[Rat.natCast_mul]
     rw[f,g,e];exact fe4 _ _ _ b d
    ·rw[i,Nat.add_comm];exact qBP j (by simpa using c)
theorem GL.getD {n:Nat} {l:List Rat} {D:Nat} (h:∀r∈l,∃N:Int,r=(N:Rat) / (D:Rat)/\N.natAbs<B9^n) (j:Nat):∃N:Int,l.getD j 0=(N:Rat) / (D:Rat)/\N.natAbs<B9^n:=by
 rw[List.getD_eq_getElem?_getD]
 cases e:l[j]? with
 | none=>exact⟨0,by show(0:Rat)=(((0:Int):Rat)) / _;rw[Rat.intCast_zero,qBm],B9p n⟩
 | some r=>exact h r (List.mem_of_getElem? e)
theorem GL.sub {n k:Nat} {P q:List Rat} (hP:GL n P) (hq:GL k q) {t1 t2:Nat} (h0:q.getD t2 0≠0) (i k':Nat):GL (n+k+1) (subK P q i (P.getD t1 0 / q.getD t2 0) k'):=by
 obtain⟨D,I,T,J⟩:=hP;obtain⟨E,U,e2,L⟩:=hq;obtain⟨v,C,F⟩:=GL.getD J t1;obtain⟨c,p,t⟩:=GL.getD L t2;have V:(E:Rat)≠0:=by exact_mod_cast Nat.ne_of_gt U
 have O:(D:Rat)≠0:=by exact_mod_cast Nat.ne_of_gt I
 have g:c≠0:=λh=>h0 (by rw[p,h,Rat.intCast_zero,qBm]);have l:(c:Rat)≠0:=by exact_mod_cast g
 have X:0<c.natAbs:=Int.natAbs_pos.2 g
 obtain⟨b,d,z⟩:∃s:Int,(s=1∨s= -1)/\(c.natAbs:Int)=s*c:=by
  rcases Int.natAbs_eq c with h|h
  ·exact⟨1,.inl rfl,by omega⟩
  ·exact⟨-1,.inr rfl,by omega⟩
 have A:((c.natAbs:Nat):Rat)=(b:Rat)*(c:Rat):=by
  rw[<-Rat.intCast_mul,<-z];rfl
 have Y:(b:Rat)*(b:Rat)=1:=by rcases d with rfl|rfl<;>decide+kernel
 have Q:∀N:Int,(b*N).natAbs =N.natAbs:=λN=>by rcases d with rfl|rfl<;>simp
 have R:B9^(n+k)*2<=B9^(n+k+1):=by rw[Nat.pow_succ];exact Nat.mul_le_mul_left _ (by rw[qAM];decide)
 refine⟨D*c.natAbs,Nat.mul_pos I X,?_,λr S=>?_⟩
 ·have:D*c.natAbs<B9^(n+k):=by rw[Nat.pow_add];exact Nat.mul_lt_mul'' T t
  omega
 ·simp only[subK,List.mem_map,List.mem_range]at S;obtain⟨j,hj,rfl⟩:=S;obtain⟨f,o,B⟩:=GL.getD J j;obtain⟨x,G,H⟩:=GL.getD L (j - i);have M:((D*c.natAbs:Nat):Rat)=(D:Rat)*((b:Rat)*(c:Rat)):=by rw[Rat.natCast_mul,A]
  have m:(b:Rat)≠0:=by rcases d with rfl|rfl<;>decide+kernel
  have Z:=qBP B t;have b2:=qBP F H
  split
  ·refine⟨b*(f*c - v*x),?_,?_⟩
   ·rw[o,C,p,G,M]
    have y:((b*(f*c - v*x):Int):Rat)=(b:Rat)*((f:Rat)*(c:Rat) - (v:Rat)*(x:Rat)):=by
     rw[Rat.intCast_mul,Rat.intCast_sub,Rat.intCast_mul,Rat.intCast_mul]
    rw[y];exact fe1 _ _ _ _ _ _ _ O l V m
   ·rw[Q];omega
  ·refine⟨b*(f*c),?_,?_⟩
   ·rw[o,M]
    have y:((b*(f*c):Int):Rat)=(b:Rat)*((f:Rat)*(c:Rat)):=by
     rw[Rat.intCast_mul,Rat.intCast_mul]
    rw[y];exact fe2 _ _ _ _ O l m
   ·rw[Q];omega
theorem qCe {n k:Nat} {P q:List Rat} (hP:GL n P) (hq:GL k q) (h0:q.getD (q.length - 1) 0≠0) (m:Nat):∀s,GL (n+s*(k+1)) (divS P q m s)
 | 0=>by simpa[divS]using hP
 | s+1=>by
  have ih:=qCe hP hq h0 m s;have:=GL.sub ih hq (t1:=m - s+q.length - 1) h0 (m - s) q.length;unfold divS divC;exact this.up (by rw[Nat.add_mul];omega)
open Go.RowKit Go.Shelf
theorem qB1 {rs:List Rat} (h:qAD rs=true) (h0:¬rs.length=0):rs.getD (rs.length - 1) 0≠0:=by
 unfold qAD at h;rw[decide_eq_false h0,Bool.false_or]at h;simpa using h
def valK (l:List Rat) (x:Rat):Nat->Rat
 | 0=>0
 | k+1=>valK l x k*x+l.getD (l.length - 1 - k) 0
def valL (l:List Rat) (x:Rat):Rat:=valK l x l.length
theorem FBox.mk {w W:World} {B:Nat} {x:FracA} {A A':Option Addr} {c c':Nat} {L:Nat->Prop} (hv:IsFracA L w (.agg #[.bool x.sn,.slice A x.gn.length c,.bool x.sd,.slice A' x.gd.length c']) x) (hle:Le w W) (hk:W.heap[B]? =some (.cells #[.bool x.sn,.slice A x.gn.length c,.bool x.sd,.slice A' x.gd.length c'] 27)):FBox W B (.agg #[.bool x.sn,.slice A x.gn.length c,.bool x.sd,.slice A' x.gd.length c']) x:=
 ⟨A,c,A',c',rfl,hk,(hv.le hle).mono λ_ _=>trivial⟩
attribute [local go_sem] Oper.semAt_some
end Go.Proofs.Ytcoajjdhkhgfdaa
namespace Go.Proofs.Ytcoajjdhkhgfdaa
set_option maxRecDepth 100000
open Go.RowKit Go.Shelf
set_option linter.unusedVariables false
set_option linter.unusedSimpArgs false
theorem mkf:∀(fn:Fn) (first cap:Array Value) (w:World),(Instr.makeFunc fn first cap).run Try.prog w= .ok (.func fn first cap) w:=λ_ _ _ _=>rfl
set_option maxHeartbeats 1000000
def Isz (z:Int) (n:Nat):Prop:=(dg z.natAbs).length <=n
theorem Isz.up {z:Int} {m n:Nat} (h:Isz z m) (hmn:m<=n):Isz z n:=Nat.le_trans h hmn
theorem qB0 {a b:Int} {m n:Nat} (ha:Isz a m) (hb:Isz b n):Isz (a*b) (m+n):=by
 unfold Isz at*;rw[Int.natAbs_mul];have:=qAK a.natAbs b.natAbs;omega
theorem qIt {a b:Int} {m n:Nat} (ha:Isz a m) (hb:Isz b n):Isz (a - b) (max m n+1):=by
 unfold Isz at*;have c:(a - b).natAbs <=a.natAbs+b.natAbs:=by omega
 have d:=qAH c;have f:=qDS a.natAbs b.natAbs;omega
def MPred.intP (z:Int):MPred:=⟨λv w=>IntL w v z,λ_ _ _ hb h=>h.le hb⟩
theorem qGt {W:World} {B:Nat} {t:TypeId} {x y u0 u1:Value} (h:W.heap[B]? =some (.cells #[x,y] t)):((W.setCell ⟨B,0,none⟩ u0).setCell ⟨B,1,none⟩ u1).heap[B]? =some (.cells #[u0,u1] t):=qC2 (qC2 h 0 u0) 1 u1
theorem qCS {w W:World} {B:Nat} {t:TypeId} {b:Bool} {A:Option Addr} {n c:Nat} {x y:Value} {z:Int} (hle:Le w W) (hB:w.heap.size<=B) (k:W.heap[B]? =some (.cells #[x,y] t)) (hx:NI .u32 x) (hy:NI .u32 y) (hn:NumL (λ_=>True) .u32 W (.slice A n c) z.natAbs) (hb:b=decide (z<0)):
  Le w ((W.setCell ⟨B,0,none⟩ (.bool b)).setCell ⟨B,1,none⟩ (.slice A n c))/\IntL ((W.setCell ⟨B,0,none⟩ (.bool b)).setCell ⟨B,1,none⟩ (.slice A n c)) (.agg #[.bool b,.slice A n c]) z∧
   ((W.setCell ⟨B,0,none⟩ (.bool b)).setCell ⟨B,1,none⟩ (.slice A n c)).cell? ⟨B,0,none⟩=some (.bool b)/\((W.setCell ⟨B,0,none⟩ (.bool b)).setCell ⟨B,1,none⟩ (.slice A n c)).cell? ⟨B,1,none⟩=some (.slice A n c):=by
 subst hb;have f:=nib2 k hx hy;have g:Kp .u32 W ((W.setCell ⟨B,0,none⟩ (.bool (decide (z<0)))).setCell ⟨B,1,none⟩ (.slice A n c)):=((Kp.refl W).set f (qAO _)).set (qBy f (qAO _)) (qAF _ _ _);have d:=qGt (u0:= .bool (decide (z<0))) (u1:= .slice A n c) k;exact⟨(Below.setCell hle (p:=⟨B,0,none⟩) hB _).setCell (p:=⟨B,1,none⟩) hB _,⟨A,n,c,rfl,hn.kp g⟩,cell_of_row _ B 0 _ _ _ d,cell_of_row _ B 1 _ _ _ d⟩
theorem qCf (a b:Int) (va vb:Value) (w:World) (ha:IntL w va a) (hb:IntL w vb b) (hma:Isz a 100000000) (hmb:Isz b 100000000):
  Calls Try.prog 53 #[va,vb] w λe w'=>∃v',e= .returned v'/\Le w w'/\IntL w' v' (a*b):=by
 obtain⟨A1,n1,c1,rfl,ag⟩:=ha;obtain⟨A2,n2,c2,rfl,ah⟩:=hb;obtain⟨W1,am,C,k1⟩:=enew w (.cells #[.bool (decide (a<0)),.slice A1 n1 c1] 84);obtain⟨W2,an,D,k2⟩:=enew W1 (.cells #[.bool (decide (b<0)),.slice A2 n2 c2] 84);obtain⟨L,a1,O,k3⟩:=enew W2 (.cells #[.bool false,.slice none 0 0] 84);have I:=(O.block _ (gsl ((D.block _ (gsl k1)).trans k1))).trans ((D.block _ (gsl k1)).trans k1);have J:=(O.block _ (gsl k2)).trans k2;have H:Le w L:=(C.trans (D.mono C.size)).trans (O.mono (C.trans (D.mono C.size)).size);obtain⟨sa,aa⟩:∃s,decide (a<0)=s:=⟨_,rfl⟩;obtain⟨sb,ab⟩:∃s,decide (b<0)=s:=⟨_,rfl⟩;rw[aa]at I am ⊢;rw[ab]at J an ⊢;obtain⟨x0,a2⟩:∃x,w.heap.size=x:=⟨_,rfl⟩;obtain⟨x1,a3⟩:∃x,W1.heap.size=x:=⟨_,rfl⟩;obtain⟨x2,a4⟩:∃x,W2.heap.size=x:=⟨_,rfl⟩;have ao:w.heap.size<=x2:=by have:=C.size;have:=D.size;omega
 rw[a2]at I;rw[a3]at J;rw[a4]at k3;have p0:L.cell? ⟨x0,0,none⟩=some (.bool sa):=cell_of_row L x0 0 _ _ _ I;have p1:L.cell? ⟨x0,1,none⟩=some (.slice A1 n1 c1):=cell_of_row L x0 1 _ _ _ I;have q0:L.cell? ⟨x1,0,none⟩=some (.bool sb):=cell_of_row L x1 0 _ _ _ J;have q1:L.cell? ⟨x1,1,none⟩=some (.slice A2 n2 c2):=cell_of_row L x1 1 _ _ _ J;have kt:=qBO (λ_=>True) a.natAbs b.natAbs _ _ L (Up.any _) (ag.le H) (ah.le H) hma hmb;rw[<-Int.natAbs_mul]at kt
 have T:decide (a*b<0)=((sa != sb)&&decide (0<(dg (a*b).natAbs).length)):=by
  have h1:(0<(dg (a*b).natAbs).length)↔a*b≠0:=by rw[dg_length_pos];omega
  rw[<-aa,<-ab,Bool.eq_iff_iff];simp only[decide_eq_true_eq,Bool.and_eq_true,bne_iff_ne,ne_eq,h1]
  rcases Int.lt_trichotomy a 0 with ha|ha|ha<;>rcases Int.lt_trichotomy b 0 with hb|hb|hb
  all_goals
   first
   | (subst ha;simp)
   | (subst hb;simp)
   | (have:=Int.mul_pos_of_neg_of_neg ha hb;constructor<;>intro h<;>(first |omega| (obtain⟨h2,h3⟩:=h;exact absurd (by rw[decide_eq_true ha,decide_eq_true hb]) h2)))
   | (have:=Int.mul_neg_of_neg_of_pos ha hb;refine⟨λ_=>⟨?_,by omega⟩,λ_=>this⟩;rw[decide_eq_true ha,decide_eq_false (by omega)];decide)
   | (have:=Int.mul_neg_of_pos_of_neg ha hb;refine⟨λ_=>⟨?_,by omega⟩,λ_=>this⟩;rw[decide_eq_true hb,decide_eq_false (by omega)];decide)
   | (have:=Int.mul_pos ha hb;constructor<;>intro h<;>(first |omega| (obtain⟨h2,h3⟩:=h;exact absurd (by rw[decide_eq_false (by omega),decide_eq_false (by omega)]) h2)))
 obtain⟨z,hz⟩:∃z,a*b=z:=⟨_,rfl⟩;rw[hz]at kt T ⊢;have⟨aH,aI,aE,aF,aG,aP,aQ,ap⟩:=hyd8 ag ah C D O k1 k2 k3;have⟨ac,ad,af,a7,ai,aO,aJ,aK⟩:=hyd8 I J H kt T hz aa ab;clear ab aa hz T kt H J I k3 k2 k1 O D C ah ag;go_enter Try.func53,Try.ntmps53;go_wp2_with (fail);clear am an a1;go_at_call 64;refine a7.out.mono ?_;rintro e Z ⟨v4,rfl,f,j⟩;obtain⟨A4,c4,rfl⟩:=j.slice;have k:=j;obtain⟨P,Y⟩:∃P,(dg z.natAbs).length =P:=⟨_,rfl⟩;rw[Y]at k ⊢;have g:=ai.out;rw[Y]at g;have o:=(f.block _ (gsl ac.out)).trans ac.out;have p:=(f.block _ (gsl ad.out)).trans ad.out;have i:=(f.block _ (gsl ap.out)).trans ap.out;have c:Le w Z:=(show Le w L from af.out).trans f;have p0:Z.cell? ⟨x0,0,none⟩=some (.bool sa):=cell_of_row Z x0 0 _ _ _ o;have q0:Z.cell? ⟨x1,0,none⟩=some (.bool sb):=cell_of_row Z x1 0 _ _ _ p;have r0:Z.cell? ⟨x2,0,none⟩=some (.bool false):=cell_of_row Z x2 0 _ _ _ i;have r1:Z.cell? ⟨x2,1,none⟩=some (.slice none 0 0):=cell_of_row Z x2 1 _ _ _ i;have⟨f0,f1⟩:=frz2 i;have d:=λb h=>qCS (b:=b) (z:=z) c ao i (qAO _) (qAF _ _ _) k h;have same:∀(s:Bool),decide (z<0)=((s != s)&&decide (0<P))->(false:Bool)=decide (z<0):=λs h=>by rw[h];cases s<;>rfl
 have other:∀(s t:Bool),(s != t)=true->decide (z<0)=((s != t)&&decide (0<P))->decide (0<P)=decide (z<0):=λs t h1 h=>by rw[h,h1,Bool.true_and]
 cases sa<;>cases sb
 ·obtain⟨M,N,l,m⟩:=d false (same _ g);have⟨F,Q,R,ae,S,U,V,X⟩:=hyd8 f j k Y g o p i;have⟨n,E,A,B,r,y,G,q⟩:=hyd8 c d M N l m same other;clear other same m l N M d c i p o g Y k j f;go_wp2;have l:=r.out;have m:=y.out;exact bodyPost_ret (v:= .agg #[.bool false,.slice A4 P c4]) (by simp[results,Try.results53,go_sem,l,m]) rfl ⟨_,rfl,A.out,B.out⟩
 ·obtain⟨M,N,l,m⟩:=d (decide (0<P)) (other _ _ rfl g);have⟨F,Q,R,ae,S,U,V,X⟩:=hyd8 f j k Y g o p i;have⟨n,E,A,B,r,y,G,q⟩:=hyd8 c d M N l m same other;clear other same m l N M d c i p o g Y k j f;go_wp2;have l:=r.out;have m:=y.out;exact bodyPost_ret (v:= .agg #[.bool (decide (0<P)),.slice A4 P c4]) (by simp[results,Try.results53,go_sem,l,m]) rfl ⟨_,rfl,A.out,B.out⟩
 ·obtain⟨M,N,l,m⟩:=d (decide (0<P)) (other _ _ rfl g);have⟨F,Q,R,ae,S,U,V,X⟩:=hyd8 f j k Y g o p i;have⟨n,E,A,B,r,y,G,q⟩:=hyd8 c d M N l m same other;clear other same m l N M d c i p o g Y k j f;go_wp2;have l:=r.out;have m:=y.out;exact bodyPost_ret (v:= .agg #[.bool (decide (0<P)),.slice A4 P c4]) (by simp[results,Try.results53,go_sem,l,m]) rfl ⟨_,rfl,A.out,B.out⟩
 ·obtain⟨M,N,l,m⟩:=d false (same _ g);have⟨F,Q,R,ae,S,U,V,X⟩:=hyd8 f j k Y g o p i;have⟨n,E,A,B,r,y,G,q⟩:=hyd8 c d M N l m same other;clear other same m l N M d c i p o g Y k j f;go_wp2;have l:=r.out;have m:=y.out;exact bodyPost_ret (v:= .agg #[.bool false,.slice A4 P c4]) (by simp[results,Try.results53,go_sem,l,m]) rfl ⟨_,rfl,A.out,B.out⟩
end Go.Proofs.Ytcoajjdhkhgfdaa

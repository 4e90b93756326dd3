/- Integers: times, minus. (The region between --@ARM and --@END is printed by gen_poly.py.) -/
import Derived.Test.YtcoajjdhkhgfdaaGreatPk31
namespace Go.Proofs.YtcoajjdhkhgfdaaGreat
set_option maxRecDepth 100000
set_option maxHeartbeats 1000000
open Go.RowKit Go.Shelf
set_option linter.unusedVariables false
set_option linter.unusedSimpArgs false
def Isz (z:Int) (n:Nat):Prop:=(dg z.natAbs).length <=n
theorem Isz.up {z:Int} {m n:Nat} (h:Isz z m) (hmn:m<=n):Isz z n:=Nat.le_trans h hmn
theorem qFU {a b:Int} {m n:Nat} (ha:Isz a m) (hb:Isz b n):Isz (a*b) (m+n):=by
 unfold Isz at*;rw[Int.natAbs_mul];have:=qAF a.natAbs b.natAbs;omega
theorem qL9 {a b:Int} {m n:Nat} (ha:Isz a m) (hb:Isz b n):Isz (a - b) (max m n+1):=by
 unfold Isz at*;have c:(a - b).natAbs <=a.natAbs+b.natAbs:=by omega
 have d:=qAE c;have f:=qCZ a.natAbs b.natAbs;omega
def MPred.intP (z:Int):MPred:=⟨λv w=>IntL w v z,λ_ _ _ hb h=>h.le hb⟩
theorem qLa {W:World} {B:Nat} {t:TypeId} {x y u0 u1:Value} (h:W.heap[B]? =some (.cells #[x,y] t)):((W.setCell ⟨B,0,none⟩ u0).setCell ⟨B,1,none⟩ u1).heap[B]? =some (.cells #[u0,u1] t):=qAk (qAk h 0 u0) 1 u1
theorem qCo {w W:World} {B:Nat} {t:TypeId} {b:Bool} {A:Option Addr} {n c:Nat} {x y:Value} {z:Int} (hle:Le w W) (hB:w.heap.size<=B) (k:W.heap[B]? =some (.cells #[x,y] t)) (hx:NI .u32 x) (hy:NI .u32 y) (hn:NumL (λ_=>True) .u32 W (.slice A n c) z.natAbs) (hb:b=decide (z<0)):
  Le w ((W.setCell ⟨B,0,none⟩ (.bool b)).setCell ⟨B,1,none⟩ (.slice A n c))/\IntL ((W.setCell ⟨B,0,none⟩ (.bool b)).setCell ⟨B,1,none⟩ (.slice A n c)) (.agg #[.bool b,.slice A n c]) z∧
   ((W.setCell ⟨B,0,none⟩ (.bool b)).setCell ⟨B,1,none⟩ (.slice A n c)).cell? ⟨B,0,none⟩=some (.bool b)/\((W.setCell ⟨B,0,none⟩ (.bool b)).setCell ⟨B,1,none⟩ (.slice A n c)).cell? ⟨B,1,none⟩=some (.slice A n c):=by
 subst hb;have f:=nib2 k hx hy;have g:Kp .u32 W ((W.setCell ⟨B,0,none⟩ (.bool (decide (z<0)))).setCell ⟨B,1,none⟩ (.slice A n c)):=((Kp.refl W).set f (qAK _)).set (qBg f (qAK _)) (qAB _ _ _);have d:=qLa (u0:= .bool (decide (z<0))) (u1:= .slice A n c) k;exact⟨(Below.setCell hle (p:=⟨B,0,none⟩) hB _).setCell (p:=⟨B,1,none⟩) hB _,⟨A,n,c,rfl,hn.kp g⟩,cell_of_row _ B 0 _ _ _ d,cell_of_row _ B 1 _ _ _ d⟩
theorem qHF (a b:Int) (va vb:Value) (w:World) (ha:IntL w va a) (hb:IntL w vb b) (hma:Isz a 100000000) (hmb:Isz b 100000000):
  Calls Tryz.prog 106 #[va,vb] w λe w'=>∃v',e= .returned v'/\Le w w'/\IntL w' v' (a*b):=by
 obtain⟨A1,n1,c1,rfl,ag⟩:=ha;obtain⟨A2,n2,c2,rfl,ah⟩:=hb;obtain⟨W1,am,C,k1⟩:=enew w (.cells #[.bool (decide (a<0)),.slice A1 n1 c1] 119);obtain⟨W2,an,D,k2⟩:=enew W1 (.cells #[.bool (decide (b<0)),.slice A2 n2 c2] 119);obtain⟨L,a1,O,k3⟩:=enew W2 (.cells #[.bool false,.slice none 0 0] 119);have I:=(O.block _ (gsl ((D.block _ (gsl k1)).trans k1))).trans ((D.block _ (gsl k1)).trans k1);have J:=(O.block _ (gsl k2)).trans k2;have H:Le w L:=(C.trans (D.mono C.size)).trans (O.mono (C.trans (D.mono C.size)).size);obtain⟨sa,aa⟩:∃s,decide (a<0)=s:=⟨_,rfl⟩;obtain⟨sb,ab⟩:∃s,decide (b<0)=s:=⟨_,rfl⟩;rw[aa]at I am ⊢;rw[ab]at J an ⊢;obtain⟨x0,a2⟩:∃x,w.heap.size=x:=⟨_,rfl⟩;obtain⟨x1,a3⟩:∃x,W1.heap.size=x:=⟨_,rfl⟩;obtain⟨x2,a4⟩:∃x,W2.heap.size=x:=⟨_,rfl⟩;have ao:w.heap.size<=x2:=by have:=C.size;have:=D.size;omega
 rw[a2]at I;rw[a3]at J;rw[a4]at k3;have p0:L.cell? ⟨x0,0,none⟩=some (.bool sa):=cell_of_row L x0 0 _ _ _ I;have p1:L.cell? ⟨x0,1,none⟩=some (.slice A1 n1 c1):=cell_of_row L x0 1 _ _ _ I;have q0:L.cell? ⟨x1,0,none⟩=some (.bool sb):=cell_of_row L x1 0 _ _ _ J;have q1:L.cell? ⟨x1,1,none⟩=some (.slice A2 n2 c2):=cell_of_row L x1 1 _ _ _ J;have kt:=qBL (λ_=>True) a.natAbs b.natAbs _ _ L (Up.any _) (ag.le H) (ah.le H) hma hmb;rw[<-Int.natAbs_mul]at kt
 have T:decide (a*b<0)=((sa != sb)&&decide (0<(dg (a*b).natAbs).length)):=by
  have h1:(0<(dg (a*b).natAbs).length)↔a*b≠0:=by rw[dg_length_pos];omega
  rw[<-aa,<-ab,Bool.eq_iff_iff];simp only[decide_eq_true_eq,Bool.and_eq_true,bne_iff_ne,ne_eq,h1]
  rcases Int.lt_trichotomy a 0 with ha|ha|ha<;>rcases Int.lt_trichotomy b 0 with hb|hb|hb
  all_goals
   first
   | (subst ha;simp)
   | (subst hb;simp)
   | (have:=Int.mul_pos_of_neg_of_neg ha hb;constructor<;>intro h<;>(first |omega| (obtain⟨h2,h3⟩:=h;exact absurd (by rw[decide_eq_true ha,decide_eq_true hb]) h2)))
   | (have:=Int.mul_neg_of_neg_of_pos ha hb;refine⟨λ_=>⟨?_,by omega⟩,λ_=>this⟩;rw[decide_eq_true ha,decide_eq_false (by omega)];decide)
   | (have:=Int.mul_neg_of_pos_of_neg ha hb;refine⟨λ_=>⟨?_,by omega⟩,λ_=>this⟩;rw[decide_eq_true hb,decide_eq_false (by omega)];decide)
   | (have:=Int.mul_pos ha hb;constructor<;>intro h<;>(first |omega| (obtain⟨h2,h3⟩:=h;exact absurd (by rw[decide_eq_false (by omega),decide_eq_false (by omega)]) h2)))
 obtain⟨z,hz⟩:∃z,a*b=z:=⟨_,rfl⟩;rw[hz]at kt T ⊢;have⟨aH,aI,aE,aF,aG,aP,aQ,ap⟩:=hyd8 ag ah C D O k1 k2 k3;have⟨ac,ad,af,a7,ai,aO,aJ,aK⟩:=hyd8 I J H kt T hz aa ab;clear ab aa hz T kt H J I k3 k2 k1 O D C ah ag;go_enter Tryz.func106,Tryz.ntmps106;go_wp2_with (fail);clear am an a1;go_at_call 61;refine a7.out.mono ?_;rintro e Z ⟨v4,rfl,f,j⟩;obtain⟨A4,c4,rfl⟩:=j.slice;have k:=j;obtain⟨P,Y⟩:∃P,(dg z.natAbs).length =P:=⟨_,rfl⟩;rw[Y]at k ⊢;have g:=ai.out;rw[Y]at g;have o:=(f.block _ (gsl ac.out)).trans ac.out;have p:=(f.block _ (gsl ad.out)).trans ad.out;have i:=(f.block _ (gsl ap.out)).trans ap.out;have c:Le w Z:=(show Le w L from af.out).trans f;have p0:Z.cell? ⟨x0,0,none⟩=some (.bool sa):=cell_of_row Z x0 0 _ _ _ o;have q0:Z.cell? ⟨x1,0,none⟩=some (.bool sb):=cell_of_row Z x1 0 _ _ _ p;have r0:Z.cell? ⟨x2,0,none⟩=some (.bool false):=cell_of_row Z x2 0 _ _ _ i;have r1:Z.cell? ⟨x2,1,none⟩=some (.slice none 0 0):=cell_of_row Z x2 1 _ _ _ i;have⟨f0,f1⟩:=frz2 i;have d:=λb h=>qCo (b:=b) (z:=z) c ao i (qAK _) (qAB _ _ _) k h;have same:∀(s:Bool),decide (z<0)=((s != s)&&decide (0<P))->(false:Bool)=decide (z<0):=λs h=>by rw[h];cases s<;>rfl
 have other:∀(s t:Bool),(s != t)=true->decide (z<0)=((s != t)&&decide (0<P))->decide (0<P)=decide (z<0):=λs t h1 h=>by rw[h,h1,Bool.true_and]
 cases sa<;>cases sb
 ·obtain⟨M,N,l,m⟩:=d false (same _ g);have⟨F,Q,R,ae,S,U,V,X⟩:=hyd8 f j k Y g o p i;have⟨n,E,A,B,r,y,G,q⟩:=hyd8 c d M N l m same other;clear other same m l N M d c i p o g Y k j f;go_wp2;have l:=r.out;have m:=y.out;exact bodyPost_ret (v:= .agg #[.bool false,.slice A4 P c4]) (by simp[results,Tryz.results106,go_sem,l,m]) rfl ⟨_,rfl,A.out,B.out⟩
 ·obtain⟨M,N,l,m⟩:=d (decide (0<P)) (other _ _ rfl g);have⟨F,Q,R,ae,S,U,V,X⟩:=hyd8 f j k Y g o p i;have⟨n,E,A,B,r,y,G,q⟩:=hyd8 c d M N l m same other;clear other same m l N M d c i p o g Y k j f;go_wp2;have l:=r.out;have m:=y.out;exact bodyPost_ret (v:= .agg #[.bool (decide (0<P)),.slice A4 P c4]) (by simp[results,Tryz.results106,go_sem,l,m]) rfl ⟨_,rfl,A.out,B.out⟩
 ·obtain⟨M,N,l,m⟩:=d (decide (0<P)) (other _ _ rfl g);have⟨F,Q,R,ae,S,U,V,X⟩:=hyd8 f j k Y g o p i;have⟨n,E,A,B,r,y,G,q⟩:=hyd8 c d M N l m same other;clear other same m l N M d c i p o g Y k j f;go_wp2;have l:=r.out;have m:=y.out;exact bodyPost_ret (v:= .agg #[.bool (decide (0<P)),.slice A4 P c4]) (by simp[results,Tryz.results106,go_sem,l,m]) rfl ⟨_,rfl,A.out,B.out⟩
 ·obtain⟨M,N,l,m⟩:=d false (same _ g);have⟨F,Q,R,ae,S,U,V,X⟩:=hyd8 f j k Y g o p i;have⟨n,E,A,B,r,y,G,q⟩:=hyd8 c d M N l m same other;clear other same m l N M d c i p o g Y k j f;go_wp2;have l:=r.out;have m:=y.out;exact bodyPost_ret (v:= .agg #[.bool false,.slice A4 P c4]) (by simp[results,Tryz.results106,go_sem,l,m]) rfl ⟨_,rfl,A.out,B.out⟩
end Go.Proofs.YtcoajjdhkhgfdaaGreat

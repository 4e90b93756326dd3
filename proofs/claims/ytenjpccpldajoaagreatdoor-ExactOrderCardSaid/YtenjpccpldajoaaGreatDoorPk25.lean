/- Polynomials, program side: the exported functions. (Printed by gen_polyw.py.) Integers: times, minus. (The region between --@ARM and --@END is printed by .. -/
import Derived.Test.YtenjpccpldajoaaGreatDoorPk23
import Derived.Test.YtenjpccpldajoaaGreatDoorPk24
namespace Go.Proofs.YtenjpccpldajoaaGreatDoor
set_option maxRecDepth 100000
set_option maxHeartbeats 1000000
open Go.RowKit Go.Shelf
set_option linter.unusedVariables false
set_option linter.unusedSimpArgs false
def qPT (L:Nat→Prop) (B:Nat) (w:World) (v:Value) (c:Int):Except Int (List Rat)→Prop
 | .ok ys=>RowE (frK L) 26 B w v ys∧c=0
 | .error z=>v= .slice none 0 0∧c=z
def qGq (L:Nat→Prop) (res:Except Int (List Rat)) (w:World) (e:Ending) (w':World):Prop:=Le w w'∧∃v c,e= .returned (.tuple #[v,.int .i64 c])∧qPT L w.heap.size w' v c res
theorem mkf:∀(fn:Fn) (first cap:Array Value) (w:World),(Instr.makeFunc fn first cap).run Tryz.prog w= .ok (.func fn first cap) w:=fun _ _ _ _=>rfl
theorem qMm (L:Nat→Prop) (res:Except Int (List Rat)) (g:FuncId) (cap:Array Value) (w:World) (hg:qAF Tryz.prog g) (hf:∀W,Le w W→w.heap.size+2≤W.heap.size→Calls Tryz.prog g cap W (MapPost (frK L) 26 W res)):
  Calls Tryz.prog 76 #[.func (.func g) #[] cap] w (qGq L res w):=by
 cases res with
 | ok ys=>
  refine(qJ6 (fun v W=>RowE (frK L) 26 (w.heap.size+2) W v ys) g cap w hg (fun v W W' h k=>h.keep k.1 fun b hb=>k.2 b (h.nib hb).1 (h.nib hb).2.1) fun W hW hs=>(hf W hW hs).mono ?_).mono ?_
  ·rintro e W' ⟨hle,⟨ys',v,h1,rfl,h2⟩| ⟨z,h1,-⟩⟩
   ·injection h1 with h1;subst h1;obtain⟨A,c,rfl⟩:=h2.slice;exact⟨A,_,c,rfl,hle,h2.base hs⟩
   ·cases h1
  ·rintro e w' ⟨v,rfl,hle,h⟩;exact⟨hle,v,0,rfl,h.base (by omega),rfl⟩
 | error z=>
  refine(qIv z g cap w hg fun W hW hs=>(hf W hW hs).mono ?_).mono ?_
  ·rintro e W' ⟨hle,⟨ys',v,h1,-⟩| ⟨z',h1,rfl⟩⟩
   ·cases h1
   ·injection h1 with h1;subst h1;exact⟨rfl,hle⟩
  ·rintro e w' ⟨rfl,hle⟩;exact⟨hle,_,z,rfl,rfl,rfl⟩
def Isz (z:Int) (n:Nat):Prop:=(dg z.natAbs).length ≤n
theorem Isz.up {z:Int} {m n:Nat} (h:Isz z m) (hmn:m≤n):Isz z n:=Nat.le_trans h hmn
theorem qBn {a b:Int} {m n:Nat} (ha:Isz a m) (hb:Isz b n):Isz (a*b) (m+n):=by
 unfold Isz at*;rw[Int.natAbs_mul];have:=qAN a.natAbs b.natAbs;omega
theorem qKl {a b:Int} {m n:Nat} (ha:Isz a m) (hb:Isz b n):Isz (a - b) (max m n+1):=by
 unfold Isz at*;have h1:(a - b).natAbs ≤a.natAbs+b.natAbs:=by omega
 have h2:=qAJ h1;have h3:=qCW a.natAbs b.natAbs;omega
def MPred.intP (z:Int):MPred:=⟨fun v w=>IntL w v z,fun _ _ _ hb h=>h.le hb⟩
theorem qIL {W:World} {B:Nat} {t:TypeId} {x y u0 u1:Value} (h:W.heap[B]? =some (.cells #[x,y] t)):((W.setCell ⟨B,0,none⟩ u0).setCell ⟨B,1,none⟩ u1).heap[B]? =some (.cells #[u0,u1] t):=qEd (qEd h 0 u0) 1 u1
theorem qCn {w W:World} {B:Nat} {t:TypeId} {b:Bool} {A:Option Addr} {n c:Nat} {x y:Value} {z:Int} (hle:Le w W) (hB:w.heap.size≤B) (k:W.heap[B]? =some (.cells #[x,y] t)) (hx:NI .u32 x) (hy:NI .u32 y) (hn:NumL (fun _=>True) .u32 W (.slice A n c) z.natAbs) (hb:b=decide (z<0)):
  Le w ((W.setCell ⟨B,0,none⟩ (.bool b)).setCell ⟨B,1,none⟩ (.slice A n c))∧IntL ((W.setCell ⟨B,0,none⟩ (.bool b)).setCell ⟨B,1,none⟩ (.slice A n c)) (.agg #[.bool b,.slice A n c]) z∧
   ((W.setCell ⟨B,0,none⟩ (.bool b)).setCell ⟨B,1,none⟩ (.slice A n c)).cell? ⟨B,0,none⟩=some (.bool b)∧((W.setCell ⟨B,0,none⟩ (.bool b)).setCell ⟨B,1,none⟩ (.slice A n c)).cell? ⟨B,1,none⟩=some (.slice A n c):=by
 subst hb;have n0:=nib2 k hx hy;have hk:Kp .u32 W ((W.setCell ⟨B,0,none⟩ (.bool (decide (z<0)))).setCell ⟨B,1,none⟩ (.slice A n c)):=((Kp.refl W).set n0 (qAV _)).set (qDa n0 (qAV _)) (qAK _ _ _);have k2:=qIL (u0:= .bool (decide (z<0))) (u1:= .slice A n c) k;exact⟨(Below.setCell hle (p:=⟨B,0,none⟩) hB _).setCell (p:=⟨B,1,none⟩) hB _,⟨A,n,c,rfl,hn.kp hk⟩,cell_of_row _ B 0 _ _ _ k2,cell_of_row _ B 1 _ _ _ k2⟩
theorem qDK (a b:Int) (va vb:Value) (w:World) (ha:IntL w va a) (hb:IntL w vb b) (hma:Isz a 100000000) (hmb:Isz b 100000000):
  Calls Tryz.prog 143 #[va,vb] w fun e w'=>∃v',e= .returned v'∧Le w w'∧IntL w' v' (a*b):=by
 obtain⟨A1,n1,c1,rfl,hna⟩:=ha;obtain⟨A2,n2,c2,rfl,hnb⟩:=hb;obtain⟨W1,hW1,hb1,k1⟩:=enew w (.cells #[.bool (decide (a<0)),.slice A1 n1 c1] 156);obtain⟨W2,hW2,hb2,k2⟩:=enew W1 (.cells #[.bool (decide (b<0)),.slice A2 n2 c2] 156);obtain⟨W3,hW3,hb3,k3⟩:=enew W2 (.cells #[.bool false,.slice none 0 0] 156);have k13:=(hb3.block _ (gsl ((hb2.block _ (gsl k1)).trans k1))).trans ((hb2.block _ (gsl k1)).trans k1);have k23:=(hb3.block _ (gsl k2)).trans k2;have hle3:Le w W3:=(hb1.trans (hb2.mono hb1.size)).trans (hb3.mono (hb1.trans (hb2.mono hb1.size)).size);obtain⟨sa,hsa⟩:∃s,decide (a<0)=s:=⟨_,rfl⟩;obtain⟨sb,hsb⟩:∃s,decide (b<0)=s:=⟨_,rfl⟩;rw[hsa]at k13 hW1 ⊢;rw[hsb]at k23 hW2 ⊢;obtain⟨x0,hx0⟩:∃x,w.heap.size=x:=⟨_,rfl⟩;obtain⟨x1,hx1⟩:∃x,W1.heap.size=x:=⟨_,rfl⟩;obtain⟨x2,hx2⟩:∃x,W2.heap.size=x:=⟨_,rfl⟩;have hx02:w.heap.size≤x2:=by have:=hb1.size;have:=hb2.size;omega
 rw[hx0]at k13;rw[hx1]at k23;rw[hx2]at k3;have p0:W3.cell? ⟨x0,0,none⟩=some (.bool sa):=cell_of_row W3 x0 0 _ _ _ k13;have p1:W3.cell? ⟨x0,1,none⟩=some (.slice A1 n1 c1):=cell_of_row W3 x0 1 _ _ _ k13;have q0:W3.cell? ⟨x1,0,none⟩=some (.bool sb):=cell_of_row W3 x1 0 _ _ _ k23;have q1:W3.cell? ⟨x1,1,none⟩=some (.slice A2 n2 c2):=cell_of_row W3 x1 1 _ _ _ k23;have kt:=qB8 (fun _=>True) a.natAbs b.natAbs _ _ W3 (Up.any _) (hna.le hle3) (hnb.le hle3) hma hmb;rw[←Int.natAbs_mul]at kt
 have hsgn:decide (a*b<0)=((sa != sb)&&decide (0<(dg (a*b).natAbs).length)):=by
  have h1:(0<(dg (a*b).natAbs).length)↔a*b≠0:=by rw[dg_length_pos];omega
  rw[←hsa,←hsb,Bool.eq_iff_iff];simp only[decide_eq_true_eq,Bool.and_eq_true,bne_iff_ne,ne_eq,h1]
  rcases Int.lt_trichotomy a 0 with ha|ha|ha<;>rcases Int.lt_trichotomy b 0 with hb|hb|hb
  all_goals
   first
   | (subst ha;simp)
   | (subst hb;simp)
   | (have:=Int.mul_pos_of_neg_of_neg ha hb;constructor<;>intro h<;>(first |omega| (obtain⟨h2,h3⟩:=h;exact absurd (by rw[decide_eq_true ha,decide_eq_true hb]) h2)))
   | (have:=Int.mul_neg_of_neg_of_pos ha hb;refine⟨fun _=>⟨?_,by omega⟩,fun _=>this⟩;rw[decide_eq_true ha,decide_eq_false (by omega)];decide)
   | (have:=Int.mul_neg_of_pos_of_neg ha hb;refine⟨fun _=>⟨?_,by omega⟩,fun _=>this⟩;rw[decide_eq_true hb,decide_eq_false (by omega)];decide)
   | (have:=Int.mul_pos ha hb;constructor<;>intro h<;>(first |omega| (obtain⟨h2,h3⟩:=h;exact absurd (by rw[decide_eq_false (by omega),decide_eq_false (by omega)]) h2)))
 obtain⟨z,hz⟩:∃z,a*b=z:=⟨_,rfl⟩;rw[hz]at kt hsgn ⊢;have⟨hna',hnb',hb1',hb2',hb3',k1',k2',k3'⟩:=hyd8 hna hnb hb1 hb2 hb3 k1 k2 k3;have⟨k13',k23',hle3',kt',hsgn',hz',hsa',hsb'⟩:=hyd8 k13 k23 hle3 kt hsgn hz hsa hsb;clear hsb hsa hz hsgn kt hle3 k23 k13 k3 k2 k1 hb3 hb2 hb1 hnb hna;go_enter Tryz.func143,Tryz.ntmps143;go_wp2_with (fail);clear hW1 hW2 hW3;go_at_call 116;refine kt'.out.mono ?_;rintro e W4 ⟨v4,rfl,hle4,hn4⟩;obtain⟨A4,c4,rfl⟩:=hn4.slice;have hn9:=hn4;obtain⟨P,hP⟩:∃P,(dg z.natAbs).length =P:=⟨_,rfl⟩;rw[hP]at hn9 ⊢;have hs2:=hsgn'.out;rw[hP]at hs2;have k14:=(hle4.block _ (gsl k13'.out)).trans k13'.out;have k24:=(hle4.block _ (gsl k23'.out)).trans k23'.out;have k34:=(hle4.block _ (gsl k3'.out)).trans k3'.out;have hle04:Le w W4:=(show Le w W3 from hle3'.out).trans hle4;have p0:W4.cell? ⟨x0,0,none⟩=some (.bool sa):=cell_of_row W4 x0 0 _ _ _ k14;have q0:W4.cell? ⟨x1,0,none⟩=some (.bool sb):=cell_of_row W4 x1 0 _ _ _ k24;have r0:W4.cell? ⟨x2,0,none⟩=some (.bool false):=cell_of_row W4 x2 0 _ _ _ k34;have r1:W4.cell? ⟨x2,1,none⟩=some (.slice none 0 0):=cell_of_row W4 x2 1 _ _ _ k34;have⟨f0,f1⟩:=frz2 k34;have hfin:=fun b h=>qCn (b:=b) (z:=z) hle04 hx02 k34 (qAV _) (qAK _ _ _) hn9 h;have same:∀(s:Bool),decide (z<0)=((s != s)&&decide (0<P))→(false:Bool)=decide (z<0):=fun s h=>by rw[h];cases s<;>rfl
 have other:∀(s t:Bool),(s != t)=true→decide (z<0)=((s != t)&&decide (0<P))→decide (0<P)=decide (z<0):=fun s t h1 h=>by rw[h,h1,Bool.true_and]
 cases sa<;>cases sb
 ·obtain⟨g1,g2,d0,d1⟩:=hfin false (same _ hs2);have⟨hle4',hn4',hn9',hP',hs2',k14',k24',k34'⟩:=hyd8 hle4 hn4 hn9 hP hs2 k14 k24 k34;have⟨hle04',hfin',g1',g2',d0',d1',same',other'⟩:=hyd8 hle04 hfin g1 g2 d0 d1 same other;clear other same d1 d0 g2 g1 hfin hle04 k34 k24 k14 hs2 hP hn9 hn4 hle4;go_wp2;have d0:=d0'.out;have d1:=d1'.out;exact bodyPost_ret (v:= .agg #[.bool false,.slice A4 P c4]) (by simp[results,Tryz.results143,go_sem,d0,d1]) rfl ⟨_,rfl,g1'.out,g2'.out⟩
 ·obtain⟨g1,g2,d0,d1⟩:=hfin (decide (0<P)) (other _ _ rfl hs2);have⟨hle4',hn4',hn9',hP',hs2',k14',k24',k34'⟩:=hyd8 hle4 hn4 hn9 hP hs2 k14 k24 k34;have⟨hle04',hfin',g1',g2',d0',d1',same',other'⟩:=hyd8 hle04 hfin g1 g2 d0 d1 same other;clear other same d1 d0 g2 g1 hfin hle04 k34 k24 k14 hs2 hP hn9 hn4 hle4;go_wp2;have d0:=d0'.out;have d1:=d1'.out;exact bodyPost_ret (v:= .agg #[.bool (decide (0<P)),.slice A4 P c4]) (by simp[results,Tryz.results143,go_sem,d0,d1]) rfl ⟨_,rfl,g1'.out,g2'.out⟩
 ·obtain⟨g1,g2,d0,d1⟩:=hfin (decide (0<P)) (other _ _ rfl hs2);have⟨hle4',hn4',hn9',hP',hs2',k14',k24',k34'⟩:=hyd8 hle4 hn4 hn9 hP hs2 k14 k24 k34;have⟨hle04',hfin',g1',g2',d0',d1',same',other'⟩:=hyd8 hle04 hfin g1 g2 d0 d1 same other;clear other same d1 d0 g2 g1 hfin hle04 k34 k24 k14 hs2 hP hn9 hn4 hle4;go_wp2;have d0:=d0'.out;have d1:=d1'.out;exact bodyPost_ret (v:= .agg #[.bool (decide (0<P)),.slice A4 P c4]) (by simp[results,Tryz.results143,go_sem,d0,d1]) rfl ⟨_,rfl,g1'.out,g2'.out⟩
 ·obtain⟨g1,g2,d0,d1⟩:=hfin false (same _ hs2);have⟨hle4',hn4',hn9',hP',hs2',k14',k24',k34'⟩:=hyd8 hle4 hn4 hn9 hP hs2 k14 k24 k34;have⟨hle04',hfin',g1',g2',d0',d1',same',other'⟩:=hyd8 hle04 hfin g1 g2 d0 d1 same other;clear other same d1 d0 g2 g1 hfin hle04 k34 k24 k14 hs2 hP hn9 hn4 hle4;go_wp2;have d0:=d0'.out;have d1:=d1'.out;exact bodyPost_ret (v:= .agg #[.bool false,.slice A4 P c4]) (by simp[results,Tryz.results143,go_sem,d0,d1]) rfl ⟨_,rfl,g1'.out,g2'.out⟩
def MPred.bn (b:Bool) (n:Nat):MPred:=⟨fun v w=>∃A m c,v= .agg #[.bool b,.slice A m c]∧NumL (fun _=>True) .u32 w (.slice A m c) n,fun _ _ _ hb ⟨A,m,c,e,h⟩=>⟨A,m,c,e,h.le hb⟩⟩
theorem qI5 (a b:Int) (va vb:Value) (w:World) (ha:IntL w va a) (hb:IntL w vb b) (hma:Isz a 90000000) (hmb:Isz b 90000000):
  Calls Tryz.prog 144 #[va,vb] w fun e w'=>∃v',e= .returned v'∧Le w w'∧IntL w' v' (a - b):=by
 obtain⟨A1,n1,c1,rfl,hna⟩:=ha;obtain⟨A2,n2,c2,rfl,hnb⟩:=hb;obtain⟨W1,hW1,hb1,k1⟩:=enew w (.cells #[.bool (decide (a<0)),.slice A1 n1 c1] 156);obtain⟨W2,hW2,hb2,k2⟩:=enew W1 (.cells #[.bool (decide (b<0)),.slice A2 n2 c2] 156);obtain⟨W3,hW3,hb3,k3⟩:=enew W2 (.cells #[.bool false,.slice none 0 0] 156);have k13:=(hb3.block _ (gsl ((hb2.block _ (gsl k1)).trans k1))).trans ((hb2.block _ (gsl k1)).trans k1);have k23:=(hb3.block _ (gsl k2)).trans k2;have hle3:Le w W3:=(hb1.trans (hb2.mono hb1.size)).trans (hb3.mono (hb1.trans (hb2.mono hb1.size)).size);obtain⟨sa,hsa⟩:∃s,decide (a<0)=s:=⟨_,rfl⟩;obtain⟨sb,hsb⟩:∃s,decide (b<0)=s:=⟨_,rfl⟩;rw[hsa]at k13 hW1 ⊢;rw[hsb]at k23 hW2 ⊢;obtain⟨x0,hx0⟩:∃x,w.heap.size=x:=⟨_,rfl⟩;obtain⟨x1,hx1⟩:∃x,W1.heap.size=x:=⟨_,rfl⟩;obtain⟨x2,hx2⟩:∃x,W2.heap.size=x:=⟨_,rfl⟩;have hx02:w.heap.size≤x2:=by have:=hb1.size;have:=hb2.size;omega
 rw[hx0]at k13;rw[hx1]at k23;rw[hx2]at k3;have hn1:n1=(dg a.natAbs).length :=hna.len;have hn2:n2=(dg b.natAbs).length :=hnb.len;have hz1:(0<n1)↔a.natAbs≠0:=by rw[hn1,dg_length_pos]
 have p0:W3.cell? ⟨x0,0,none⟩=some (.bool sa):=cell_of_row W3 x0 0 _ _ _ k13;have p1:W3.cell? ⟨x0,1,none⟩=some (.slice A1 n1 c1):=cell_of_row W3 x0 1 _ _ _ k13;have q0:W3.cell? ⟨x1,0,none⟩=some (.bool sb):=cell_of_row W3 x1 0 _ _ _ k23;have q1:W3.cell? ⟨x1,1,none⟩=some (.slice A2 n2 c2):=cell_of_row W3 x1 1 _ _ _ k23;have hna3:=hna.le hle3;have hnb3:=hnb.le hle3;obtain⟨z,hz⟩:∃z,a - b=z:=⟨_,rfl⟩;rw[hz]
 by_cases hne:sa=sb
 ·subst hne;have hsame:(a<0)↔(b<0):=by rw[←decide_eq_decide,hsa,hsb]
  have kc:=qBL (fun _=>True) a.natAbs b.natAbs _ _ W3 hna3 hnb3 (Nat.le_trans hma (by decide)) (Nat.le_trans hmb (by decide));have⟨hna',hnb',hb1',hb2',hb3',k1',k2',k3'⟩:=hyd8 hna hnb hb1 hb2 hb3 k1 k2 k3;have⟨k13',k23',hle3',kc',hz',hsb',hn1',hn2'⟩:=hyd8 k13 k23 hle3 kc hz hsb hn1 hn2;have⟨hz1',hna3',hnb3',hsame'⟩:=hyd4 hz1 hna3 hnb3 hsame;clear hsame hnb3 hna3 hz1 hn2 hn1 hsb hz kc hle3 k23 k13 k3 k2 k1 hb3 hb2 hb1 hnb hna;have hsa':=hyd1 hsa;clear hsa;go_enter Tryz.func144,Tryz.ntmps144;go_wp2_with (fail);clear hW1 hW2 hW3;go_at_call 67;refine kc'.out.mono ?_;rintro e W4 ⟨c,rfl,hle4,hc1,-⟩;have k14:=(hle4.block _ (gsl k13'.out)).trans k13'.out;have k24:=(hle4.block _ (gsl k23'.out)).trans k23'.out;have k34:=(hle4.block _ (gsl k3'.out)).trans k3'.out;have hle04:Le w W4:=(show Le w W3 from hle3'.out).trans hle4;have hna4:=hna3'.out.le hle4;have hnb4:=hnb3'.out.le hle4;have p0:W4.cell? ⟨x0,0,none⟩=some (.bool sa):=cell_of_row W4 x0 0 _ _ _ k14;have p1:W4.cell? ⟨x0,1,none⟩=some (.slice A1 n1 c1):=cell_of_row W4 x0 1 _ _ _ k14;have q0:W4.cell? ⟨x1,0,none⟩=some (.bool sa):=cell_of_row W4 x1 0 _ _ _ k24;have q1:W4.cell? ⟨x1,1,none⟩=some (.slice A2 n2 c2):=cell_of_row W4 x1 1 _ _ _ k24;have l1:=gsl k14;have l2:=gsl k24;have l3:=gsl k34
  by_cases hlt:a.natAbs<b.natAbs
  ·have hc:c<0:=hc1.2 hlt;have hnat:z.natAbs=b.natAbs - a.natAbs:=by have:=hz'.out;have:=hsame'.out;omega
   have hsz:(!sa)=decide (z<0):=by
    have h1:=hsame'.out;have h2:=hz'.out;have h3:=hsa'.out
    cases sa with
    | true=>
     have:a<0:=of_decide_eq_true h3;have:¬z<0:=by omega
     rw[decide_eq_false this];rfl
    | false=>
     have:¬a<0:=of_decide_eq_false h3;have:z<0:=by omega
     rw[decide_eq_true this];rfl
   obtain⟨B,hB⟩:∃n,b.natAbs=n:=⟨_,rfl⟩;obtain⟨A,hA⟩:∃n,a.natAbs=n:=⟨_,rfl⟩;rw[hA]at hna4 hnat hlt;rw[hB]at hnb4 hnat hlt;have hBm:(dg B).length ≤100000000:=by rw[←hB];exact Nat.le_trans hmb (by decide)
   have⟨hle4',hc1',k14',k24',k34',hle04',hna4',hnb4'⟩:=hyd8 hle4 hc1 k14 k24 k34 hle04 hna4 hnb4;have⟨hnat',hsz',hA',hB',hlt'⟩:=hyd5 hnat hsz hA hB hlt;clear hlt hB hA hsz hnat hnb4 hna4 hle04 k34 k24 k14 hc1 hle4;go_wp2_with (fail);have⟨p0',p1',q0',q1'⟩:=hyd4 p0 p1 q0 q1;clear q1 q0 p1 p0;refine qAM (R:=leRel) 9 [some 45,some 46,some 47,some 48,some 49,some 50,some 51,some 52,some 53,none] [[],[0],[1],[],[3],[],[5],[4,6],[2,7],[8]]
    [.eq (.pointer (some ⟨x0,0,none⟩)),.eq (.bool sa),.eq (.bool (!sa)),.eq (.pointer (some ⟨x1,1,none⟩)),.eq (.slice A2 n2 c2),.eq (.pointer (some ⟨x0,1,none⟩)),.eq (.slice A1 n1 c1),MPred.num (fun _=>True) .u32 (B - A),MPred.bn (!sa) (B - A)] (fun _ _=>False) (by kernel_rfl) (by kernel_rfl) (by kernel_rfl) (by kernel_rfl) (by kernel_rfl) ?_ (fun _ _ _ _ h=>h.elim) ?_
   ·simp only[List.take_succ_cons,List.take_zero];refine sMc rfl ?_ (sMc rfl ?_ (sMc rfl ?_ (sMc rfl ?_ (sMc rfl ?_ (sMc rfl ?_ (sMc rfl ?_ (sMc rfl ?_ (sMc rfl ?_ (qAR)))))))))
    ·intro xv W hR hf Q hK hP;simp only[fA]at hK ⊢;go_wp2;exact hK _ _ lrR rfl
    ·intro xv W hR hf Q hK hP;obtain⟨e0,-⟩:=hf;change _=_ at e0;have t0:=(Below.cell hR (p:=⟨x0,0,none⟩) l1).trans p0'.out;simp only[fA,e0]at hK ⊢;go_wp2;exact hK _ _ lrR rfl
    ·intro xv W hR hf Q hK hP;obtain⟨e0,-⟩:=hf;change _=_ at e0;simp only[fA,e0]at hK ⊢;go_wp2;exact hK _ _ lrR rfl
    ·intro xv W hR hf Q hK hP;simp only[fA]at hK ⊢;go_wp2;exact hK _ _ lrR rfl
    ·intro xv W hR hf Q hK hP;obtain⟨e0,-⟩:=hf;change _=_ at e0;have t0:=(Below.cell hR (p:=⟨x1,1,none⟩) l2).trans q1'.out;simp only[fA,e0]at hK ⊢;go_wp2;exact hK _ _ lrR rfl
    ·intro xv W hR hf Q hK hP;simp only[fA]at hK ⊢;go_wp2;exact hK _ _ lrR rfl
    ·intro xv W hR hf Q hK hP;obtain⟨e0,-⟩:=hf;change _=_ at e0;have t0:=(Below.cell hR (p:=⟨x0,1,none⟩) l1).trans p1'.out;simp only[fA,e0]at hK ⊢;go_wp2;exact hK _ _ lrR rfl
    ·intro xv W hR hf Q hK hP;obtain⟨e0,e1,-⟩:=hf;change _=_ at e0 e1;simp only[fA,e0,e1]at hK ⊢;have kc:=qFK (fun _=>True) B A _ _ W (Up.any _) (hnb4'.out.le hR) (hna4'.out.le hR) (Nat.le_of_lt hlt'.out) hBm;have kc':=hyd1 kc;clear kc;go_wp2_with (fail);go_at_call 117;refine kc'.out.mono ?_;rintro e w' ⟨v',rfl,y1,y2⟩;have⟨y1',y2'⟩:=hyd2 y1 y2;clear y2 y1;go_wp2;exact hK _ _ y1'.out y2'.out
    ·intro xv W hR hf Q hK hP;obtain⟨e0,e1,-⟩:=hf;change _=_ at e0;replace e1:NumL (fun _=>True) .u32 W (xv 7) (B - A):=e1;have e9:=e1;obtain⟨A9,c9,q9⟩:=e1.slice;rw[q9]at e9;simp only[fA,e0,q9]at hK ⊢;have e9':=hyd1 e9;clear e9;go_wp2;exact hK _ _ lrR ⟨_,_,_,rfl,e9'.out⟩
   intro xv W hR hf Q' hQ1 _;obtain⟨A3,m3,c3,qv,f8⟩:=hf 8 (by decide);simp only[List.drop_succ_cons,List.drop_zero];rw[show List.range 9=[0,1,2,3,4,5,6,7,8]from rfl];simp only[fA,qv];clear hf;clear qv;have k35:=(hR.block _ l3).trans k34'.out;have t0:W.cell? ⟨x2,0,none⟩=some (.bool false):=cell_of_row W x2 0 _ _ _ k35;have t1:W.cell? ⟨x2,1,none⟩=some (.slice none 0 0):=cell_of_row W x2 1 _ _ _ k35;have⟨w0,w1⟩:=frz2 k35;have⟨f8',hR',k35'⟩:=hyd3 f8 hR k35;clear k35 hR f8;go_wp2;refine hQ1 _ _ ?_;clear hQ1 t0 t1 w0 w1;have f8:=f8'.out;have hR:=hR'.out;clear f8' hR' k35';have hle5:Le w W:=(show Le w W4 from hle04'.out).trans hR;have k35:=(hR.block _ l3).trans k34'.out;have hnz:NumL (fun _=>True) .u32 W (.slice A3 m3 c3) z.natAbs:=by rw[hnat'.out];exact f8
   obtain⟨g1,g2,d0,d1⟩:=qCn (b:= !sa) (z:=z) hle5 hx02 k35 (qAV _) (qAK _ _ _) hnz hsz'.out;have⟨hR',hle5',k35',hnz',g1',g2'⟩:=hyd6 hR hle5 k35 hnz g1 g2;clear g2 g1 hnz k35 hle5 hR;go_wp2;exact bodyPost_ret (v:= .agg #[.bool (!sa),.slice A3 m3 c3]) (by simp[results,Tryz.results144,go_sem,d0,d1]) rfl ⟨_,rfl,g1'.out,g2'.out⟩
  ·have hc:¬c<0:=fun h=>hlt (hc1.1 h);have hnat:z.natAbs=a.natAbs - b.natAbs:=by have:=hz'.out;have:=hsame'.out;omega
   have km:=qFK (fun _=>True) a.natAbs b.natAbs _ _ W4 (Up.any _) hna4 hnb4 (by omega) (Nat.le_trans hma (by decide));rw[←hnat]at km;have hdc:decide (c<0)=false:=decide_eq_false hc;have⟨hle4',hc1',k14',k24',k34',hle04',hna4',hnb4'⟩:=hyd8 hle4 hc1 k14 k24 k34 hle04 hna4 hnb4;have⟨hnat',km',hlt'⟩:=hyd3 hnat km hlt;clear hlt km hnat hnb4 hna4 hle04 k34 k24 k14 hc1 hle4;go_wp2_with (fail);clear p0 p1 q0 q1;go_at_call 117;refine km'.out.mono ?_;rintro e W5 ⟨v5,rfl,hle5,hn5⟩;obtain⟨A5,c5,rfl⟩:=hn5.slice;have hn9:=hn5;obtain⟨P,hP⟩:∃P,(dg z.natAbs).length =P:=⟨_,rfl⟩;rw[hP]at hn9 ⊢;have hP1:(0<P)↔z≠0:=by rw[←hP,dg_length_pos];omega
   have k15:=(hle5.block _ (gsl k14'.out)).trans k14'.out;have k35:=(hle5.block _ (gsl k34'.out)).trans k34'.out;have hle05:Le w W5:=(show Le w W4 from hle04'.out).trans hle5;have p0:W5.cell? ⟨x0,0,none⟩=some (.bool sa):=cell_of_row W5 x0 0 _ _ _ k15;have r0:W5.cell? ⟨x2,0,none⟩=some (.bool false):=cell_of_row W5 x2 0 _ _ _ k35;have r1:W5.cell? ⟨x2,1,none⟩=some (.slice none 0 0):=cell_of_row W5 x2 1 _ _ _ k35;have⟨f0,f1⟩:=frz2 k35;have hfin:=fun b h=>qCn (b:=b) (z:=z) hle05 hx02 k35 (qAV _) (qAK _ _ _) hn9 h;have h1:=hsame'.out;have h2:=hz'.out;have h3:=hsa'.out;have h4:=hlt'.out
   cases sa with
   | true=>
    have h5:a<0:=of_decide_eq_true h3;obtain⟨g1,g2,d0,d1⟩:=hfin (decide (0<P)) (decide_eq_decide.2 (by rw[hP1];omega));have⟨hle5',hn5',hn9',hP',hP1',k15',k35',hle05'⟩:=hyd8 hle5 hn5 hn9 hP hP1 k15 k35 hle05;have⟨hfin',g1',g2',d0',d1'⟩:=hyd5 hfin g1 g2 d0 d1;clear d1 d0 g2 g1 hfin hle05 k35 k15 hP1 hP hn9 hn5 hle5;clear h1 h2 h3 h4 h5;go_wp2;have d0:=d0'.out;have d1:=d1'.out;exact bodyPost_ret (v:= .agg #[.bool (decide (0<P)),.slice A5 P c5]) (by simp[results,Tryz.results144,go_sem,d0,d1]) rfl ⟨_,rfl,g1'.out,g2'.out⟩
   | false=>
    have h5:¬a<0:=of_decide_eq_false h3;obtain⟨g1,g2,d0,d1⟩:=hfin false (by rw[decide_eq_false (by omega)]);have⟨hle5',hn5',hn9',hP',hP1',k15',k35',hle05'⟩:=hyd8 hle5 hn5 hn9 hP hP1 k15 k35 hle05;have⟨hfin',g1',g2',d0',d1'⟩:=hyd5 hfin g1 g2 d0 d1;clear d1 d0 g2 g1 hfin hle05 k35 k15 hP1 hP hn9 hn5 hle5;clear h1 h2 h3 h4 h5;go_wp2;have d0:=d0'.out;have d1:=d1'.out;exact bodyPost_ret (v:= .agg #[.bool false,.slice A5 P c5]) (by simp[results,Tryz.results144,go_sem,d0,d1]) rfl ⟨_,rfl,g1'.out,g2'.out⟩
 ·have hsame:(a<0)↔¬(b<0):=by
   rw[←decide_eq_true_iff (p:=a<0),←decide_eq_true_iff (p:=b<0),hsa,hsb]
   cases sa<;>cases sb<;>simp at hne ⊢
  have hnat:z.natAbs=a.natAbs+b.natAbs:=by omega
  have kp:=qGI (fun _=>True) a.natAbs b.natAbs _ _ W3 (Up.any _) hna3 hnb3 (Nat.le_trans hma (by decide)) (Nat.le_trans hmb (by decide));rw[←hnat]at kp;have hbne:(sa != sb)=true:=by simpa using hne
  have⟨hna',hnb',hb1',hb2',hb3',k1',k2',k3'⟩:=hyd8 hna hnb hb1 hb2 hb3 k1 k2 k3;have⟨k13',k23',hle3',kp',hz',hsb',hn1',hn2'⟩:=hyd8 k13 k23 hle3 kp hz hsb hn1 hn2;have⟨hz1',hna3',hnb3',hsame',hnat'⟩:=hyd5 hz1 hna3 hnb3 hsame hnat;clear hnat hsame hnb3 hna3 hz1 hn2 hn1 hsb hz kp hle3 k23 k13 k3 k2 k1 hb3 hb2 hb1 hnb hna;have hsa':=hyd1 hsa;clear hsa
  cases sa with
  | true=>
   obtain rfl:sb=false:=by cases sb<;>simp at hbne ⊢
   go_enter Tryz.func144,Tryz.ntmps144;go_wp2_with (fail);clear hW1 hW2 hW3;go_at_call 66;refine kp'.out.mono ?_;rintro e W5 ⟨v5,rfl,hle5,hn5⟩;obtain⟨A5,c5,rfl⟩:=hn5.slice;have hn9:=hn5;obtain⟨P,hP⟩:∃P,(dg z.natAbs).length =P:=⟨_,rfl⟩;rw[hP]at hn9 ⊢;have hP1:(0<P)↔z≠0:=by rw[←hP,dg_length_pos];omega
   have k15:=(hle5.block _ (gsl k13'.out)).trans k13'.out;have k25:=(hle5.block _ (gsl k23'.out)).trans k23'.out;have k35:=(hle5.block _ (gsl k3'.out)).trans k3'.out;have hle05:Le w W5:=(show Le w W3 from hle3'.out).trans hle5;have p0:W5.cell? ⟨x0,0,none⟩=some (.bool true):=cell_of_row W5 x0 0 _ _ _ k15;have p1:W5.cell? ⟨x0,1,none⟩=some (.slice A1 n1 c1):=cell_of_row W5 x0 1 _ _ _ k15;have q0:W5.cell? ⟨x1,0,none⟩=some (.bool false):=cell_of_row W5 x1 0 _ _ _ k25;have r0:W5.cell? ⟨x2,0,none⟩=some (.bool false):=cell_of_row W5 x2 0 _ _ _ k35;have r1:W5.cell? ⟨x2,1,none⟩=some (.slice none 0 0):=cell_of_row W5 x2 1 _ _ _ k35;have⟨f0,f1⟩:=frz2 k35;have hfin:=fun b h=>qCn (b:=b) (z:=z) hle05 hx02 k35 (qAV _) (qAK _ _ _) hn9 h;have h1:=hsame'.out;have h2:=hz'.out;have h3:=hsa'.out;have h4:=hsb'.out;have h5:a<0:=of_decide_eq_true h3;obtain⟨g1,g2,d0,d1⟩:=hfin (decide (0<P)) (decide_eq_decide.2 (by rw[hP1];omega));have⟨hle5',hn5',hn9',hP',hP1',k15',k25',k35'⟩:=hyd8 hle5 hn5 hn9 hP hP1 k15 k25 k35;have⟨hle05',hfin',g1',g2',d0',d1'⟩:=hyd6 hle05 hfin g1 g2 d0 d1;clear d1 d0 g2 g1 hfin hle05 k35 k25 k15 hP1 hP hn9 hn5 hle5;clear h1 h2 h3 h4 h5;go_wp2;have d0:=d0'.out;have d1:=d1'.out;exact bodyPost_ret (v:= .agg #[.bool (decide (0<P)),.slice A5 P c5]) (by simp[results,Tryz.results144,go_sem,d0,d1]) rfl ⟨_,rfl,g1'.out,g2'.out⟩
  | false=>
   obtain rfl:sb=true:=by cases sb<;>simp at hbne ⊢
   go_enter Tryz.func144,Tryz.ntmps144;go_wp2_with (fail);clear hW1 hW2 hW3;go_at_call 66;refine kp'.out.mono ?_;rintro e W5 ⟨v5,rfl,hle5,hn5⟩;obtain⟨A5,c5,rfl⟩:=hn5.slice;have hn9:=hn5;obtain⟨P,hP⟩:∃P,(dg z.natAbs).length =P:=⟨_,rfl⟩;rw[hP]at hn9 ⊢;have hP1:(0<P)↔z≠0:=by rw[←hP,dg_length_pos];omega
   have k15:=(hle5.block _ (gsl k13'.out)).trans k13'.out;have k25:=(hle5.block _ (gsl k23'.out)).trans k23'.out;have k35:=(hle5.block _ (gsl k3'.out)).trans k3'.out;have hle05:Le w W5:=(show Le w W3 from hle3'.out).trans hle5;have p0:W5.cell? ⟨x0,0,none⟩=some (.bool false):=cell_of_row W5 x0 0 _ _ _ k15;have p1:W5.cell? ⟨x0,1,none⟩=some (.slice A1 n1 c1):=cell_of_row W5 x0 1 _ _ _ k15;have q0:W5.cell? ⟨x1,0,none⟩=some (.bool true):=cell_of_row W5 x1 0 _ _ _ k25;have r0:W5.cell? ⟨x2,0,none⟩=some (.bool false):=cell_of_row W5 x2 0 _ _ _ k35;have r1:W5.cell? ⟨x2,1,none⟩=some (.slice none 0 0):=cell_of_row W5 x2 1 _ _ _ k35;have⟨f0,f1⟩:=frz2 k35;have hfin:=fun b h=>qCn (b:=b) (z:=z) hle05 hx02 k35 (qAV _) (qAK _ _ _) hn9 h;have h1:=hsame'.out;have h2:=hz'.out;have h3:=hsa'.out;have h4:=hsb'.out;have h5:¬a<0:=of_decide_eq_false h3;obtain⟨g1,g2,d0,d1⟩:=hfin false (by rw[decide_eq_false (by omega)]);have⟨hle5',hn5',hn9',hP',hP1',k15',k25',k35'⟩:=hyd8 hle5 hn5 hn9 hP hP1 k15 k25 k35;have⟨hle05',hfin',g1',g2',d0',d1'⟩:=hyd6 hle05 hfin g1 g2 d0 d1;clear d1 d0 g2 g1 hfin hle05 k35 k25 k15 hP1 hP hn9 hn5 hle5;clear h1 h2 h3 h4 h5
   by_cases hn0:n1=0
   ·subst hn0;go_wp2;have d0:=d0'.out;have d1:=d1'.out;exact bodyPost_ret (v:= .agg #[.bool false,.slice A5 P c5]) (by simp[results,Tryz.results144,go_sem,d0,d1]) rfl ⟨_,rfl,g1'.out,g2'.out⟩
   ·have j1:((n1:Int)==0)=false:=by simpa using hn0
    go_wp2;have d0:=d0'.out;have d1:=d1'.out;exact bodyPost_ret (v:= .agg #[.bool false,.slice A5 P c5]) (by simp[results,Tryz.results144,go_sem,d0,d1]) rfl ⟨_,rfl,g1'.out,g2'.out⟩
end Go.Proofs.YtenjpccpldajoaaGreatDoor

/- Paths: a list of arms (nine cells each: how often it turns, and four whole numbers) that came in. Paths: the values of their arms; motion's iterator over arms; .. -/
import Derived.Test.YtbcbcdgbliheoaaGreatPk44
import Derived.Test.YtbcbcdgbliheoaaGreatPk05
import Derived.Test.YtbcbcdgbliheoaaGreatPk48
import Derived.Deep.Slices
import Derived.Deep.DrawnRows
namespace Go.Proofs.YtbcbcdgbliheoaaGreat
set_option maxRecDepth 100000
set_option maxHeartbeats 4000000
open Go.RowKit Go.ChangeShapes Go.WideShapes Go.Deep
set_option linter.unusedVariables false
structure ArmA where
 k:Int
 c:FracA×FracA
instance:Inhabited ArmA:=⟨⟨0,⟨false,[],false,[]⟩,⟨false,[],false,[]⟩⟩⟩
def ArmAt (w:World) (b o:Nat) (a:ArmA):Prop:=
 ∃A1 c1 B1 d1 A2 c2 B2 d2,w.cell? ⟨b,o,none⟩=some (.int .i64 a.k)/\w.cell? ⟨b,o+1,none⟩=some (.bool a.c.1.sn)/\w.cell? ⟨b,o+2,none⟩=some (.slice A1 a.c.1.gn.length c1)/\w.cell? ⟨b,o+3,none⟩=some (.bool a.c.1.sd)/\w.cell? ⟨b,o+4,none⟩=some (.slice B1 a.c.1.gd.length d1)∧
  w.cell? ⟨b,o+5,none⟩=some (.bool a.c.2.sn)/\w.cell? ⟨b,o+6,none⟩=some (.slice A2 a.c.2.gn.length c2)/\w.cell? ⟨b,o+7,none⟩=some (.bool a.c.2.sd)/\w.cell? ⟨b,o+8,none⟩=some (.slice B2 a.c.2.gd.length d2)∧
  IsFracA (λ_=>True) w (.agg #[.bool a.c.1.sn,.slice A1 a.c.1.gn.length c1,.bool a.c.1.sd,.slice B1 a.c.1.gd.length d1]) a.c.1/\IsFracA (λ_=>True) w (.agg #[.bool a.c.2.sn,.slice A2 a.c.2.gn.length c2,.bool a.c.2.sd,.slice B2 a.c.2.gd.length d2]) a.c.2
def ArmsL (w:World) (v:Value) (l:List ArmA):Prop:=
 ∃A c,v= .slice A l.length c/\l.length<=c/\c<=maxLen/\(A=none->c=0)/\(∀a∈l,-9223372036854775808<=a.k/\a.k<=9223372036854775807)∧
  (0<l.length->∃b off,A=some ⟨b,off,none⟩/\b<w.heap.size/\∀j (h:j<l.length),ArmAt w b (off+9*j) l[j])
theorem ArmAt.le {w W:World} {b o:Nat} {a:ArmA} (h:ArmAt w b o a) (hb:b<w.heap.size) (hle:Le w W):ArmAt W b o a:=by
 obtain⟨c,j,f,l,d,k,g,m,q,r,s,t,x,y,z,A,B,D,E⟩:=h;have up:∀{i:Nat} {v:Value},w.cell? ⟨b,i,none⟩=some v->W.cell? ⟨b,i,none⟩=some v:=λC=>(Below.cell hle (p:=⟨b,_,none⟩) hb).trans C;exact⟨c,j,f,l,d,k,g,m,up q,up r,up s,up t,up x,up y,up z,up A,up B,D.le hle,E.le hle⟩
theorem ArmsL.le {w W:World} {v:Value} {l:List ArmA} (h:ArmsL w v l) (hle:Le w W):ArmsL W v l:=by
 obtain⟨A,c,t,i,k,m,o,p⟩:=h;refine⟨A,c,t,i,k,m,o,λg=>?_⟩;obtain⟨b,d,q,f,r⟩:=p g;exact⟨b,d,q,Nat.lt_of_lt_of_le f hle.size,λj s=>(r j s).le f hle⟩
section
variable {H:Type} {enc:TypeId×Value->H} {w:World} {n:Nat}
end
end Go.Proofs.YtbcbcdgbliheoaaGreat
namespace Go.Proofs.YtbcbcdgbliheoaaGreat
set_option maxRecDepth 100000
set_option maxHeartbeats 4000000
open Go.RowKit Go.Shelf Go.ChangeShapes Go.WideShapes Go.Deep
set_option linter.unusedVariables false
set_option linter.unusedSimpArgs false
attribute [local go_sem] Oper.semAt_some
def ArmC (W:World) (b o:Nat) (k:Int) (t:Array Value):Prop:=
 ∃s1 A1 n1 c1 t1 B1 m1 d1 s2 A2 n2 c2 t2 B2 m2 d2,t=#[.bool s1,.slice A1 n1 c1,.bool t1,.slice B1 m1 d1,.bool s2,.slice A2 n2 c2,.bool t2,.slice B2 m2 d2]/\W.cell? ⟨b,o,none⟩=some (.int .i64 k)/\W.cell? ⟨b,o+1,none⟩=some (.bool s1)/\W.cell? ⟨b,o+2,none⟩=some (.slice A1 n1 c1)/\W.cell? ⟨b,o+3,none⟩=some (.bool t1)/\W.cell? ⟨b,o+4,none⟩=some (.slice B1 m1 d1)/\W.cell? ⟨b,o+5,none⟩=some (.bool s2)/\W.cell? ⟨b,o+6,none⟩=some (.slice A2 n2 c2)/\W.cell? ⟨b,o+7,none⟩=some (.bool t2)/\W.cell? ⟨b,o+8,none⟩=some (.slice B2 m2 d2)
theorem ArmC.same {w W:World} {b o:Nat} {k:Int} {t:Array Value} (h:ArmC w b o k t) (hs:∀i,W.cell? ⟨b,i,none⟩=w.cell? ⟨b,i,none⟩):ArmC W b o k t:=by
 obtain⟨G,c,E,j,J,f,C,m,I,d,F,l,L,g,D,p,e,q,r,s,v,x,y,z,A,B⟩:=h;exact⟨G,c,E,j,J,f,C,m,I,d,F,l,L,g,D,p,e,(hs _).trans q,(hs _).trans r,(hs _).trans s,(hs _).trans v,(hs _).trans x,(hs _).trans y,(hs _).trans z,(hs _).trans A,(hs _).trans B⟩
def qLN (w:World) (v:Value) (l:List ArmA) (tv:Nat->Array Value):Prop:=
 ∃A c,v= .slice A l.length c/\l.length<=c/\c<=maxLen/\(A=none->c=0)/\(∀a∈l,-9223372036854775808<=a.k/\a.k<=9223372036854775807)/\(∀j (h:j<l.length),IsTurnA w (.agg (tv j)) l[j].c)∧
  (0<l.length->∃b off,A=some ⟨b,off,none⟩/\b<w.heap.size/\∀j (h:j<l.length),ArmC w b (off+j*9) l[j].k (tv j))
theorem ArmsL.vals {w:World} {v:Value} {l:List ArmA} (h:ArmsL w v l):∃tv,qLN w v l tv:=by
 obtain⟨A,c,I,C,D,E,F,S⟩:=h
 by_cases B:0<l.length
 ·obtain⟨b,i,T,U,V⟩:=S B
  have g:∀j,j<l.length->∃t:Array Value,IsTurnA w (.agg t) (l.getD j default).c /\ArmC w b (i+j*9) (l.getD j default).k t:=λj d=>by
   obtain⟨J,O,M,Q,L,P,N,R,m,o,p,q,r,s,x,y,z,X,Y⟩:=V j d;have e:l.getD j default=l[j]:=by simp[List.getD_eq_getElem?_getD,List.getElem?_eq_getElem d]
   rw[e];rw[show 9*j=j*9 from Nat.mul_comm _ _]at m o p q r s x y z;exact⟨_,⟨J,O,M,Q,L,P,N,R,rfl,X,Y⟩,_,_,_,_,_,_,_,_,_,_,_,_,_,_,_,_,rfl,m,o,p,q,r,s,x,y,z⟩
  obtain⟨f,G⟩:=choose_lt g;have e:∀j (h:j<l.length),l.getD j default=l[j]:=λj d=>by simp[List.getD_eq_getElem?_getD,List.getElem?_eq_getElem d]
  exact⟨f,A,c,I,C,D,E,F,λj d=>by rw[<-e j d];exact(G j d).1,λ_=>⟨b,i,T,U,λj d=>by rw[<-e j d];exact(G j d).2⟩⟩
 ·exact⟨λ_=>#[],A,c,I,C,D,E,F,λj d=>absurd d (by omega),λh=>absurd h B⟩
theorem Kept.alloc {n₀:Nat} {Bs:List Nat} {W:World} (o:Obj) (h:n₀<=W.heap.size) (hB:∀B∈Bs,B<W.heap.size):Kept n₀ Bs W (W.alloc o):=⟨(Below.refl _ _).alloc h o,λB hb=>Below.heap_alloc _ _ _ (by have:=hB B hb;omega)⟩
def qHO (l:List ArmA) (tv:Nat->Array Value) (i:Fin l.length):Array Value:=#[.int .i64 l[i.1].k,.agg (tv i.1)]
theorem qFo (l:List ArmA) (v:Value) (tv:Nat->Array Value) (w0 w:World) (Bn n₀:Nat) (hv:qLN w0 v l tv) (hl:l.length<=1000) (hBn:Bn<w.heap.size) (hn₀:n₀<=w.heap.size) (h0:w0.heap.size<=n₀)
  (hb:Below w0.heap.size w0 w) (hc:w.cell? ⟨Bn,0,none⟩=some v):qG8 Tryz.prog 108 #[.pointer (some ⟨Bn,0,none⟩)] l.length (qHO l tv) n₀ [Bn] w:=by
 intro la J Jx W C h _ hY y;have F:=(C.cell (p:=⟨Bn,0,none⟩) hBn).trans hc;have D:Below w0.heap.size w0 W:=hb.trans (C.mono (Nat.le_trans h0 hn₀));have al:=C.size;obtain⟨A,c,rfl,ao,G,_,s,_,hr⟩:=hv;unfold maxLen at G;have⟨I,Z,j⟩:=hyd3 hr s h;clear hr s h;refine callsIn_of_wp Tryz.func108 rfl trivial ?_ rfl;simp only[Tryz.ntmps108,List.size_toArray,List.length_cons,List.length_nil,Nat.reduceAdd,Nat.reduceSub,Array.replicate_succ,Array.replicate_zero,List.push_toArray,List.append_toArray,List.nil_append,List.cons_append];gi_wp2;gi_loopw [7] (λi wr=>∃k:Nat,k<=l.length/\i= .int .i64 k/\J ((List.finRange l.length).take k) wr/\Kept n₀ [Bn] W wr/\W.heap.size<=wr.heap.size)
  (λi _=>l.length - (intOf i).toNat)
 case atStart=>exact⟨0,Nat.zero_le _,rfl,y,Kept.refl _ _ _,Nat.le_refl _⟩
 case round=>
  obtain⟨k,hk,rfl,m,g,ap⟩:=hrel
  by_cases f:k<l.length
  ·obtain⟨x,aq,rfl,E,q⟩:=I.out (by omega);obtain⟨s1,N,n1,S,t1,P,m1,U,s2,O,n2,T,t2,Q,m2,V,Y,e0,e1,e2,e3,e4,e5,e6,e7,e8⟩:=(q k f).same (W:=wr) λi=>(g.1.cell (p:=⟨x,i,none⟩) (by show x<n₀;omega)).trans (D.cell (p:=⟨x,i,none⟩) E);have an:=(g.cell (B:=Bn) (i:=0) (by simp)).trans F;obtain⟨fn,aj,t,R,L,X⟩:=hY _ ⟨k,f⟩ (wr.alloc (.cells #[.int .i64 l[k].k,.bool s1,.slice N n1 S,.bool t1,.slice P m1 U,.bool s2,.slice O n2 T,.bool t2,.slice Q m2 V] 57)) (j.out _ _ _ none m (World.grownBy_alloc _ _ _) (by simp)) (by simp;omega);dsimp only[qHO]at L;rw[Y]at L;have b:Kept n₀ [Bn] W (wr.alloc (.cells #[.int .i64 l[k].k,.bool s1,.slice N n1 S,.bool t1,.slice P m1 U,.bool s2,.slice O n2 T,.bool t2,.slice Q m2 V] 57)):=g.trans (Kept.alloc _ (by omega) (by simp;omega));generalize l[k].k =kk at e0 L X b;clear q Y;have d:=hyd1 b;clear b;gi_wp2;refine X.mono ?_;rintro e W3 (⟨rfl,z,r⟩| ⟨rfl,o⟩)
   ·have M:=r.1.size;rw[World.size_alloc]at M;gi_wp2;go_roundw
    case rel=>exact⟨k+1,by omega,by go_num,by rw[qA4 k f];exact z,d.out.trans r,by omega⟩
    case measure=>simp[intOf];omega
   ·gi_wp2;refine bodyPost_ret (results_none rfl _ _ _) rfl ?_;exact⟨⟨_,rfl⟩,.inr ⟨_,⟨_,by rw[<-qA4 k f];exact List.take_append_drop _ _⟩,o⟩⟩
  ·obtain rfl:k=l.length:=by omega
   gi_wp2;go_end0;exact⟨⟨_,rfl⟩,.inl ⟨_,List.take_of_length_le (by simp),m⟩⟩
theorem qKK (A:Option Addr) (n c:Nat) (w:World):
  Calls Tryz.prog 89 #[.slice A n c] w λe w'=>e= .returned (.func (.func 108) #[] #[.pointer (some ⟨w.heap.size,0,none⟩)])/\w.alloc (.cells #[.slice A n c] 58)=w':=by
 have b:∀(fn:Fn) (first cap:Array Value) (w:World),(Instr.makeFunc fn first cap).run Tryz.prog w= .ok (.func fn first cap) w:=λ_ _ _ _=>rfl;go_enter Tryz.func89,Tryz.ntmps89;go_wp2;go_ret;exact⟨rfl,rfl⟩
theorem qGS (x:FracA) (v:Value) (w:World) (h:IsFracA (λ_=>True) w v x):
  Calls Tryz.prog 112 #[v] w λe w'=>e= .returned (.bool (decide (x.gn.length=0)))/\Le w w':=by
 obtain⟨A,c,B,d,rfl,j,k⟩:=h;have⟨m,o⟩:=hyd2 j k;clear k j
 by_cases b:x.gn.length=0
 ·have f:decide (x.gn.length=0)=true:=by simpa using b
  rw[f];rw[b];have⟨i,g⟩:=hyd2 b f;clear f b;go_enter Tryz.func112,Tryz.ntmps112;go_wp2;go_ret;exact⟨rfl,qAA _ _⟩
 ·have f:decide (x.gn.length=0)=false:=by simpa using b
  have l:((x.gn.length:Int)==0)=false:=by rw[Bool.eq_false_iff];intro h;simp at h;exact b (by simp[h])
  rw[f];generalize x.gn.length=N at b l ⊢;have⟨i,g⟩:=hyd2 b f;clear f b;go_enter Tryz.func112,Tryz.ntmps112;go_wp2;go_ret;exact⟨rfl,qAA _ _⟩
def qIZ (x:FracA×FracA):Bool:=decide (x.1.gn.length=0)&&decide (x.2.gn.length=0)
theorem qM0 (x:FracA×FracA) (v:Value) (w:World) (h:IsTurnA w v x):
  Calls Tryz.prog 91 #[v] w λe w'=>e= .returned (.bool (qIZ x))/\Le w w':=by
 obtain⟨R,Z,T,d1,S,c2,U,d2,rfl,G,P⟩:=h;obtain⟨V,J,l,L⟩:=al1 w (.cells #[.bool x.1.sn,.slice R x.1.gn.length Z,.bool x.1.sd,.slice T x.1.gd.length d1,.bool x.2.sn,.slice S x.2.gn.length c2,.bool x.2.sd,.slice U x.2.gd.length d2] 55);obtain⟨q,r,s,t,y,z,A,B⟩:=qEM L;have o:=qGS x.1 _ V (G.le l);obtain⟨O,i⟩:∃b,decide (x.1.gn.length=0)=b:=⟨_,rfl⟩;obtain⟨Y,k⟩:∃b,decide (x.2.gn.length=0)=b:=⟨_,rfl⟩;have c:qIZ x=(O&&Y):=by unfold qIZ;rw[i,k]
 rw[c];rw[i]at o;have⟨f,M,ad,I,D,Q,C,F⟩:=hyd8 l L G P o i k c;clear c k i o P G L l;go_enter Tryz.func91,Tryz.ntmps91;go_wp2_with (fail);clear J;go_at_call 112;refine D.out.mono ?_;rintro e X ⟨rfl,d⟩;have N:=bxl d M.out;clear q r s t y z A B;obtain⟨q,r,s,t,y,z,A,B⟩:=qEM N;have p:=qGS x.2 _ X ((I.out.le f.out).le d);rw[C.out]at p;have⟨g,ae,E⟩:=hyd3 d N p;clear p N d
 cases O with
 | true=>
  go_wp2_with (fail);go_at_call 112;refine E.out.mono ?_;rintro e W2 ⟨rfl,j⟩;have m:=hyd1 j;clear j;go_wp2;go_ret;exact⟨rfl,(f.out.trans g.out).trans m.out⟩
 | false=>
  go_wp2;go_ret;exact⟨rfl,f.out.trans g.out⟩
end Go.Proofs.YtbcbcdgbliheoaaGreat
namespace Go.Proofs.YtbcbcdgbliheoaaGreat
set_option maxRecDepth 100000
set_option maxHeartbeats 4000000
set_option linter.unusedVariables false
noncomputable def qCB (l:List ArmA) (j:Nat):Bool:=
 match tval (l.getD j default).c with
 | some g=>decide (qCN g≠0)&&decide (-64<=(l.getD j default).k)&&decide ((l.getD j default).k <=64)&&(decide (j=0)||decide ((l.getD (j - 1) default).k <(l.getD j default).k))
 | none=>false
noncomputable def qBf (l:List ArmA):Bool:=allB (qCB l) l.length
noncomputable def qAt (l:List ArmA):Int:=if 24<l.length then 4 else if qBf l then 0 else 20
def qCO (l:List ArmA):Nat->Nat
 | 0=>0
 | m+1=>Nat.gcd (qCO l m) ((l.getD m default).k - (l.getD 0 default).k).natAbs
theorem qCK {l:List ArmA} {j:Nat} (h:qCB l j=true):∃g,tval (l.getD j default).c =some g/\qCN g≠0/\ -64<=(l.getD j default).k /\(l.getD j default).k <=64/\(j=0∨(l.getD (j - 1) default).k <(l.getD j default).k):=by
 unfold qCB at h
 cases hg:tval (l.getD j default).c with
 | none=>rw[hg]at h;cases h
 | some g=>
  rw[hg]at h;simp only[Bool.and_eq_true,Bool.or_eq_true,decide_eq_true_eq]at h;exact⟨g,rfl,h.1.1.1,h.1.1.2,h.1.2,h.2⟩
theorem qJS {l:List ArmA} {j:Nat} {g:G2} (hg:tval (l.getD j default).c =some g) (h1:qCN g≠0) (h2: -64<=(l.getD j default).k) (h3:(l.getD j default).k <=64) (h4:j=0∨(l.getD (j - 1) default).k <(l.getD j default).k):qCB l j=true:=by
 unfold qCB;rw[hg];simp only[Bool.and_eq_true,Bool.or_eq_true,decide_eq_true_eq];exact⟨⟨⟨h1,h2⟩,h3⟩,h4⟩
theorem qJu {l:List ArmA} (h:qBf l=true) {i j:Nat} (hij:i<j) (hj:j<l.length):(l.getD i default).k <(l.getD j default).k :=by
 have ok:=(qDQ _ _).1 h
 induction j with
 | zero=>omega
 | succ j ih=>
  obtain⟨g,-,-,-,-,b⟩:=qCK (ok (j+1) hj);have c:(l.getD j default).k <(l.getD (j+1) default).k :=by simpa using b
  by_cases d:i=j
  ·subst d;exact c
  ·have:=ih (by omega) (by omega);omega
theorem qM1 {l:List ArmA} (h:qBf l=true) (h2:2<=l.length):0<qCO l l.length:=by
 have b:∀m,2<=m->m<=l.length->0<qCO l m:=by
  intro m h2 d
  induction m with
  | zero=>omega
  | succ m ih=>
   show 0<Nat.gcd (qCO l m) _
   by_cases c:2<=m
   ·exact Nat.gcd_pos_of_pos_left _ (ih c (by omega))
   ·obtain rfl:m=1:=by omega
    refine Nat.gcd_pos_of_pos_right _ ?_;have:=qJu h (i:=0) (j:=1) (by omega) (by omega);omega
 exact b _ h2 (Nat.le_refl _)
theorem qJT {l:List ArmA} (h:qBf l=true):∀m,m<=l.length->qCO l m<=128:=by
 intro m
 induction m with
 | zero=>intro _;exact Nat.zero_le _
 | succ m ih=>
  intro j;show Nat.gcd (qCO l m) _<=128;have ok:=(qDQ _ _).1 h;obtain⟨g,-,-,c,d,-⟩:=qCK (ok m (by omega));obtain⟨g,-,-,f,i,-⟩:=qCK (ok 0 (by omega))
  by_cases b:qCO l m=0
  ·rw[b,Nat.gcd_zero_left];omega
  ·exact Nat.le_trans (Nat.gcd_le_left _ (by omega)) (ih (by omega))
def qBH (l:List ArmA):Nat:=
 if l.length=0 then 0
 else if l.length=1 then(if (l.getD 0 default).k =0 then 1 else 0)
 else qCO l l.length / Nat.gcd (qCO l l.length) (l.getD 0 default).k.natAbs
noncomputable def qB9 (l:List ArmA) (n:Int):Int×Int:=
 if qAt l≠0 then(0,qAt l)
 else if ¬(1<=n/\n<=1000)then(0,2)
 else if qBH l=0 then(1,0)
 else(((n.toNat / Nat.gcd n.toNat (qBH l):Nat):Int),0)
open Go.RowKit Go.Shelf
set_option linter.unusedSimpArgs false
attribute [local go_sem] Oper.semAt_some
theorem qJU {x:FracA} {r:Rat} (h:x.rat?=some r):x.gn.length=0↔r=0:=by
 have f:=FracA.val h;rw[<-f.num];constructor
 ·intro e;have b:dg (rnum r)=[]:=List.eq_nil_of_length_eq_zero e;have c:rnum r=0:=by rw[<-qAe (rnum r),b];rfl
  unfold rnum at c;have d:r.num=0:=by omega
  exact Rat.num_eq_zero.1 d
 ·rintro rfl;have:rnum 0=0:=by decide+kernel
  rw[this,qBD]
  rfl
theorem qM2 {x:FracA×FracA} {g:G2} (h:tval x=some g):(decide (x.1.gn.length=0)&&decide (x.2.gn.length=0))=decide (qCN g=0):=by
 obtain⟨c,d⟩:=qLI h;rw[Bool.eq_iff_iff];simp only[Bool.and_eq_true,decide_eq_true_eq];rw[qJU c,qJU d];constructor
 ·rintro⟨a,b⟩;unfold qCN;rw[a,b]
  decide+kernel
 ·exact qLE
def qNa (l:List ArmA):Nat->Int
 | 0=> -65
 | m+1=>(l.getD m default).k
theorem qLO {l:List ArmA} {m:Nat} (hok:∀j,j<m->qCB l j=true):qCB l m=true↔(qNa l m<(l.getD m default).k /\(l.getD m default).k <=64/\∃g,tval (l.getD m default).c =some g/\qCN g≠0):=by
 constructor
 ·intro h;obtain⟨g,c,d,i,f,b⟩:=qCK h;refine⟨?_,f,g,c,d⟩
  cases m with
  | zero=>show(-65:Int)<_;omega
  | succ m=>
   rcases b with b|b
   ·cases b
   ·exact b
 ·rintro⟨c,d,g,i,f⟩
  cases m with
  | zero=>exact qJS i f (by have:(-65:Int)<(l.getD 0 default).k :=c;omega) d (.inl rfl)
  | succ m=>
   obtain⟨p,-,-,b,-,-⟩:=qCK (hok m (by omega));have o:(l.getD m default).k <(l.getD (m+1) default).k :=c;exact qJS i f (by omega) d (.inr o)
theorem qER {V W:World} (h:Le V W) (B:Nat):KeepsFrom B V W:=⟨h.size,λk o _ hk _=>(h.block k (gsl hk)).trans hk⟩
structure CpI (w W0:World) (t2 t3:TypeId) (l:List ArmA) (pre:List (Fin l.length)) (W:World):Prop where
 kept:Kept w.heap.size [w.heap.size+2] W0 W
 size:W0.heap.size<=W.heap.size
 res:W.heap[w.heap.size]? =some (.cells #[.int .i64 0] t2)
 last:∃z:Int,W.heap[w.heap.size+1]? =some (.cells #[.int .i64 z] t3)/\ -9223372036854775808<=z/\z<=9223372036854775807/\(pre<+:List.finRange l.length->z=qNa l pre.length/\∀j,j<pre.length->qCB l j=true)
theorem CpI.from (w W0:World) (t2 t3:TypeId) (l:List ArmA) (hs:W0.heap.size=w.heap.size+3):OwnFrom W0.heap.size (CpI w W0 t2 t3 l):=by
 rintro s X Y p ⟨f,g,h,z,i,j,m,o⟩ c b;refine⟨f.trans ⟨(Below.refl _ _).grown c (by omega) λk e=>by have:=(b k e).1;omega,λB d=>c.block B (by simp at d;omega) (λe=>by have:=(b _ e.symm).1;simp at d;omega)⟩,Nat.le_trans g c.size,?_,z,?_,j,m,o⟩
 ·exact(c.block _ (by omega) (λe=>by have:=(b _ e.symm).1;omega)).trans h
 ·exact(c.block _ (by omega) (λe=>by have:=(b _ e.symm).1;omega)).trans i
structure CpX (w:World) (t2:TypeId) (l:List ArmA) (c:Code) (pre:List (Fin l.length)) (W:World):Prop where
 code:c= .ret
 below:Below w.heap.size w W
 res:W.heap[w.heap.size]? =some (.cells #[.int .i64 20] t2)
 bad:pre<+:List.finRange l.length->qBf l=false
theorem CpX.from (w:World) (t2:TypeId) (l:List ArmA) (N0:Nat) (h:w.heap.size<N0) (c:Code):OwnFrom N0 (CpX w t2 l c):=by
 rintro s X Y m ⟨i,d,f,j⟩ g b;refine⟨i,d.grown g d.size (λk e=>by have:=(b k e).1;omega),?_,j⟩;exact(g.block _ (gsl f) (λe=>by have:=(b _ e.symm).1;omega)).trans f
theorem qLP {l:List ArmA} {m:Nat} (hm:m<l.length) (h:qCB l m=false):qBf l=false:=by
 rw[Bool.eq_false_iff];intro b;have:=(qDQ _ _).1 b m hm;rw[h]at this
 cases this
theorem qNV {x:FracA×FracA} (h:tval x=none):okE (tval x).isSome =10:=by rw[h];rfl
theorem qNW {x:FracA×FracA} {g:G2} (h:tval x=some g):okE (tval x).isSome =0:=by rw[h];rfl
theorem qHd (l:List ArmA) (v:Value) (w:World) (hv:ArmsL w v l):
  Calls Tryz.prog 70 #[v] w λe w'=>e= .returned (.int .i64 (qAt l))/\Le w w':=by
 obtain⟨tv,hv⟩:=hv.vals;have aP:=hv;obtain⟨A,c,rfl,ci,bn,a9,aG,aM,hr⟩:=hv;unfold maxLen at bn;have⟨aQ,U,aN,aL,b6⟩:=hyd5 aP aG aM hr a9;clear a9 hr aM aG aP;refine(callsIn_wide (n:=5)).1 ?_;refine callsIn_of_wp_marks Tryz.func70 rfl trivial ?_ rfl;simp only[Tryz.ntmps70,List.size_toArray,List.length_cons,List.length_nil,Nat.reduceAdd,Nat.reduceSub,Array.replicate_succ,Array.replicate_zero,List.push_toArray,List.append_toArray,List.nil_append,List.cons_append]
 by_cases am:24<l.length
 ·have e1:qAt l=4:=by unfold qAt;rw[if_pos am]
  rw[e1];have az:=hyd1 e1;clear e1;gi_wp2;refine qAf w.heap.size [] _ trivial λw9 C o=>?_;have c9:=qAC (o _ _ (qAk _ _) rfl);exact⟨.int .i64 4,by simp[results,Tryz.results70,go_sem,c9],rfl,Below.trans (qAA _ _) C⟩
 ·have e1:qAt l=if qBf l then 0 else 20:=by unfold qAt;rw[if_neg am]
  have az:=hyd1 e1;clear e1;have bA:decide ((24:Int)<(l.length:Int))=false:=by simp;omega
  have bm:¬(24:Int)<(l.length:Int):=by omega
  gi_wp2_with (first | (refine⟨trivial,?_⟩;gi_at_call 89;refine(callsIn_wide.2 (qKK _ _ _ _)).mono ?_;rintro e w' ⟨rfl,rfl⟩));obtain⟨W0,aA,a3,Q,h0,h1,h2⟩:=qDL w (.cells #[.int .i64 0] 23) (.cells #[.int .i64 (-65)] 3) (.cells #[.slice A l.length c] 58);rw[aA];clear aA;have m:=qFo l _ tv w W0 (w.heap.size+1+1) w.heap.size aQ.out (by omega) (by omega) (by omega) (Nat.le_refl _) Q (qAC h2);refine qFU rfl (by omega) (gf:=108) (lb:=#[.pointer (some ⟨w.heap.size+1+1,0,none⟩)]) rfl trivial (enters_of Tryz.func108 (by kernel_rfl) rfl)
   m Kept.trans (Kept.put (by omega) (by simp;omega)) (Below.refl _ _) (λ_=>rfl)
   (CpI w W0 23 3 l) (CpX w 23 l) (CpI.from w W0 _ _ l a3) (CpX.from _ _ _ _ (by omega)) ⟨Kept.refl _ _ _,Nat.le_refl _,h0,-65,h1,by omega,by omega,λ_=>⟨rfl,λj h=>absurd h (Nat.not_lt_zero j)⟩⟩ (λx W=>{tmps:=#[.slice A l.length c,undef,.pointer (some ⟨w.heap.size,0,none⟩),.pointer (some ⟨w.heap.size+1,0,none⟩),.int .i64 l[x.1].k,.pointer (some ⟨W.heap.size,0,none⟩),.slice A l.length c,.int .i64 l.length,.bool false,.slice A l.length c,.func (.func 108) #[] #[.pointer (some ⟨w.heap.size+1+1,0,none⟩)],.int .i64 l[x.1].k,.agg (tv x.1),undef,undef,undef,undef,undef,undef,undef,undef,undef,undef,undef,undef,undef,undef,undef,undef,undef],defers:=[]}) (λx W=>W.alloc (.cells (tv x.1) 55)) (λ_ _=>World.grownBy_alloc _ _ _) (λx W hz=>Kept.alloc _ (by omega) (by simp;omega)) ?_ ?_ ?_ ?_
  ·intro la x W K hK;dsimp only[qHO];obtain⟨b,bu,hA,C,T⟩:=aL.out (by have:=x.2;omega);obtain⟨s1,A1,n1,c1,t1,B1,m1,d1,s2,A2,n2,c2,t2,B2,m2,d2,he,-⟩:=T x.1 x.2;rw[he]at hK ⊢;clear T hA C;gi_wp2;exact hK
  ·rintro la ae x W V ⟨k1,k2,O,z,k4,k5,k6,k7⟩ aT aU aE br;have hx:=x.2;obtain⟨b,bu,hA,C,T⟩:=aL.out (by omega);obtain⟨s1,A1,n1,c1,t1,B1,m1,d1,s2,A2,n2,c2,t2,B2,m2,d2,he,-⟩:=T x.1 x.2;have J:=aE W.heap.size _ (qAk W _) rfl;have aO:=aN.out x.1 x.2;have ah:Below w.heap.size w V:=Q.trans k1.1;have P:=aO.le ah;have cL:=qAC k4;have fL:=fz0 k4 0;have cR:=qAC O;have fR:=fz0 O 0;have a2:l.getD x.1 default=l[x.1]:=by simp[List.getD_eq_getElem?_getD,List.getElem?_eq_getElem hx]
   have ac:ae++[x]<+:List.finRange l.length->(qCB l x.1=true↔(z<l[x.1].k /\l[x.1].k <=64/\∃g,tval l[x.1].c =some g/\qCN g≠0))/\ae.length=x.1/\∀j,j<x.1->qCB l j=true:=λhp=>by
    obtain⟨bs,aJ⟩:=qCh hp;obtain⟨q1,q2⟩:=k7 bs;rw[<-aJ]at q1 q2;have:=qLO q2;rw[a2,<-q1]at this;exact⟨this,aJ.symm,q2⟩
   have I:∀(G:World) (d:Le V G) (C:¬(z<l[x.1].k /\l[x.1].k <=64/\∃g,tval l[x.1].c =some g/\qCN g≠0)) (aa:Act),ownPostG W0.heap.size (Kept w.heap.size [w.heap.size+1+1]) (CpI w W0 23 3 l) (CpX w 23 l) (ae++[x]) V .ret aa (G.setCell ⟨w.heap.size,0,none⟩ (.int .i64 20)):=λG d C aa=>
    ⟨(
     qER d _).trans ((KeepsOthers.setCell _ _ _).from _),rfl,(ah.trans (d.mono (by omega))).setCell (p:=⟨w.heap.size,0,none⟩) (Nat.le_refl _) _,qA2 ((d.block _ (by omega)).trans O),λhp=>qLP hx (by
     rw[Bool.eq_false_iff]
     exact λhc=>C ((ac hp).1.1 hc))⟩
   have s:∀(G:World) (d:Le V G) (C:z<l[x.1].k /\l[x.1].k <=64/\∃g,tval l[x.1].c =some g/\qCN g≠0) (aa:Act),ownPostG W0.heap.size (Kept w.heap.size [w.heap.size+1+1]) (CpI w W0 23 3 l) (CpX w 23 l) (ae++[x]) V .normal aa (G.setCell ⟨w.heap.size+1,0,none⟩ (.int .i64 l[x.1].k)):=λG d C aa=>by
    have aF:Kept w.heap.size [w.heap.size+1+1] V (G.setCell ⟨w.heap.size+1,0,none⟩ (.int .i64 l[x.1].k)):=
     ⟨(d.mono (by omega)).setCell (p:=⟨w.heap.size+1,0,none⟩) (by show w.heap.size<=w.heap.size+1;omega) _,λB hB=>(Below.heap_setCell _ _ _ _ (show B≠w.heap.size+1 by simp at hB;omega)).trans (d.block _ (by simp at hB;omega))⟩
    refine⟨(qER d _).trans ((KeepsOthers.setCell _ _ _).from _),aF,k1.trans aF,by simp[World.setCell];exact Nat.le_trans k2 d.size,(Below.heap_setCell _ _ _ _ (show w.heap.size≠w.heap.size+1 by omega)).trans ((d.block _ (by omega)).trans O),l[x.1].k,qA2 ((d.block _ (by omega)).trans k4),?_,?_,λhp=>?_⟩
    ·have:=(U.out _ (List.getElem_mem hx)).1;omega
    ·have:=(U.out _ (List.getElem_mem hx)).2;omega
    ·obtain⟨p1,p2,p3⟩:=ac hp;rw[List.length_append,List.length_singleton,p2];refine⟨?_,λj hj=>?_⟩
     ·show _=(l.getD x.1 default).k
      rw[a2]
     ·by_cases bp:j=x.1
      ·rw[bp];exact p1.2 C
      ·exact p3 j (by omega)
   have aH:=U.out _ (List.getElem_mem hx);have L:=λG (d:Le V G)=>qJR l[x.1].c _ G (P.le d);have N:=λG (d:Le V G)=>qM0 l[x.1].c _ G (P.le d);rw[he]at J P L N ⊢;have E:Hid (V.heap[W.heap.size]? =some (.cells #[.bool s1,.slice A1 n1 c1,.bool t1,.slice B1 m1 d1,.bool s2,.slice A2 n2 c2,.bool t2,.slice B2 m2 d2] 55)):=Lib.hid J;obtain⟨ap,aq,ar,au,av,aw,ax,ay⟩:=qEM J;obtain⟨yc,a4⟩:∃y,l[x.1].c =y:=⟨_,rfl⟩;rw[a4]at I s L N P;generalize l[x.1].k =kk at I s aH ⊢;obtain⟨BB,a0⟩:∃BB,W.heap.size=BB:=⟨_,rfl⟩;rw[a0]at E ap aq ar au av aw ax ay ⊢;have bl:BB<V.heap.size:=(gsl E.out);have cg:w.heap.size+3<=V.heap.size:=by omega
   have bE:W0.heap.size<=w.heap.size+3:=by omega
   have bF:w.heap.size+3<=W0.heap.size:=by omega
   clear m T hA C aE ac k7 aO J a2;have⟨bD,q,aj,r,Y,bG,bH,bB⟩:=hyd8 a3 I s L N P a4 ah;have⟨a5,b8,bK,b9,cb,cd,ce,al⟩:=hyd8 k1 a0 aU Q h0 h1 h2 O;have⟨aW,bJ⟩:=hyd2 k4 aT;clear aT k4 O h2 h1 h0 Q aU a0 k1 ah a4 P N L s I a3
   by_cases c1:kk<=z
   ·gi_wp2_with (refine⟨trivial,?_⟩);exact q.out V (Le.refl _) (by omega) _
   ·have bb:z<kk:=by omega
    by_cases c2:64<kk
    ·gi_wp2_with (refine⟨trivial,?_⟩);exact q.out V (Le.refl _) (by omega) _
    ·have bd:kk<=64:=by omega
     rcases qHJ yc with⟨g,hg⟩|hg
     ·have F:=qNW hg;have hz:=qM2 hg;obtain⟨bz,a1⟩:∃b,decide (qCN g=0)=b:=⟨_,rfl⟩;rw[a1]at hz;have ak:qIZ yc=bz:=hz;rw[F]at r;rw[ak]at Y;have⟨ai,an,ak,bI,aD⟩:=hyd5 hg a1 hz ak F;clear F ak hz a1 hg;gi_wp2_with (fail);refine⟨trivial,?_⟩;gi_at_call 90;refine(CallsIn.inRound la (callsIn_wide.2 (r.out V (Le.refl _)))).mono ?_;rintro e w1 ⟨rfl,i⟩;clear ap aq ar au av aw ax ay;obtain⟨ap,aq,ar,au,av,aw,ax,ay⟩:=qEM ((i.block _ bl).trans E.out);have t:=hyd1 i;clear i;gi_wp2_with (fail);refine⟨trivial,?_⟩;gi_at_call 91;refine(CallsIn.inRound la (callsIn_wide.2 (Y.out w1 t.out))).mono ?_;rintro e w2 ⟨rfl,X⟩;have f:=t.out.trans X;have bX:=(f.cell (p:=⟨w.heap.size+1,0,none⟩) (by show w.heap.size+1<V.heap.size;omega)).trans cL;have bY:=fz0 ((f.block (w.heap.size+1) (by omega)).trans aW.out) 0;have bf:=(f.cell (p:=⟨w.heap.size,0,none⟩) (by show w.heap.size<V.heap.size;omega)).trans cR;have bg:=fz0 ((f.block w.heap.size (by omega)).trans al.out) 0;have⟨bq,M⟩:=hyd2 X f;clear f X
      cases bz with
      | true=>
       gi_wp2
       exact q.out w2 M.out (by
        rintro⟨-,-,g',q1,q2⟩;rw[ai.out]at q1;injection q1 with q1;subst q1
        exact q2 (by have:=an.out;simpa using this)) _
      | false=>
       gi_wp2;exact aj.out w2 M.out ⟨bb,bd,g,ai.out,by have:=an.out;simpa using this⟩ _
     ·have F:=qNV hg;rw[F]at r;have⟨ai,aD⟩:=hyd2 hg F;clear F hg;gi_wp2_with (fail);refine⟨trivial,?_⟩;gi_at_call 90;refine(CallsIn.inRound la (callsIn_wide.2 (r.out V (Le.refl _)))).mono ?_;rintro e w1 ⟨rfl,i⟩;have bf:=(i.cell (p:=⟨w.heap.size,0,none⟩) (by show w.heap.size<V.heap.size;omega)).trans cR;have bg:=fz0 ((i.block w.heap.size (by omega)).trans al.out) 0;have t:=hyd1 i;clear i;gi_wp2_with (refine⟨trivial,?_⟩)
      exact q.out w1 t.out (by
       rintro⟨-,-,g',q1,q2⟩;rw[ai.out]at q1
       cases q1) _
  ·rintro D ys W hD rfl ⟨k1,k2,O,z,k4,k5,k6,k7⟩ R;have cR:=qAC O;have fR:=fz0 O 0
   have Z:qBf l=true:=(qDQ _ _).2 (by
    have:=(k7 (qCZ _)).2
    rwa[List.length_finRange]at this)
   have aB:Below w.heap.size w W:=Q.trans k1.1;clear m k7;have⟨aC,al,S,ab,a5,aW⟩:=hyd6 aB O R Z k1 k4;clear k4 k1 Z R O aB;gi_wp2;refine qAf w.heap.size [{target:= .collected D,args:=#[]}] _ ⟨⟨D,rfl,by omega,?_,by simp⟩,trivial⟩ λw9 C o=>?_
   ·exact(Below.heap_setCell _ _ _ _ (show D≠w.heap.size by omega)).trans S.out
   ·have c9:=qAC (o _ _ (qA2 al.out) rfl);exact⟨.int .i64 0,by simp[results,Tryz.results70,go_sem,c9],by rw[az.out,if_pos ab.out],(aC.out.setCell (p:=⟨w.heap.size,0,none⟩) (Nat.le_refl _) _).trans C⟩
  ·rintro D cc ae W hD aK ⟨rfl,k1,k2,O⟩ R;have Z:=O aK;clear m O;have⟨a5,bt,S,ab⟩:=hyd4 k1 k2 R Z;clear Z R k2 k1;gi_wp2;refine qAf w.heap.size [{target:= .collected D,args:=#[]}] _ ⟨⟨D,rfl,by omega,S.out,by simp⟩,trivial⟩ λw9 C o=>?_;have c9:=qAC (o _ _ bt.out rfl);exact⟨.int .i64 20,by simp[results,Tryz.results70,go_sem,c9],by rw[az.out,if_neg (by rw[ab.out];simp)],a5.out.trans C⟩
end Go.Proofs.YtbcbcdgbliheoaaGreat
namespace Go.Proofs.YtbcbcdgbliheoaaGreat
set_option maxRecDepth 100000
set_option maxHeartbeats 4000000
open Go.RowKit Go.Lib
set_option linter.unusedVariables false
set_option linter.unusedSimpArgs false
attribute [local go_sem] Oper.semAt_some
attribute [local go_sem ↓] Go.wp_at_zero Go.wp_at_succ
theorem qNX (x y:Int):Nat.gcd y.natAbs (x.tmod y).natAbs =Nat.gcd x.natAbs y.natAbs:=by
 rw[Int.natAbs_tmod,Nat.gcd_comm x.natAbs y.natAbs,Nat.gcd_rec y.natAbs x.natAbs,Nat.gcd_comm]
theorem qJV (a b:Int) (w:World) (ha: -1000000<=a/\a<=1000000) (hb: -1000000<=b/\b<=1000000):
  Calls Tryz.prog 72 #[.int .i64 a,.int .i64 b] w λe w'=>e= .returned (.int .i64 (Nat.gcd a.natAbs b.natAbs:Nat))/\∃n,w'=w.drewN n:=by
 obtain⟨G,r⟩:∃G,Nat.gcd a.natAbs b.natAbs=G:=⟨_,rfl⟩;rw[r];have s:=hyd1 r;clear r;go_enter Tryz.func72,Tryz.ntmps72;go_wp2;go_loopw [0,1] (λi j wr=>∃x y:Int,(-1000000<=x/\x<=1000000)/\(-1000000<=y/\y<=1000000)/\i= .int .i64 x/\j= .int .i64 y/\Hid (Nat.gcd x.natAbs y.natAbs=G)/\Hid (∃n,wr=w.drewN n)) (λ_ j _=>(intOf j).natAbs)
 case atStart=>exact⟨a,b,ha,hb,rfl,rfl,s,Lib.hid ⟨0,rfl⟩⟩
 case round=>
  obtain⟨x,y,p,B,rfl,rfl,C,t⟩:=hrel;obtain⟨P,v⟩:=t.out;subst v
  by_cases q:y=0
  ·subst q;have c:x.natAbs=G:=by have:=C.out;simpa using this
   have z:=p.1;have A:=p.2
   by_cases N:0<=x
   ·obtain⟨X,rfl⟩:∃X:Nat,x=(X:Int):=⟨x.toNat,by omega⟩
    obtain rfl:X=G:=by simpa using c
    have D: -(X:Int)<=(X:Int):=by omega
    have E:¬(X:Int)< -(X:Int):=by omega
    have h:=hyd1 c;clear c;go_wp2;go_ret;exact⟨rfl,_,rfl⟩
   ·obtain⟨X,rfl⟩:∃X:Nat,x= -(X:Int):=⟨x.natAbs,by omega⟩
    obtain rfl:X=G:=by simpa using c
    have D: -(X:Int)<(X:Int):=by omega
    have E:¬(X:Int)<= -(X:Int):=by omega
    have M: - -(X:Int)=(X:Int):=by omega
    have h:=hyd1 c;clear c;go_wp2;go_ret;exact⟨rfl,_,rfl⟩
  ·have O:(y != 0)=true:=by simpa using q
   have L:(y==0)=false:=by simpa using q
   have f:(x.tmod y).natAbs <y.natAbs:=by rw[Int.natAbs_tmod];exact Nat.mod_lt _ (by omega)
   have d:Nat.gcd y.natAbs (x.tmod y).natAbs =G:=by rw[qNX];exact C.out
   have I:=B.1;have J:=B.2;have z:=p.1;have A:=p.2;generalize hM:x.tmod y=m at f d;have l: -1000000<=m/\m<=1000000:=by omega
   have F:IntKind.i64.wrap m=m:=IntWalk.i64_in _ (by omega);have⟨g,k,o⟩:=hyd3 d f l;clear l f d;go_wp2;go_quiet (fail);go_wp2;go_roundw
   case rel=>exact⟨y,m,B,o.out,rfl,rfl,g,Lib.hid ⟨_,World.drewN_drewN _ _ _⟩⟩
   case measure=>simp[intOf];exact k.out
theorem qOH (a b:Nat) (w:World) (ha:a<=1000000) (hb:b<=1000000):
  Calls Tryz.prog 28 #[.int .i64 a,.int .i64 b] w λe w'=>e= .returned (.int .i64 (Nat.gcd a b))/\∃n,w'=w.drewN n:=by
 obtain⟨G,h⟩:∃G,Nat.gcd a b=G:=⟨_,rfl⟩;rw[h];have k:=hyd1 h;clear h;go_enter Tryz.func28,Tryz.ntmps28;go_wp2;go_loopw [0,1] (λi j wr=>∃x y:Nat,x<=1000000/\y<=1000000/\i= .int .i64 x/\j= .int .i64 y/\Hid (Nat.gcd x y=G)/\Hid (∃n,wr=w.drewN n)) (λ_ j _=>(intOf j).toNat)
 case atStart=>exact⟨a,b,ha,hb,rfl,rfl,k,Lib.hid ⟨0,rfl⟩⟩
 case round=>
  obtain⟨x,y,z,v,rfl,rfl,r,l⟩:=hrel;obtain⟨B,q⟩:=l.out;subst q
  by_cases s:y=0
  ·subst s;have o:x=G:=by have:=r.out;simpa using this
   subst o;go_wp2;go_ret;exact⟨rfl,_,rfl⟩
  ·have A:((y:Int) != 0)=true:=by simp;omega
   have p:=Nat.mod_lt x (show y>0 by omega);have c:(x:Int)%(y:Int)=((x%y:Nat):Int):=by simp
   have d:(x:Int).tmod (y:Int)=((x%y:Nat):Int):=by rw[Int.tmod_eq_emod_of_nonneg (by omega)];exact c
   have g:Nat.gcd y (x%y)=G:=by rw[<-r.out,Nat.gcd_comm x y,Nat.gcd_rec y x,Nat.gcd_comm]
   have f:=hyd1 g;clear g;generalize hM:x%y=m at p c d f;have t:=hyd1 hM;clear hM;go_wp2;go_quiet (fail);go_wp2;go_roundw
   case rel=>exact⟨y,m,v,by omega,rfl,by first |rfl| (rw[c])| (rw[d]),f,Lib.hid ⟨_,World.drewN_drewN _ _ _⟩⟩
   case measure=>simp[intOf];omega
end Go.Proofs.YtbcbcdgbliheoaaGreat
namespace Go.Proofs.YtbcbcdgbliheoaaGreat
set_option maxRecDepth 100000
set_option maxHeartbeats 4000000
open Go.RowKit Go.Shelf
set_option linter.unusedVariables false
set_option linter.unusedSimpArgs false
attribute [local go_sem] Oper.semAt_some
attribute [local go_sem ↓] Go.wp_at_zero Go.wp_at_succ
theorem qGT (l:List ArmA):(qAt l=0/\l.length<=24/\qBf l=true)∨(qAt l≠0/\(24<l.length∨qBf l=false)):=by
 unfold qAt
 by_cases h:24<l.length
 ·rw[if_pos h];exact .inr ⟨by decide,.inl h⟩
 ·rw[if_neg h]
  cases hp:qBf l with
  | true=>exact .inl ⟨by simp,by omega,rfl⟩
  | false=>exact .inr ⟨by simp,.inr rfl⟩
theorem qG6 {l:List ArmA} (h:qBf l=true) {j:Nat} (hj:j<l.length): -64<=(l.getD j default).k /\(l.getD j default).k <=64:=by
 obtain⟨g,-,-,b,c,-⟩:=qCK ((qDQ _ _).1 h j hj);exact⟨b,c⟩
structure StI (w W0:World) (t3:TypeId) (l:List ArmA) (pre:List (Fin l.length)) (W:World):Prop where
 kept:Kept w.heap.size [w.heap.size,w.heap.size+2] W0 W
 size:W0.heap.size<=W.heap.size
 gcd:∃z:Nat,W.heap[w.heap.size+1]? =some (.cells #[.int .i64 (z:Int)] t3)/\z<=128/\(pre<+:List.finRange l.length->z=qCO l pre.length)
theorem StI.from (w W0:World) (t3:TypeId) (l:List ArmA) (hs:W0.heap.size=w.heap.size+3):OwnFrom W0.heap.size (StI w W0 t3 l):=by
 rintro s X Y m ⟨f,g,z,h,i,j⟩ c b;refine⟨f.trans ⟨(Below.refl _ _).grown c (by omega) λk e=>by have:=(b k e).1;omega,λB d=>c.block B (by simp at d;omega) (λe=>by have:=(b _ e.symm).1;simp at d;omega)⟩,Nat.le_trans g c.size,z,?_,i,j⟩;exact(c.block _ (by omega) (λe=>by have:=(b _ e.symm).1;omega)).trans h
theorem qM3 (l:List ArmA) (v:Value) (w:World) (hv:ArmsL w v l) (hok:qBf l=true) (hlen:l.length<=24):
  Calls Tryz.prog 71 #[v] w λe w'=>e= .returned (.int .i64 (qCO l l.length:Nat))/\Le w w':=by
 obtain⟨tv,hv⟩:=hv.vals;have T:=hv;obtain⟨A,c,rfl,aK,af,L,R,S,hr⟩:=hv;unfold maxLen at af;have⟨U,a3,aA,an,az,r⟩:=hyd6 T R S hr L hok;clear hok L hr S R T;refine(callsIn_wide (n:=5)).1 ?_;refine callsIn_of_wp_marks Tryz.func71 rfl trivial ?_ rfl;simp only[Tryz.ntmps71,List.size_toArray,List.length_cons,List.length_nil,Nat.reduceAdd,Nat.reduceSub,Array.replicate_succ,Array.replicate_zero,List.push_toArray,List.append_toArray,List.nil_append,List.cons_append];gi_wp2_with (first | (refine⟨trivial,?_⟩;gi_at_call 89;refine(callsIn_wide.2 (qKK _ _ _ _)).mono ?_;rintro e w' ⟨rfl,rfl⟩));obtain⟨s,N,I,g,h0,h1,h2⟩:=qDL w (.cells #[.slice A l.length c] 58) (.cells #[.int .i64 0] 3) (.cells #[.slice A l.length c] 58);rw[N];clear N;have f:=qFo l _ tv w s (w.heap.size+1+1) w.heap.size U.out (by omega) (by omega) (by omega) (Nat.le_refl _) g (qAC h2);refine wpIn_rangeFunc_ownG rfl (by omega) (gf:=108) (lb:=#[.pointer (some ⟨w.heap.size+1+1,0,none⟩)]) rfl trivial (enters_of Tryz.func108 (by kernel_rfl) rfl)
  f Kept.trans (Kept.put (by omega) (by simp;omega)) (Below.refl _ _) (λ_=>rfl)
  (StI w s 3 l) (λ_ _ _=>False) (StI.from w s _ l I) (λ_ _ _ _ _ hs _ _=>hs) ⟨Kept.refl _ _ _,Nat.le_refl _,0,h1,by omega,λ_=>rfl⟩ ?_ ?_ ?_ ?_ ?_
 rotate_left
 ·intro la x W K hK;dsimp only[qHO];gi_wp2;exact hK
 ·rintro la h x W ⟨J,k2,z,j,k5,X⟩ ai;have hx:=x.2;obtain⟨b,Y,rfl,hb,Q⟩:=an.out (by omega);obtain⟨-,-,-,-,-,-,-,-,-,-,-,-,-,-,-,-,-,c9,-⟩:=(Q 0 (by omega)).same (W:=W) λi=>(J.1.cell (p:=⟨b,i,none⟩) hb).trans (g.cell (p:=⟨b,i,none⟩) hb);have cs:=qAC ((J.2 w.heap.size (by simp)).trans h0);have cn:=qAC j;have fn:=fz0 j 0;have F:l.getD x.1 default=l[x.1]:=by simp[List.getD_eq_getElem?_getD,List.getElem?_eq_getElem hx]
  have C:l.getD 0 default=l[0]'(by omega):=by simp[List.getD_eq_getElem?_getD,List.getElem?_eq_getElem (show 0<l.length by omega)]
  have a1:=qG6 r.out hx;have a2:=qG6 r.out (show 0<l.length by omega)
  have d:h++[x]<+:List.finRange l.length->(Nat.gcd z (l[x.1].k - (l[0]'(by omega)).k).natAbs =qCO l (h.length+1)):=λhp=>by
   obtain⟨ak,al⟩:=qCh hp;rw[X ak];show _=Nat.gcd (qCO l h.length) _;rw[<-al,F,C]
  rw[F]at a1;rw[C]at a2;clear f Q F C X;generalize l[x.1].k =kk at a1 d ⊢;generalize (l[0]'(by omega)).k =k0 at a2 d c9;rw[show Y+0*9=Y by omega]at c9;have a6:IntKind.i64.wrap (kk - k0)=kk - k0:=IntWalk.i64_in _ (by omega);obtain⟨q,hq⟩:∃q:Nat,Nat.gcd z (kk - k0).natAbs =q:=⟨_,rfl⟩;rw[hq]at d
  have am:q<=128:=by
   rw[<-hq]
   by_cases ar:z=0
   ·subst ar;rw[Nat.gcd_zero_left];omega
   ·exact Nat.le_trans (Nat.gcd_le_left _ (by omega)) k5
  have o:∀W,Calls Tryz.prog 72 #[.int .i64 (z:Int),.int .i64 (kk - k0)] W λe w'=>e= .returned (.int .i64 (q:Int))/\∃n,w'=W.drewN n:=λW=>by
   have:=qJV (z:Int) (kk - k0) W (by omega) (by omega);rw[Int.natAbs_natCast,hq]at this;exact this
  have m:∀(n:Nat) (aa:Act),ownPostG s.heap.size (Kept w.heap.size [w.heap.size+1+1]) (StI w s 3 l) (λ_ _ _=>False) (h++[x]) W .normal aa ((W.drewN n).setCell ⟨w.heap.size+1,0,none⟩ (.int .i64 (q:Int))):=λn aa=>by
   have hd:Le W (W.drewN n):=Below.of_drewN W n
   have G:Kept w.heap.size [w.heap.size,w.heap.size+2] W ((W.drewN n).setCell ⟨w.heap.size+1,0,none⟩ (.int .i64 (q:Int))):=
    ⟨(hd.mono (by omega)).setCell (p:=⟨w.heap.size+1,0,none⟩) (by show w.heap.size<=w.heap.size+1;omega) _,λB Z=>(Below.heap_setCell _ _ _ _ (show B≠w.heap.size+1 by simp at Z;omega)).trans (hd.block _ (by simp at Z;omega))⟩
   refine⟨(qER hd _).trans ((KeepsOthers.setCell _ _ _).from _),⟨G.1,λB Z=>G.2 B (by simp at Z ⊢;omega)⟩,J.trans G,by simp[World.setCell];exact k2,q,qA2 (W:=W.drewN n) j,am,λhp=>?_⟩;rw[List.length_append,List.length_singleton];exact d hp
  have a8:s.heap.size<=w.heap.size+3:=by omega
  have a9:w.heap.size+3<=s.heap.size:=by omega
  have i1:(0:Int)<(l.length:Int):=by omega
  have i2:0<l.length:=by omega
  clear hq d;have⟨a7,E,y,aM,au,a0,aF,aG⟩:=hyd8 I o m J j g h0 h1;have aH:=hyd1 h2;clear h2 h1 h0 g j J m o I;gi_wp2;refine qBQ (qEs la) 8 (by kernel_rfl) (by kernel_rfl) (by kernel_rfl) ?_;simp only[List.take_succ_cons,List.take_zero,List.drop_succ_cons,List.drop_zero]
  repeat (go_big_quiet_step (exact Calls.quiet_of (E.out _)))
  refine wpQuiet_nil ?_;intro _ ao;obtain⟨nq,V⟩:=ao;subst V;gi_wp2;exact y.out _ _
 ·rintro D ys W hD rfl ⟨J,k2,z,j,k5,X⟩ t;have hz:=X (qCZ _);rw[List.length_finRange]at hz;have cR:=qAC j;have O:Below w.heap.size w W:=g.trans J.1;clear f X;have⟨P,au,M,aq⟩:=hyd4 O j t hz;clear hz t j O;gi_wp2;refine qAf w.heap.size [{target:= .collected D,args:=#[]}] _ ⟨⟨D,rfl,by omega,M.out,by simp⟩,trivial⟩ λw9 hb ah=>?_;exact⟨.int .i64 (z:Int),by simp[results,Tryz.results71,go_sem],by rw[<-aq.out],P.out.trans hb⟩
 ·rintro D cc h W hD a4 hf t;exact hf.elim
noncomputable def ordR (l:List ArmA):Int:=if qAt l=0 then(qBH l:Int)else 0
theorem qJW {l:List ArmA} (h:qAt l≠0):ordR l=0:=if_neg h
theorem qKL {l:List ArmA} (h:qAt l=0):ordR l=qBH l:=if_pos h
theorem qIG {w:World} {v:Value} {l:List ArmA} {tv:Nat->Array Value} (h:qLN w v l tv) (h0:0<l.length):∃b off c,v= .slice (some ⟨b,off,none⟩) l.length c/\c<=maxLen/\b<w.heap.size/\w.cell? ⟨b,off,none⟩=some (.int .i64 (l.getD 0 default).k):=by
 obtain⟨A,c,rfl,o,f,j,m,q,p⟩:=h;obtain⟨b,off,rfl,k,d⟩:=p h0;obtain⟨-,-,-,-,-,-,-,-,-,-,-,-,-,-,-,-,-,i,-⟩:=d 0 h0;have g:l.getD 0 default=l[0]:=by simp[List.getD_eq_getElem?_getD,List.getElem?_eq_getElem h0]
 rw[Nat.zero_mul,Nat.add_zero]at i;exact⟨b,off,c,rfl,f,k,by rw[g];exact i⟩
theorem qM4 {l:List ArmA} (h:qAt l=0):qBH l<=1000000:=by
 rcases qGT l with⟨-,hlen,hok⟩| ⟨h1,-⟩
 ·unfold qBH
  split
  ·omega
  ·split
   ·split<;>omega
   ·exact Nat.le_trans (Nat.div_le_self _ _) (Nat.le_trans (qJT hok _ (Nat.le_refl _)) (by omega))
 ·exact absurd h h1
theorem qLQ (l:List ArmA) (v:Value) (w:World) (hv:ArmsL w v l):
  Calls Tryz.prog 44 #[v] w λe w'=>e= .returned (.tuple #[.int .i64 (ordR l),.int .i64 (qAt l)])/\Le w w':=by
 obtain⟨tv,z⟩:=hv.vals;have f:=qHd l v w hv
 rcases qGT l with⟨h0,hlen,hok⟩| ⟨h0,-⟩
 ·rw[qKL h0,h0];rw[h0]at f
  rcases(show l.length=0∨l.length=1∨2<=l.length by omega)with h1|h1|h1
  ·have q:qBH l=0:=by unfold qBH;rw[if_pos h1]
   rw[q];obtain⟨A,c,rfl,-⟩:=z;rw[h1]at f ⊢;have⟨g,D,J,B,s,o⟩:=hyd6 f q h1 h0 hok hlen;clear hlen hok h0 h1 q f;go_enter Tryz.func44,Tryz.ntmps44;go_wp2_with (first | (go_at_call 70;((with_reducible refine(g.out).mono ?_);rintro e w' ⟨rfl,d⟩)));go_ret2;exact⟨rfl,d⟩
  ·obtain⟨b,t,c,rfl,C,T,j⟩:=qIG z (by omega);unfold maxLen at C;rw[h1]at f ⊢
   by_cases x:(l.getD 0 default).k =0
   ·have q:qBH l=1:=by unfold qBH;rw[if_neg (by omega),if_pos h1,if_pos x]
    rw[q];rw[x]at j;have⟨g,D,J,B,s,o,al⟩:=hyd7 f q h1 h0 hok hlen x;clear x hlen hok h0 h1 q f;go_enter Tryz.func44,Tryz.ntmps44;go_wp2_with (fail);go_at_call 70;refine g.out.mono ?_;rintro e w1 ⟨rfl,d⟩;have Y:=(d.cell (p:=⟨b,t,none⟩) T).trans j;have i:=hyd1 d;clear d;go_wp2;go_ret2;exact⟨rfl,i.out⟩
   ·have q:qBH l=0:=by unfold qBH;rw[if_neg (by omega),if_pos h1,if_neg x]
    rw[q];generalize (l.getD 0 default).k =k0 at j x;have am:(k0==0)=false:=by simpa using x
    have⟨g,D,J,B,s,o⟩:=hyd6 f q h1 h0 hok hlen;clear hlen hok h0 h1 q f;go_enter Tryz.func44,Tryz.ntmps44;go_wp2_with (fail);go_at_call 70;refine g.out.mono ?_;rintro e w1 ⟨rfl,d⟩;have Y:=(d.cell (p:=⟨b,t,none⟩) T).trans j;have i:=hyd1 d;clear d;go_wp2;go_ret2;exact⟨rfl,i.out⟩
  ·obtain⟨b,t,c,rfl,C,T,j⟩:=qIG z (by omega);unfold maxLen at C;obtain⟨P,I⟩:∃P,qCO l l.length=P:=⟨_,rfl⟩;have X:0<P:=by rw[<-I];exact qM1 hok h1
   have V:P<=128:=by rw[<-I];exact qJT hok _ (Nat.le_refl _)
   obtain⟨G,F⟩:∃G,Nat.gcd P (l.getD 0 default).k.natAbs =G:=⟨_,rfl⟩;have ag:0<G:=by rw[<-F];exact Nat.gcd_pos_of_pos_left _ X
   have q:qBH l=P / G:=by unfold qBH;rw[if_neg (by omega),if_neg (by omega),I,F]
   obtain⟨R,L⟩:∃R,P / G=R:=⟨_,rfl⟩;have aj:R<=128:=by rw[<-L];exact Nat.le_trans (Nat.div_le_self _ _) V
   rw[q,L];have x:=qG6 hok (show 0<l.length by omega);generalize (l.getD 0 default).k =k0 at j F x
   have Q:∀W,Le w W->Calls Tryz.prog 71 #[.slice (some ⟨b,t,none⟩) l.length c] W λe w'=>e= .returned (.int .i64 (P:Int))/\Le W w':=λW h=>by
    have:=qM3 l _ W (hv.le h) hok hlen;rw[I]at this;exact this
   have N:∀W,Calls Tryz.prog 72 #[.int .i64 (P:Int),.int .i64 k0] W λe w'=>e= .returned (.int .i64 (G:Int))/\∃n,w'=W.drewN n:=λW=>by
    have:=qJV (P:Int) k0 W (by omega) (by omega);rw[Int.natAbs_natCast,F]at this;exact this
   have ae:((G:Int)==0)=false:=by simp;omega
   have af:¬(G:Int)=0:=by omega
   have M:(P:Int) / (G:Int)=(R:Int):=by rw[<-L];simp
   have Z:(P:Int).tdiv (G:Int)=(R:Int):=by rw[Int.tdiv_eq_ediv_of_nonneg (by omega)];exact M
   have an:((l.length:Int)==1)=false:=by simp;omega
   have ao:¬(l.length:Int)<2:=by omega
   have ap:¬l.length<2:=by omega
   have aq:(0:Int)<(l.length:Int):=by omega
   have ar:¬l.length=1:=by omega
   have⟨g,D,B,s,o,ah,ad,ai⟩:=hyd8 f q h0 hok hlen I F L;have⟨S,O⟩:=hyd2 Q N;clear N Q L F I hlen hok h0 q f;go_enter Tryz.func44,Tryz.ntmps44;go_wp2_with (fail);go_at_call 70;refine g.out.mono ?_;rintro e w1 ⟨rfl,d⟩;have i:=hyd1 d;clear d;go_wp2_with (fail);go_at_call 71;refine(S.out w1 i.out).mono ?_;rintro e w2 ⟨rfl,r⟩;have m:=i.out.trans r;have ak:=(m.cell (p:=⟨b,t,none⟩) T).trans j;have⟨aa,y⟩:=hyd2 r m;clear m r;go_wp2_with (fail);go_at_call 72;refine(O.out w2).mono ?_;rintro e w3 ⟨rfl,n,rfl⟩;go_wp2;go_ret2;exact⟨rfl,y.out.trans (Below.of_drewN _ _)⟩
 ·rw[qJW h0];obtain⟨A,c,rfl,-⟩:=z;have hE:(qAt l != 0)=true:=by simpa using h0
  have U:(qAt l==0)=false:=by simpa using h0
  generalize qAt l=E at f h0 hE U ⊢;have g:=hyd1 f;clear f;go_enter Tryz.func44,Tryz.ntmps44;go_wp2_with (first | (go_at_call 70;((with_reducible refine(g.out).mono ?_);rintro e w' ⟨rfl,d⟩)));go_ret2;exact⟨rfl,d⟩
theorem qIW (l:List ArmA) (v:Value) (n:Int) (w:World) (hv:ArmsL w v l):
  Calls Tryz.prog 18 #[v,.int .i64 n] w λe w'=>e= .returned (.tuple #[.int .i64 (qB9 l n).1,.int .i64 (qB9 l n).2])/\Le w w':=by
 obtain⟨V,C⟩:=hv.vals;have d:=qLQ l v w hv;obtain⟨A,c,rfl,-⟩:=C
 by_cases h:qAt l=0
 ·rw[qKL h,h]at d
  by_cases B:1<=n/\n<=1000
  ·have j:qA0 n 1 1000=true:=within_iff.2 B;obtain⟨N,rfl⟩:∃N:Nat,n=(N:Int):=⟨n.toNat,by omega⟩
   by_cases k:qBH l=0
   ·have b:qB9 l (N:Int)=(1,0):=by unfold qB9;rw[if_neg (by simp[h]),if_neg (by simp;omega),if_pos k]
    rw[b];rw[k]at d;have⟨f,i,U,m⟩:=hyd4 d b k h;clear h k b d;go_enter Tryz.func18,Tryz.ntmps18;go_wp2_with (first | (go_at_call 44;((with_reducible refine(f.out).mono ?_);rintro e w' ⟨rfl,g⟩))| (go_at_call 22;((with_reducible refine(qAI _ _ _ _).mono ?_);rintro e w' ⟨rfl,rfl⟩;rw[j])));go_ret2;exact⟨rfl,g⟩
   ·obtain⟨O,p⟩:∃O,qBH l=O:=⟨_,rfl⟩;obtain⟨G,o⟩:∃G,Nat.gcd N O=G:=⟨_,rfl⟩;obtain⟨R,q⟩:∃R,N / G=R:=⟨_,rfl⟩;have b:qB9 l (N:Int)=((R:Int),0):=by unfold qB9;rw[if_neg (by simp[h]),if_neg (by simp;omega),if_neg k,p,Int.toNat_natCast,o,q]
    rw[b];have T:R<=1000:=by rw[<-q];exact Nat.le_trans (Nat.div_le_self _ _) (by omega)
    rw[p]at d k;have y:O<=1000000:=by rw[<-p];exact qM4 h
    have L:0<G:=by rw[<-o];exact Nat.gcd_pos_of_pos_left _ (by omega)
    have s:∀W,Calls Tryz.prog 28 #[.int .i64 (N:Int),.int .i64 (O:Int)] W λe w'=>e= .returned (.int .i64 (G:Int))/\∃n,w'=W.drewN n:=λW=>by
     have:=qOH N O W (by omega) y;rw[o]at this;exact this
    have I:((G:Int)==0)=false:=by simp;omega
    have J:¬(G:Int)=0:=by omega
    have r:(N:Int) / (G:Int)=(R:Int):=by rw[<-q];simp
    have z:(N:Int).tdiv (G:Int)=(R:Int):=by rw[Int.tdiv_eq_ediv_of_nonneg (by omega)];exact r
    have P:((O:Int)==0)=false:=by simp;omega
    have Q:¬O=0:=k;have⟨f,i,m,M,F,S,t⟩:=hyd7 d b h p o q s;clear s q o p h b d;go_enter Tryz.func18,Tryz.ntmps18;go_wp2_with (first | (go_at_call 44;((with_reducible refine(f.out).mono ?_);rintro e w' ⟨rfl,g⟩))| (go_at_call 22;((with_reducible refine(qAI _ _ _ _).mono ?_);rintro e w' ⟨rfl,rfl⟩;rw[j]))| (go_at_call 28;((with_reducible refine(t.out _).mono ?_);rintro e w' ⟨rfl,n,rfl⟩)));go_ret2;exact⟨rfl,g.trans (Below.of_drewN _ _)⟩
  ·have j:qA0 n 1 1000=false:=by rw[<-Bool.not_eq_true,within_iff];exact B
   have b:qB9 l n=(0,2):=by unfold qB9;rw[if_neg (by simp[h]),if_pos B]
   rw[b];generalize qBH l=O at d;have⟨f,i,m⟩:=hyd3 d b h;clear h b d;go_enter Tryz.func18,Tryz.ntmps18;go_wp2_with (first | (go_at_call 44;((with_reducible refine(f.out).mono ?_);rintro e w' ⟨rfl,g⟩))| (go_at_call 22;((with_reducible refine(qAI _ _ _ _).mono ?_);rintro e w' ⟨rfl,rfl⟩;rw[j])));go_ret2;exact⟨rfl,g⟩
 ·have b:qB9 l n=(0,qAt l):=by unfold qB9;rw[if_pos h]
  rw[b];rw[qJW h]at d;have D:(qAt l != 0)=true:=by simpa using h
  have x:(qAt l==0)=false:=by simpa using h
  generalize qAt l=E at d h D x ⊢;have⟨f,i⟩:=hyd2 d b;clear b d;go_enter Tryz.func18,Tryz.ntmps18;go_wp2_with (first | (go_at_call 44;((with_reducible refine(f.out).mono ?_);rintro e w' ⟨rfl,g⟩)));go_ret2;exact⟨rfl,g⟩
end Go.Proofs.YtbcbcdgbliheoaaGreat
